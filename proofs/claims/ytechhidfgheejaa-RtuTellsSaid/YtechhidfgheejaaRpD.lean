/- Replies are read: the six kinds (written by gen_rpd.py). -/
import Derived.Test.YtechhidfgheejaaRpC
import Derived.RegionTactic
import Derived.ChangeAlike
namespace Go.Proofs.Ytechhidfgheejaa
open Go.RowKit
set_option linter.unusedSimpArgs false
set_option linter.unusedVariables false

theorem RdN.drewN' {B : Nat} {w : World} {A : Option Addr} {xs : List Value} (h : RdN B w A xs) (n : Nat) : RdN B (w.drewN n) A xs := h
/-- a reply is told, in memory of its own -/
def ToldR (w : World) (r : Rp) (e : Ending) (w' : World) : Prop :=
  ∃ A c B d, e = .returned (r.v A c B d) ∧ RdN w.heap.size w' A (ws r.words) ∧ RdN w.heap.size w' B (os r.bits) ∧ Below w.heap.size w w'
set_option maxRecDepth 100000 in
set_option maxHeartbeats 2000000 in
theorem read_exc (A : Option Addr) (n c : Nat) (l : List Nat) (w : World) (hA : Rd w A (bs l)) (hn : l.length = n) (hl : Bs l) (hnc : n ≤ c) (h2 : 2 ≤ n) (hbig : n ≤ 1000) :
    Calls Try.prog 118 #[.agg #[], .slice A n c] w fun e w' => ToldR w (readK .exc l) e w' := by
  have HN := Lib.hid hn
  have hb := ((Below.refl _ w).alloc (Nat.le_refl _) (.cells #[] 84)).alloc (by simp [World.size_alloc]) (.cells #[.int .u8 0, .int .u8 0, .slice none 0 0, .slice none 0 0, .int .u16 0, .int .u16 0] 36)
  have bz := Blk.newAt (w.alloc (.cells #[] 84)) 36 #[.int .u8 0, .int .u8 0, .slice none 0 0, .slice none 0 0, .int .u16 0, .int .u16 0] (w.heap.size + 1) (World.size_alloc _ _)
  obtain ⟨g, hg⟩ : ∃ g, w.heap.size + 1 = g := ⟨_, rfl⟩
  have hwg : w.heap.size ≤ g := by omega
  have HG := Lib.hid hg
  rw [hg] at bz
  obtain ⟨bb, off, f, rfl, hx, cx⟩ := hA.byte (k := 0) (by rw [HN.out]; omega)
  rw [Nat.add_zero] at cx
  have hblk : bb < w.heap.size := World.block_lt_of_cell? w _ cx
  have hf := hl.get hx
  have HX : Hid (l.getD 0 0 = f) := getD_of hx
  have hbg : bb ≠ g := by omega
  have hgb : g ≠ bb := by omega
  have hn0 : 0 < n := by omega
  clear hn hg hx
  have HY : Hid (l.getD 1 0 = l.getD 1 0) := rfl
  have cy0 := hA.byteAt 1 (by rw [HN.out]; omega)
  have hy := getD_lt hl 1
  obtain ⟨y, hy1⟩ : ∃ y, l.getD 1 0 = y := ⟨_, rfl⟩
  rw [hy1] at cy0 hy
  have HY1 := Lib.hid hy1
  clear hy1 HY
  have hn1 : 1 < n := by omega
  have hn1i : (1 : Int) < (n : Int) := by omega
  have E := Lib.hid (fun W => reply_Wrong f y W hf hy)
  obtain ⟨f7, hf7⟩ : ∃ x, f % 128 = x := ⟨_, rfl⟩
  have HF7 := Lib.hid hf7
  rw [show (wrongR f y).v none 0 none 0 = .agg #[.int .u8 (f7 : Int), .int .u8 (y : Int), .slice none 0 0, .slice none 0 0, .int .u16 0, .int .u16 0] from by rw [← hf7]; rfl] at E
  clear hf7
  go_enter Try.func118, Try.ntmps118
  go_upto_region 1 with fail
  rw [HG.out]
  generalize (w.alloc (.cells #[] 84)).alloc (.cells #[.int .u8 0, .int .u8 0, .slice none 0 0, .slice none 0 0, .int .u16 0, .int .u16 0] 36) = w1 at *
  have hw1 := hb.size
  have KK : Hid (∀ W : World, Below w.heap.size w W → W.cell? ⟨bb, off, none⟩ = some (.int .u8 (f : Int)) ∧ W.cell? ⟨bb, off + 1, none⟩ = some (.int .u8 (y : Int))) := fun W hW => ⟨(hW.cell (p := ⟨bb, off, none⟩) hblk).trans cx, (hW.cell (p := ⟨bb, off + 1, none⟩) hblk).trans cy0⟩
  have K0 := Lib.hid (KK.out _ hb.drew)
  clear cx cy0
  refine wp_region_held_drew (S := fun W => W.cell? ⟨bb, off, none⟩ = some (.int .u8 (f : Int)) ∧ W.cell? ⟨bb, off + 1, none⟩ = some (.int .u8 (y : Int))) (by kernel_rfl) ?_ (fun hHeld => ?_)
  · (first | with_reducible exact K0.out | with_reducible exact K3.out | with_reducible exact K2.out)
  refine takeRun (i := 0) (v := ?_) rfl (by kernel_rfl) (by kernel_rfl) (by kernel_rfl) (fun _ _ _ h => h) rfl ?_ (by assumption) ?_
  rotate_left
  · (intro w hSw; (try dsimp only at hSw); go_simp; (try with_reducible rfl))
  try simp only [Act.put, List.setIfInBounds_toArray, List.set_cons_zero, List.set_cons_succ]
  refine takeRun (i := 1) (v := ?_) rfl (by kernel_rfl) (by kernel_rfl) (by kernel_rfl) (fun _ _ _ h => h) rfl ?_ (by assumption) ?_
  rotate_left
  · (intro w hSw; (try dsimp only at hSw); go_simp; (try with_reducible rfl))
  try simp only [Act.put, List.setIfInBounds_toArray, List.set_cons_zero, List.set_cons_succ]
  refine takeRun (i := 2) (v := ?_) rfl (by kernel_rfl) (by kernel_rfl) (by kernel_rfl) (fun _ _ _ h => h) rfl ?_ (by assumption) ?_
  rotate_left
  · (intro w hSw; (try dsimp only at hSw); go_simp; (try with_reducible rfl))
  try simp only [Act.put, List.setIfInBounds_toArray, List.set_cons_zero, List.set_cons_succ]
  refine takeRun (i := 3) (v := ?_) rfl (by kernel_rfl) (by kernel_rfl) (by kernel_rfl) (fun _ _ _ h => h) rfl ?_ (by assumption) ?_
  rotate_left
  · (intro w hSw; (try dsimp only at hSw); go_simp; (try with_reducible rfl))
  try simp only [Act.put, List.setIfInBounds_toArray, List.set_cons_zero, List.set_cons_succ]
  refine takeRun (i := 4) (v := ?_) rfl (by kernel_rfl) (by kernel_rfl) (by kernel_rfl) (fun _ _ _ h => h) rfl ?_ (by assumption) ?_
  rotate_left
  · (intro w hSw; (try dsimp only at hSw); go_simp; (try with_reducible rfl))
  try simp only [Act.put, List.setIfInBounds_toArray, List.set_cons_zero, List.set_cons_succ]
  refine takeRun (i := 5) (v := ?_) rfl (by kernel_rfl) (by kernel_rfl) (by kernel_rfl) (fun _ _ _ h => h) rfl ?_ (by assumption) ?_
  rotate_left
  · (intro w hSw; (try dsimp only at hSw); go_simp; (try with_reducible rfl))
  try simp only [Act.put, List.setIfInBounds_toArray, List.set_cons_zero, List.set_cons_succ]
  refine goOne (i := 6) (by kernel_rfl) rfl (fun K hK => ?_)
  go_simp
  (refine (E.out _).mono ?_; rintro e w2 ⟨rfl, hs⟩; replace hs := undrew hs; have hb2 := bthen hb hs; have K2 := Lib.hid (KK.out _ hb2); have K3 := Lib.hid (KK.out _ (bset6 hb2 hwg (.int .u8 (f7 : Int)) (.int .u8 (y : Int)) (.slice none 0 0) (.slice none 0 0) (.int .u16 0) (.int .u16 0))); have bz2 := bz.all hs; obtain ⟨z0, z1, z2, z3, z4, z5⟩ := bz2.c6; have q0 := bz2.frozen 0; have q1 := bz2.frozen 1; have q2 := bz2.frozen 2; have q3 := bz2.frozen 3; have q4 := bz2.frozen 4; have q5 := bz2.frozen 5)
  go_wp2_with fail
  refine hK.out _ _ ?_ (fun hHeld => ?_)
  · (first | with_reducible exact K0.out | with_reducible exact K3.out | with_reducible exact K2.out)
  clear hK K
  try simp only [Act.put, List.setIfInBounds_toArray, List.set_cons_zero, List.set_cons_succ]
  refine goOne (i := 7) (by kernel_rfl) rfl (fun K hK => ?_)
  go_simp
  refine hK.out _ _ ?_ (fun hHeld => ?_)
  · (first | with_reducible exact K0.out | with_reducible exact K3.out | with_reducible exact K2.out)
  clear hK K
  try simp only [Act.put, List.setIfInBounds_toArray, List.set_cons_zero, List.set_cons_succ]
  refine wpAnyH_done (by kernel_rfl) ?_ _
  go_wp2_with fail
  refine bodyPost_ret (v := .agg #[.int .u8 (f7 : Int), .int .u8 (y : Int), .slice none 0 0, .slice none 0 0, .int .u16 0, .int .u16 0]) (by simp [results, Try.results118, go_sem, z0, z1, z2, z3, z4, z5]) rfl ?_
  have HR : Hid (readK .exc l = ⟨f7, y, [], [], 0, 0⟩) := by (show _ = _); simp only [readK, wrongR]; rw [HX.out, HY1.out, HF7.out]
  rw [HR.out]
  exact ⟨none, 0, none, 0, rfl, RdN.nil, RdN.nil, bset6 hb2 hwg _ _ _ _ _ _⟩
set_option maxRecDepth 100000 in
set_option maxHeartbeats 2000000 in
theorem read_bl (A : Option Addr) (n c : Nat) (l : List Nat) (w : World) (hA : Rd w A (bs l)) (hn : l.length = n) (hl : Bs l) (hnc : n ≤ c) (h2 : 2 ≤ n) (hbig : n ≤ 1000) :
    Calls Try.prog 131 #[.agg #[], .slice A n c] w fun e w' => ToldR w (readK .bl l) e w' := by
  have HN := Lib.hid hn
  have hb := ((Below.refl _ w).alloc (Nat.le_refl _) (.cells #[] 133)).alloc (by simp [World.size_alloc]) (.cells #[.int .u8 0, .int .u8 0, .slice none 0 0, .slice none 0 0, .int .u16 0, .int .u16 0] 36)
  have bz := Blk.newAt (w.alloc (.cells #[] 133)) 36 #[.int .u8 0, .int .u8 0, .slice none 0 0, .slice none 0 0, .int .u16 0, .int .u16 0] (w.heap.size + 1) (World.size_alloc _ _)
  obtain ⟨g, hg⟩ : ∃ g, w.heap.size + 1 = g := ⟨_, rfl⟩
  have hwg : w.heap.size ≤ g := by omega
  have HG := Lib.hid hg
  rw [hg] at bz
  obtain ⟨bb, off, f, rfl, hx, cx⟩ := hA.byte (k := 0) (by rw [HN.out]; omega)
  rw [Nat.add_zero] at cx
  have hblk : bb < w.heap.size := World.block_lt_of_cell? w _ cx
  have hf := hl.get hx
  have HX : Hid (l.getD 0 0 = f) := getD_of hx
  have hbg : bb ≠ g := by omega
  have hgb : g ≠ bb := by omega
  have hn0 : 0 < n := by omega
  clear hn hg hx
  obtain ⟨A3, hsl3', rd3⟩ := slice_from_b hA HN.out hnc 2 (by omega)
  have hsl3 : ∀ W, (Instr.slice 29 (.slice (some ⟨bb, off, none⟩) n c) (some (.int .i64 2)) none none).run Try.prog W = .ok (.slice A3 (n - 2) (c - 2)) W := hsl3'
  have HL : Hid ((l.drop 2).length = n - 2) := by (show _ = _); rw [List.length_drop, HN.out]
  have HU : Hid ((unpk (l.drop 2)).length = 8 * (n - 2)) := by (show _ = _); rw [unpk_length, HL.out]
  have E := Lib.hid (fun W (h : Rd W A3 (bs (l.drop 2))) => ask_Unpack A3 (n - 2) (c - 2) (l.drop 2) W h HL.out (hl.drop 2) (by omega))
  clear hsl3'
  obtain ⟨m2, hm2⟩ : ∃ m, n - 2 = m := ⟨_, rfl⟩
  obtain ⟨c2, hc2⟩ : ∃ m, c - 2 = m := ⟨_, rfl⟩
  obtain ⟨mq, hmq⟩ : ∃ m, 8 * (n - 2) = m := ⟨_, rfl⟩
  rw [hm2] at hsl3 E HL HU hmq
  rw [hc2] at hsl3 E
  rw [hmq] at HU E
  clear hm2 hc2 hmq
  go_enter Try.func131, Try.ntmps131
  go_upto_region 1 with fail
  rw [HG.out]
  generalize (w.alloc (.cells #[] 133)).alloc (.cells #[.int .u8 0, .int .u8 0, .slice none 0 0, .slice none 0 0, .int .u16 0, .int .u16 0] 36) = w1 at *
  have hw1 := hb.size
  have KK : Hid (∀ W : World, Below w.heap.size w W → W.cell? ⟨bb, off, none⟩ = some (.int .u8 (f : Int))) := fun W hW => (hW.cell (p := ⟨bb, off, none⟩) hblk).trans cx
  have K0 := Lib.hid (KK.out _ hb.drew)
  have rd4 := rd3.below hb
  clear cx
  refine wp_region_held_drew (S := fun W => W.cell? ⟨bb, off, none⟩ = some (.int .u8 (f : Int))) (by kernel_rfl) ?_ (fun hHeld => ?_)
  · (first | with_reducible exact K0.out | with_reducible exact K3.out | with_reducible exact K2.out)
  refine takeRun (i := 0) (v := ?_) rfl (by kernel_rfl) (by kernel_rfl) (by kernel_rfl) (fun _ _ _ h => h) rfl ?_ (by assumption) ?_
  rotate_left
  · (intro w hSw; (try dsimp only at hSw); go_simp; (try with_reducible rfl))
  try simp only [Act.put, List.setIfInBounds_toArray, List.set_cons_zero, List.set_cons_succ]
  refine takeRun (i := 1) (v := ?_) rfl (by kernel_rfl) (by kernel_rfl) (by kernel_rfl) (fun _ _ _ h => h) rfl ?_ (by assumption) ?_
  rotate_left
  · (intro w hSw; (try dsimp only at hSw); go_simp; (try with_reducible rfl))
  try simp only [Act.put, List.setIfInBounds_toArray, List.set_cons_zero, List.set_cons_succ]
  refine takeRun (i := 2) (v := ?_) rfl (by kernel_rfl) (by kernel_rfl) (by kernel_rfl) (fun _ _ _ h => h) rfl ?_ (by assumption) ?_
  rotate_left
  · (intro w hSw; (try dsimp only at hSw); go_simp; (try with_reducible rfl))
  try simp only [Act.put, List.setIfInBounds_toArray, List.set_cons_zero, List.set_cons_succ]
  refine takeRun (i := 3) (v := ?_) rfl (by kernel_rfl) (by kernel_rfl) (by kernel_rfl) (fun _ _ _ h => h) rfl ?_ (by assumption) ?_
  rotate_left
  · (intro w hSw; (try dsimp only at hSw); go_simp; (try with_reducible rfl))
  try simp only [Act.put, List.setIfInBounds_toArray, List.set_cons_zero, List.set_cons_succ]
  refine takeRun (i := 4) (v := ?_) rfl (by kernel_rfl) (by kernel_rfl) (by kernel_rfl) (fun _ _ _ h => h) rfl ?_ (by assumption) ?_
  rotate_left
  · (intro w hSw; (try dsimp only at hSw); go_simp; (try with_reducible rfl))
  try simp only [Act.put, List.setIfInBounds_toArray, List.set_cons_zero, List.set_cons_succ]
  refine goOne (i := 5) (by kernel_rfl) rfl (fun K hK => ?_)
  go_simp
  (refine (E.out _ (Rd.drew rd4)).mono ?_; rintro e w2 ⟨A4, c4, rfl, o4, hs, -⟩; replace hs := undrew hs; have hb2 := bthen hb hs; have K2 := Lib.hid (KK.out _ hb2); have K3 := Lib.hid (KK.out _ (bset6 hb2 hwg (.int .u8 (f : Int)) (.int .u8 0) (.slice A4 mq c4) (.slice none 0 0) (.int .u16 0) (.int .u16 0))); have bz2 := bz.all hs; obtain ⟨z0, z1, z2, z3, z4, z5⟩ := bz2.c6; have q0 := bz2.frozen 0; have q1 := bz2.frozen 1; have q2 := bz2.frozen 2; have q3 := bz2.frozen 3; have q4 := bz2.frozen 4; have q5 := bz2.frozen 5)
  go_wp2_with fail
  refine hK.out _ _ ?_ (fun hHeld => ?_)
  · (first | with_reducible exact K0.out | with_reducible exact K3.out | with_reducible exact K2.out)
  clear hK K
  try simp only [Act.put, List.setIfInBounds_toArray, List.set_cons_zero, List.set_cons_succ]
  refine takeRun (i := 6) (v := ?_) rfl (by kernel_rfl) (by kernel_rfl) (by kernel_rfl) (fun _ _ _ h => h) rfl ?_ (by assumption) ?_
  rotate_left
  · (intro w hSw; (try dsimp only at hSw); go_simp; (try with_reducible rfl))
  try simp only [Act.put, List.setIfInBounds_toArray, List.set_cons_zero, List.set_cons_succ]
  refine goOne (i := 7) (by kernel_rfl) rfl (fun K hK => ?_)
  go_simp
  refine hK.out _ _ ?_ (fun hHeld => ?_)
  · (first | with_reducible exact K0.out | with_reducible exact K3.out | with_reducible exact K2.out)
  clear hK K
  try simp only [Act.put, List.setIfInBounds_toArray, List.set_cons_zero, List.set_cons_succ]
  refine wpAnyH_done (by kernel_rfl) ?_ _
  go_wp2_with fail
  refine bodyPost_ret (v := .agg #[.int .u8 (f : Int), .int .u8 0, .slice A4 mq c4, .slice none 0 0, .int .u16 0, .int .u16 0]) (by simp [results, Try.results131, go_sem, z0, z1, z2, z3, z4, z5]) rfl ?_
  have HR : Hid (readK .bl l = ⟨f, 0, unpk (l.drop 2), [], 0, 0⟩) := by (show _ = _); simp only [readK]; rw [HX.out]
  have hg1 : g < w1.heap.size := bz.lt
  rw [HR.out]
  refine ⟨none, 0, A4, c4, by unfold Rp.v rpV; simp only; rw [HU.out]; rfl, RdN.nil, RdN.set6 ⟨o4.rdN, hb.size⟩ hg1, bset6 hb2 hwg _ _ _ _ _ _⟩
set_option maxRecDepth 100000 in
set_option maxHeartbeats 2000000 in
theorem read_wl (A : Option Addr) (n c : Nat) (l : List Nat) (w : World) (hA : Rd w A (bs l)) (hn : l.length = n) (hl : Bs l) (hnc : n ≤ c) (h2 : 2 ≤ n) (hbig : n ≤ 1000) :
    Calls Try.prog 134 #[.agg #[], .slice A n c] w fun e w' => ToldR w (readK .wl l) e w' := by
  have HN := Lib.hid hn
  have hb := ((Below.refl _ w).alloc (Nat.le_refl _) (.cells #[] 134)).alloc (by simp [World.size_alloc]) (.cells #[.int .u8 0, .int .u8 0, .slice none 0 0, .slice none 0 0, .int .u16 0, .int .u16 0] 36)
  have bz := Blk.newAt (w.alloc (.cells #[] 134)) 36 #[.int .u8 0, .int .u8 0, .slice none 0 0, .slice none 0 0, .int .u16 0, .int .u16 0] (w.heap.size + 1) (World.size_alloc _ _)
  obtain ⟨g, hg⟩ : ∃ g, w.heap.size + 1 = g := ⟨_, rfl⟩
  have hwg : w.heap.size ≤ g := by omega
  have HG := Lib.hid hg
  rw [hg] at bz
  obtain ⟨bb, off, f, rfl, hx, cx⟩ := hA.byte (k := 0) (by rw [HN.out]; omega)
  rw [Nat.add_zero] at cx
  have hblk : bb < w.heap.size := World.block_lt_of_cell? w _ cx
  have hf := hl.get hx
  have HX : Hid (l.getD 0 0 = f) := getD_of hx
  have hbg : bb ≠ g := by omega
  have hgb : g ≠ bb := by omega
  have hn0 : 0 < n := by omega
  clear hn hg hx
  obtain ⟨A3, hsl3', rd3⟩ := slice_from_b hA HN.out hnc 2 (by omega)
  have hsl3 : ∀ W, (Instr.slice 29 (.slice (some ⟨bb, off, none⟩) n c) (some (.int .i64 2)) none none).run Try.prog W = .ok (.slice A3 (n - 2) (c - 2)) W := hsl3'
  have HL : Hid ((l.drop 2).length = n - 2) := by (show _ = _); rw [List.length_drop, HN.out]
  have HU : Hid ((pairs (l.drop 2)).length = (n - 2) / 2) := by (show _ = _); rw [pairs_length, HL.out]
  have E := Lib.hid (fun W (h : Rd W A3 (bs (l.drop 2))) => rep_list A3 (n - 2) (c - 2) (l.drop 2) W h HL.out (hl.drop 2) (by omega))
  clear hsl3'
  obtain ⟨m2, hm2⟩ : ∃ m, n - 2 = m := ⟨_, rfl⟩
  obtain ⟨c2, hc2⟩ : ∃ m, c - 2 = m := ⟨_, rfl⟩
  obtain ⟨mq, hmq⟩ : ∃ m, (n - 2) / 2 = m := ⟨_, rfl⟩
  rw [hm2] at hsl3 E HL HU hmq
  rw [hc2] at hsl3 E
  rw [hmq] at HU E
  clear hm2 hc2 hmq
  go_enter Try.func134, Try.ntmps134
  go_upto_region 1 with fail
  rw [HG.out]
  generalize (w.alloc (.cells #[] 134)).alloc (.cells #[.int .u8 0, .int .u8 0, .slice none 0 0, .slice none 0 0, .int .u16 0, .int .u16 0] 36) = w1 at *
  have hw1 := hb.size
  have KK : Hid (∀ W : World, Below w.heap.size w W → W.cell? ⟨bb, off, none⟩ = some (.int .u8 (f : Int))) := fun W hW => (hW.cell (p := ⟨bb, off, none⟩) hblk).trans cx
  have K0 := Lib.hid (KK.out _ hb.drew)
  have rd4 := rd3.below hb
  clear cx
  refine wp_region_held_drew (S := fun W => W.cell? ⟨bb, off, none⟩ = some (.int .u8 (f : Int))) (by kernel_rfl) ?_ (fun hHeld => ?_)
  · (first | with_reducible exact K0.out | with_reducible exact K3.out | with_reducible exact K2.out)
  refine takeRun (i := 0) (v := ?_) rfl (by kernel_rfl) (by kernel_rfl) (by kernel_rfl) (fun _ _ _ h => h) rfl ?_ (by assumption) ?_
  rotate_left
  · (intro w hSw; (try dsimp only at hSw); go_simp; (try with_reducible rfl))
  try simp only [Act.put, List.setIfInBounds_toArray, List.set_cons_zero, List.set_cons_succ]
  refine takeRun (i := 1) (v := ?_) rfl (by kernel_rfl) (by kernel_rfl) (by kernel_rfl) (fun _ _ _ h => h) rfl ?_ (by assumption) ?_
  rotate_left
  · (intro w hSw; (try dsimp only at hSw); go_simp; (try with_reducible rfl))
  try simp only [Act.put, List.setIfInBounds_toArray, List.set_cons_zero, List.set_cons_succ]
  refine takeRun (i := 2) (v := ?_) rfl (by kernel_rfl) (by kernel_rfl) (by kernel_rfl) (fun _ _ _ h => h) rfl ?_ (by assumption) ?_
  rotate_left
  · (intro w hSw; (try dsimp only at hSw); go_simp; (try with_reducible rfl))
  try simp only [Act.put, List.setIfInBounds_toArray, List.set_cons_zero, List.set_cons_succ]
  refine takeRun (i := 3) (v := ?_) rfl (by kernel_rfl) (by kernel_rfl) (by kernel_rfl) (fun _ _ _ h => h) rfl ?_ (by assumption) ?_
  rotate_left
  · (intro w hSw; (try dsimp only at hSw); go_simp; (try with_reducible rfl))
  try simp only [Act.put, List.setIfInBounds_toArray, List.set_cons_zero, List.set_cons_succ]
  refine takeRun (i := 4) (v := ?_) rfl (by kernel_rfl) (by kernel_rfl) (by kernel_rfl) (fun _ _ _ h => h) rfl ?_ (by assumption) ?_
  rotate_left
  · (intro w hSw; (try dsimp only at hSw); go_simp; (try with_reducible rfl))
  try simp only [Act.put, List.setIfInBounds_toArray, List.set_cons_zero, List.set_cons_succ]
  refine goOne (i := 5) (by kernel_rfl) rfl (fun K hK => ?_)
  go_simp
  (refine (E.out _ (Rd.drew rd4)).mono ?_; rintro e w2 ⟨A4, c4, rfl, o4, hs⟩; replace hs := undrew hs; have hb2 := bthen hb hs; have K2 := Lib.hid (KK.out _ hb2); have K3 := Lib.hid (KK.out _ (bset6 hb2 hwg (.int .u8 (f : Int)) (.int .u8 0) (.slice none 0 0) (.slice A4 mq c4) (.int .u16 0) (.int .u16 0))); have bz2 := bz.all hs; obtain ⟨z0, z1, z2, z3, z4, z5⟩ := bz2.c6; have q0 := bz2.frozen 0; have q1 := bz2.frozen 1; have q2 := bz2.frozen 2; have q3 := bz2.frozen 3; have q4 := bz2.frozen 4; have q5 := bz2.frozen 5)
  go_wp2_with fail
  refine hK.out _ _ ?_ (fun hHeld => ?_)
  · (first | with_reducible exact K0.out | with_reducible exact K3.out | with_reducible exact K2.out)
  clear hK K
  try simp only [Act.put, List.setIfInBounds_toArray, List.set_cons_zero, List.set_cons_succ]
  refine takeRun (i := 6) (v := ?_) rfl (by kernel_rfl) (by kernel_rfl) (by kernel_rfl) (fun _ _ _ h => h) rfl ?_ (by assumption) ?_
  rotate_left
  · (intro w hSw; (try dsimp only at hSw); go_simp; (try with_reducible rfl))
  try simp only [Act.put, List.setIfInBounds_toArray, List.set_cons_zero, List.set_cons_succ]
  refine goOne (i := 7) (by kernel_rfl) rfl (fun K hK => ?_)
  go_simp
  refine hK.out _ _ ?_ (fun hHeld => ?_)
  · (first | with_reducible exact K0.out | with_reducible exact K3.out | with_reducible exact K2.out)
  clear hK K
  try simp only [Act.put, List.setIfInBounds_toArray, List.set_cons_zero, List.set_cons_succ]
  refine wpAnyH_done (by kernel_rfl) ?_ _
  go_wp2_with fail
  refine bodyPost_ret (v := .agg #[.int .u8 (f : Int), .int .u8 0, .slice none 0 0, .slice A4 mq c4, .int .u16 0, .int .u16 0]) (by simp [results, Try.results134, go_sem, z0, z1, z2, z3, z4, z5]) rfl ?_
  have HR : Hid (readK .wl l = ⟨f, 0, [], pairs (l.drop 2), 0, 0⟩) := by (show _ = _); simp only [readK]; rw [HX.out]
  have hg1 : g < w1.heap.size := bz.lt
  rw [HR.out]
  refine ⟨A4, c4, none, 0, by unfold Rp.v rpV; simp only; rw [HU.out]; rfl, RdN.set6 ⟨o4.rdN, hb.size⟩ hg1, RdN.nil, bset6 hb2 hwg _ _ _ _ _ _⟩
set_option maxRecDepth 100000 in
set_option maxHeartbeats 2000000 in
theorem read_ob (A : Option Addr) (n c : Nat) (l : List Nat) (w : World) (hA : Rd w A (bs l)) (hn : l.length = n) (hl : Bs l) (hnc : n ≤ c) (h2 : 2 ≤ n) (hbig : n ≤ 1000) :
    Calls Try.prog 139 #[.agg #[], .slice A n c] w fun e w' => ToldR w (readK .ob l) e w' := by
  have HN := Lib.hid hn
  have hb := ((Below.refl _ w).alloc (Nat.le_refl _) (.cells #[] 135)).alloc (by simp [World.size_alloc]) (.cells #[.int .u8 0, .int .u8 0, .slice none 0 0, .slice none 0 0, .int .u16 0, .int .u16 0] 36)
  have bz := Blk.newAt (w.alloc (.cells #[] 135)) 36 #[.int .u8 0, .int .u8 0, .slice none 0 0, .slice none 0 0, .int .u16 0, .int .u16 0] (w.heap.size + 1) (World.size_alloc _ _)
  obtain ⟨g, hg⟩ : ∃ g, w.heap.size + 1 = g := ⟨_, rfl⟩
  have hwg : w.heap.size ≤ g := by omega
  have HG := Lib.hid hg
  rw [hg] at bz
  obtain ⟨bb, off, f, rfl, hx, cx⟩ := hA.byte (k := 0) (by rw [HN.out]; omega)
  rw [Nat.add_zero] at cx
  have hblk : bb < w.heap.size := World.block_lt_of_cell? w _ cx
  have hf := hl.get hx
  have HX : Hid (l.getD 0 0 = f) := getD_of hx
  have hbg : bb ≠ g := by omega
  have hgb : g ≠ bb := by omega
  have hn0 : 0 < n := by omega
  clear hn hg hx
  obtain ⟨A3, hsl3', rd3⟩ := slice_from_b hA HN.out hnc 1 (by omega)
  have hsl3 : ∀ W, (Instr.slice 29 (.slice (some ⟨bb, off, none⟩) n c) (some (.int .i64 1)) none none).run Try.prog W = .ok (.slice A3 (n - 1) (c - 1)) W := hsl3'
  have HL : Hid ((l.drop 1).length = n - 1) := by (show _ = _); rw [List.length_drop, HN.out]
  have HU : Hid ((pairs (l.drop 1)).length = (n - 1) / 2) := by (show _ = _); rw [pairs_length, HL.out]
  have E := Lib.hid (fun W (h : Rd W A3 (bs (l.drop 1))) => rep_list A3 (n - 1) (c - 1) (l.drop 1) W h HL.out (hl.drop 1) (by omega))
  clear hsl3'
  obtain ⟨mq, hmq⟩ : ∃ m, (n - 1) / 2 = m := ⟨_, rfl⟩
  rw [hmq] at HU E
  have hmq5 : (n < 5 ∧ mq < 2) ∨ (5 ≤ n ∧ 2 ≤ mq) := by omega
  clear hmq
  go_enter Try.func139, Try.ntmps139
  go_upto_region 1 with fail
  rw [HG.out]
  generalize (w.alloc (.cells #[] 135)).alloc (.cells #[.int .u8 0, .int .u8 0, .slice none 0 0, .slice none 0 0, .int .u16 0, .int .u16 0] 36) = w1 at *
  have hw1 := hb.size
  have rd4 := rd3.below hb
  go_wp2_with fail
  refine (E.out _ rd4).mono ?_
  rintro e w2 ⟨A4, c4, rfl, o4, hs⟩
  have hg1 : g < w1.heap.size := bz.lt
  replace bz := bz.all hs
  have hb2 := bthen hb hs
  have cx2 := (hb2.cell (p := ⟨bb, off, none⟩) hblk).trans cx
  clear cx hs rd4 rd3
  obtain ⟨z0, z1, z2, z3, z4, z5⟩ := bz.c6
  have q0 := bz.frozen 0
  have q1 := bz.frozen 1
  have q2 := bz.frozen 2
  have q3 := bz.frozen 3
  have q4 := bz.frozen 4
  have q5 := bz.frozen 5
  rcases hmq5 with ⟨h5, h5'⟩ | ⟨h5, h5'⟩
  · have v0 : (mq : Int) < 2 := by omega
    have HR : Hid (readK .ob l = Rp.zero) := by (show _ = _); simp only [readK]; rw [if_pos (by rw [HN.out]; exact h5)]
    go_wp2_with fail
    refine bodyPost_ret (v := .agg #[.int .u8 0, .int .u8 0, .slice none 0 0, .slice none 0 0, .int .u16 0, .int .u16 0]) (by simp [results, Try.results139, go_sem, z0, z1, z2, z3, z4, z5]) rfl ?_
    rw [HR.out]
    exact ⟨none, 0, none, 0, rfl, RdN.nil, RdN.nil, bset6 hb2 hwg _ _ _ _ _ _⟩
  have v0 : ¬ (mq : Int) < 2 := by omega
  have v1 : (1 : Int) < (mq : Int) := by omega
  have v2 : 0 < mq := by omega
  have v3 : 1 < mq := by omega
  obtain ⟨g4, rfl, hg4, hg4w, -, -⟩ := o4.head (by rw [ws_length, HU.out]; omega)
  have p0 := o4.rd.cellAt (pw_at (l := l) (i := 0) (by rw [HU.out]; omega))
  have p1 := o4.rd.cellAt (pw_at (l := l) (i := 1) (by rw [HU.out]; omega))
  rw [Nat.zero_add] at p0 p1
  have hp0 := pw_lt hl 0
  have hp1 := pw_lt hl 1
  obtain ⟨x0, hx0⟩ : ∃ x, pw l 0 = x := ⟨_, rfl⟩
  obtain ⟨x1, hx1⟩ : ∃ x, pw l 1 = x := ⟨_, rfl⟩
  rw [hx0] at p0 hp0
  rw [hx1] at p1 hp1
  have HX0 := Lib.hid hx0
  have HX1 := Lib.hid hx1
  have hg4g : g4 ≠ g := by omega
  have hgg4 : g ≠ g4 := by omega
  clear hx0 hx1 h5' o4
  have t0 := int_eqb x1 65280
  obtain ⟨y, hy⟩ : ∃ y, decide (x1 = 65280) = y := ⟨_, rfl⟩
  rw [hy] at t0
  have t1 : ((x1 : Int) == 65280) = y := t0
  have HY := Lib.hid hy
  clear hy t0
  have h3 := (Below.refl w2.heap.size w2).alloc (Nat.le_refl _) (.cells #[.bool y] 4)
  have bz3 := bz.all h3
  obtain ⟨y0, y1, y2, y3, y4, y5⟩ := bz3.c6
  have s0 := bz3.frozen 0
  have s1 := bz3.frozen 1
  have s2 := bz3.frozen 2
  have s3 := bz3.frozen 3
  have s4 := bz3.frozen 4
  have s5 := bz3.frozen 5
  have cx3 := (h3.cell (p := ⟨bb, off, none⟩) (World.block_lt_of_cell? _ _ cx2)).trans cx2
  have p03 := (h3.cell (p := ⟨g4, 0, none⟩) (World.block_lt_of_cell? _ _ p0)).trans p0
  have p13 := (h3.cell (p := ⟨g4, 1, none⟩) (World.block_lt_of_cell? _ _ p1)).trans p1
  clear h3
  go_upto_region 4 with fail
  go_region
  all_goals
    go_wp2_with fail
    refine bodyPost_ret (v := .agg #[.int .u8 (f : Int), .int .u8 0, .slice (some ⟨w2.heap.size, 0, none⟩) 1 1, .slice none 0 0, .int .u16 (x0 : Int), .int .u16 0]) (by simp [results, Try.results139, go_sem, y0, y1, y2, y3, y4, y5]) rfl ?_
    have HR : Hid (readK .ob l = ⟨f, 0, [y], [], x0, 0⟩) := by (show _ = _); simp only [readK]; rw [if_neg (by rw [HN.out]; omega), HX.out, HX0.out, HX1.out]; rw [HY.out]
    rw [HR.out]
    have rl := (RdN.lit w2 w2.heap.size rfl 4 [.bool y])
    exact ⟨none, 0, _, 1, rfl, RdN.nil, RdN.drewN' (RdN.set6 ⟨rl, hb2.size⟩ (by have := hb2.size; omega)) 1, below_drewN (bset6 (hb2.alloc hb2.size _) hwg _ _ _ _ _ _) 1⟩
set_option maxRecDepth 100000 in
set_option maxHeartbeats 2000000 in
theorem read_ow (A : Option Addr) (n c : Nat) (l : List Nat) (w : World) (hA : Rd w A (bs l)) (hn : l.length = n) (hl : Bs l) (hnc : n ≤ c) (h2 : 2 ≤ n) (hbig : n ≤ 1000) :
    Calls Try.prog 142 #[.agg #[], .slice A n c] w fun e w' => ToldR w (readK .ow l) e w' := by
  have HN := Lib.hid hn
  have hb := ((Below.refl _ w).alloc (Nat.le_refl _) (.cells #[] 136)).alloc (by simp [World.size_alloc]) (.cells #[.int .u8 0, .int .u8 0, .slice none 0 0, .slice none 0 0, .int .u16 0, .int .u16 0] 36)
  have bz := Blk.newAt (w.alloc (.cells #[] 136)) 36 #[.int .u8 0, .int .u8 0, .slice none 0 0, .slice none 0 0, .int .u16 0, .int .u16 0] (w.heap.size + 1) (World.size_alloc _ _)
  obtain ⟨g, hg⟩ : ∃ g, w.heap.size + 1 = g := ⟨_, rfl⟩
  have hwg : w.heap.size ≤ g := by omega
  have HG := Lib.hid hg
  rw [hg] at bz
  obtain ⟨bb, off, f, rfl, hx, cx⟩ := hA.byte (k := 0) (by rw [HN.out]; omega)
  rw [Nat.add_zero] at cx
  have hblk : bb < w.heap.size := World.block_lt_of_cell? w _ cx
  have hf := hl.get hx
  have HX : Hid (l.getD 0 0 = f) := getD_of hx
  have hbg : bb ≠ g := by omega
  have hgb : g ≠ bb := by omega
  have hn0 : 0 < n := by omega
  clear hn hg hx
  obtain ⟨A3, hsl3', rd3⟩ := slice_from_b hA HN.out hnc 1 (by omega)
  have hsl3 : ∀ W, (Instr.slice 29 (.slice (some ⟨bb, off, none⟩) n c) (some (.int .i64 1)) none none).run Try.prog W = .ok (.slice A3 (n - 1) (c - 1)) W := hsl3'
  have HL : Hid ((l.drop 1).length = n - 1) := by (show _ = _); rw [List.length_drop, HN.out]
  have HU : Hid ((pairs (l.drop 1)).length = (n - 1) / 2) := by (show _ = _); rw [pairs_length, HL.out]
  have E := Lib.hid (fun W (h : Rd W A3 (bs (l.drop 1))) => rep_list A3 (n - 1) (c - 1) (l.drop 1) W h HL.out (hl.drop 1) (by omega))
  clear hsl3'
  obtain ⟨mq, hmq⟩ : ∃ m, (n - 1) / 2 = m := ⟨_, rfl⟩
  rw [hmq] at HU E
  have hmq5 : (n < 5 ∧ mq < 2) ∨ (5 ≤ n ∧ 2 ≤ mq) := by omega
  clear hmq
  go_enter Try.func142, Try.ntmps142
  go_upto_region 1 with fail
  rw [HG.out]
  generalize (w.alloc (.cells #[] 136)).alloc (.cells #[.int .u8 0, .int .u8 0, .slice none 0 0, .slice none 0 0, .int .u16 0, .int .u16 0] 36) = w1 at *
  have hw1 := hb.size
  have rd4 := rd3.below hb
  go_wp2_with fail
  refine (E.out _ rd4).mono ?_
  rintro e w2 ⟨A4, c4, rfl, o4, hs⟩
  have hg1 : g < w1.heap.size := bz.lt
  replace bz := bz.all hs
  have hb2 := bthen hb hs
  have cx2 := (hb2.cell (p := ⟨bb, off, none⟩) hblk).trans cx
  clear cx hs rd4 rd3
  obtain ⟨z0, z1, z2, z3, z4, z5⟩ := bz.c6
  have q0 := bz.frozen 0
  have q1 := bz.frozen 1
  have q2 := bz.frozen 2
  have q3 := bz.frozen 3
  have q4 := bz.frozen 4
  have q5 := bz.frozen 5
  rcases hmq5 with ⟨h5, h5'⟩ | ⟨h5, h5'⟩
  · have v0 : (mq : Int) < 2 := by omega
    have HR : Hid (readK .ow l = Rp.zero) := by (show _ = _); simp only [readK]; rw [if_pos (by rw [HN.out]; exact h5)]
    go_wp2_with fail
    refine bodyPost_ret (v := .agg #[.int .u8 0, .int .u8 0, .slice none 0 0, .slice none 0 0, .int .u16 0, .int .u16 0]) (by simp [results, Try.results142, go_sem, z0, z1, z2, z3, z4, z5]) rfl ?_
    rw [HR.out]
    exact ⟨none, 0, none, 0, rfl, RdN.nil, RdN.nil, bset6 hb2 hwg _ _ _ _ _ _⟩
  have v0 : ¬ (mq : Int) < 2 := by omega
  have v1 : (1 : Int) < (mq : Int) := by omega
  have v2 : 0 < mq := by omega
  have v3 : 1 < mq := by omega
  obtain ⟨g4, rfl, hg4, hg4w, -, -⟩ := o4.head (by rw [ws_length, HU.out]; omega)
  have p0 := o4.rd.cellAt (pw_at (l := l) (i := 0) (by rw [HU.out]; omega))
  have p1 := o4.rd.cellAt (pw_at (l := l) (i := 1) (by rw [HU.out]; omega))
  rw [Nat.zero_add] at p0 p1
  have hp0 := pw_lt hl 0
  have hp1 := pw_lt hl 1
  obtain ⟨x0, hx0⟩ : ∃ x, pw l 0 = x := ⟨_, rfl⟩
  obtain ⟨x1, hx1⟩ : ∃ x, pw l 1 = x := ⟨_, rfl⟩
  rw [hx0] at p0 hp0
  rw [hx1] at p1 hp1
  have HX0 := Lib.hid hx0
  have HX1 := Lib.hid hx1
  have hg4g : g4 ≠ g := by omega
  have hgg4 : g ≠ g4 := by omega
  clear hx0 hx1 h5' o4
  have h3 := (Below.refl w2.heap.size w2).alloc (Nat.le_refl _) (.cells #[.int .u16 (x1 : Int)] 34)
  have bz3 := bz.all h3
  obtain ⟨y0, y1, y2, y3, y4, y5⟩ := bz3.c6
  have s0 := bz3.frozen 0
  have s1 := bz3.frozen 1
  have s2 := bz3.frozen 2
  have s3 := bz3.frozen 3
  have s4 := bz3.frozen 4
  have s5 := bz3.frozen 5
  have cx3 := (h3.cell (p := ⟨bb, off, none⟩) (World.block_lt_of_cell? _ _ cx2)).trans cx2
  have p03 := (h3.cell (p := ⟨g4, 0, none⟩) (World.block_lt_of_cell? _ _ p0)).trans p0
  have p13 := (h3.cell (p := ⟨g4, 1, none⟩) (World.block_lt_of_cell? _ _ p1)).trans p1
  clear h3
  go_upto_region 4 with fail
  go_region
  all_goals
    go_wp2_with fail
    refine bodyPost_ret (v := .agg #[.int .u8 (f : Int), .int .u8 0, .slice none 0 0, .slice (some ⟨w2.heap.size, 0, none⟩) 1 1, .int .u16 (x0 : Int), .int .u16 0]) (by simp [results, Try.results142, go_sem, y0, y1, y2, y3, y4, y5]) rfl ?_
    have HR : Hid (readK .ow l = ⟨f, 0, [], [x1], x0, 0⟩) := by (show _ = _); simp only [readK]; rw [if_neg (by rw [HN.out]; omega), HX.out, HX0.out, HX1.out]
    rw [HR.out]
    have rl := (RdN.lit w2 w2.heap.size rfl 34 [.int .u16 (x1 : Int)])
    exact ⟨_, 1, none, 0, rfl, RdN.drewN' (RdN.set6 ⟨rl, hb2.size⟩ (by have := hb2.size; omega)) 1, RdN.nil, below_drewN (bset6 (hb2.alloc hb2.size _) hwg _ _ _ _ _ _) 1⟩
set_option maxRecDepth 100000 in
set_option maxHeartbeats 2000000 in
theorem read_ct (m : Nat) (hm : m < 65536) (A : Option Addr) (n c : Nat) (l : List Nat) (w : World) (hA : Rd w A (bs l)) (hn : l.length = n) (hl : Bs l) (hnc : n ≤ c) (h2 : 2 ≤ n) (hbig : n ≤ 1000) :
    Calls Try.prog 145 #[.agg #[.int .u16 (m : Int)], .slice A n c] w fun e w' => ToldR w (readK (.ct m) l) e w' := by
  have HN := Lib.hid hn
  have hb := ((Below.refl _ w).alloc (Nat.le_refl _) (.cells #[.int .u16 (m : Int)] 138)).alloc (by simp [World.size_alloc]) (.cells #[.int .u8 0, .int .u8 0, .slice none 0 0, .slice none 0 0, .int .u16 0, .int .u16 0] 36)
  have bz := Blk.newAt (w.alloc (.cells #[.int .u16 (m : Int)] 138)) 36 #[.int .u8 0, .int .u8 0, .slice none 0 0, .slice none 0 0, .int .u16 0, .int .u16 0] (w.heap.size + 1) (World.size_alloc _ _)
  obtain ⟨g, hg⟩ : ∃ g, w.heap.size + 1 = g := ⟨_, rfl⟩
  have hwg : w.heap.size ≤ g := by omega
  have HG := Lib.hid hg
  rw [hg] at bz
  obtain ⟨bb, off, f, rfl, hx, cx⟩ := hA.byte (k := 0) (by rw [HN.out]; omega)
  rw [Nat.add_zero] at cx
  have hblk : bb < w.heap.size := World.block_lt_of_cell? w _ cx
  have hf := hl.get hx
  have HX : Hid (l.getD 0 0 = f) := getD_of hx
  have hbg : bb ≠ g := by omega
  have hgb : g ≠ bb := by omega
  have hn0 : 0 < n := by omega
  clear hn hg hx
  obtain ⟨A3, hsl3', rd3⟩ := slice_from_b hA HN.out hnc 1 (by omega)
  have hsl3 : ∀ W, (Instr.slice 29 (.slice (some ⟨bb, off, none⟩) n c) (some (.int .i64 1)) none none).run Try.prog W = .ok (.slice A3 (n - 1) (c - 1)) W := hsl3'
  have HL : Hid ((l.drop 1).length = n - 1) := by (show _ = _); rw [List.length_drop, HN.out]
  have HU : Hid ((pairs (l.drop 1)).length = (n - 1) / 2) := by (show _ = _); rw [pairs_length, HL.out]
  have E := Lib.hid (fun W (h : Rd W A3 (bs (l.drop 1))) => rep_list A3 (n - 1) (c - 1) (l.drop 1) W h HL.out (hl.drop 1) (by omega))
  clear hsl3'
  obtain ⟨mq, hmq⟩ : ∃ m, (n - 1) / 2 = m := ⟨_, rfl⟩
  rw [hmq] at HU E
  have hmq5 : (n < 5 ∧ mq < 2) ∨ (5 ≤ n ∧ 2 ≤ mq) := by omega
  clear hmq
  go_enter Try.func145, Try.ntmps145
  go_upto_region 1 with fail
  rw [HG.out]
  generalize (w.alloc (.cells #[.int .u16 (m : Int)] 138)).alloc (.cells #[.int .u8 0, .int .u8 0, .slice none 0 0, .slice none 0 0, .int .u16 0, .int .u16 0] 36) = w1 at *
  have hw1 := hb.size
  have rd4 := rd3.below hb
  go_wp2_with fail
  refine (E.out _ rd4).mono ?_
  rintro e w2 ⟨A4, c4, rfl, o4, hs⟩
  have hg1 : g < w1.heap.size := bz.lt
  replace bz := bz.all hs
  have hb2 := bthen hb hs
  have cx2 := (hb2.cell (p := ⟨bb, off, none⟩) hblk).trans cx
  clear cx hs rd4 rd3
  obtain ⟨z0, z1, z2, z3, z4, z5⟩ := bz.c6
  have q0 := bz.frozen 0
  have q1 := bz.frozen 1
  have q2 := bz.frozen 2
  have q3 := bz.frozen 3
  have q4 := bz.frozen 4
  have q5 := bz.frozen 5
  rcases hmq5 with ⟨h5, h5'⟩ | ⟨h5, h5'⟩
  · have v0 : (mq : Int) < 2 := by omega
    have HR : Hid (readK (.ct m) l = Rp.zero) := by (show _ = _); simp only [readK]; rw [if_pos (by rw [HN.out]; exact h5)]
    go_wp2_with fail
    refine bodyPost_ret (v := .agg #[.int .u8 0, .int .u8 0, .slice none 0 0, .slice none 0 0, .int .u16 0, .int .u16 0]) (by simp [results, Try.results145, go_sem, z0, z1, z2, z3, z4, z5]) rfl ?_
    rw [HR.out]
    exact ⟨none, 0, none, 0, rfl, RdN.nil, RdN.nil, bset6 hb2 hwg _ _ _ _ _ _⟩
  have v0 : ¬ (mq : Int) < 2 := by omega
  have v1 : (1 : Int) < (mq : Int) := by omega
  have v2 : 0 < mq := by omega
  have v3 : 1 < mq := by omega
  obtain ⟨g4, rfl, hg4, hg4w, -, -⟩ := o4.head (by rw [ws_length, HU.out]; omega)
  have p0 := o4.rd.cellAt (pw_at (l := l) (i := 0) (by rw [HU.out]; omega))
  have p1 := o4.rd.cellAt (pw_at (l := l) (i := 1) (by rw [HU.out]; omega))
  rw [Nat.zero_add] at p0 p1
  have hp0 := pw_lt hl 0
  have hp1 := pw_lt hl 1
  obtain ⟨x0, hx0⟩ : ∃ x, pw l 0 = x := ⟨_, rfl⟩
  obtain ⟨x1, hx1⟩ : ∃ x, pw l 1 = x := ⟨_, rfl⟩
  rw [hx0] at p0 hp0
  rw [hx1] at p1 hp1
  have HX0 := Lib.hid hx0
  have HX1 := Lib.hid hx1
  have hg4g : g4 ≠ g := by omega
  have hgg4 : g ≠ g4 := by omega
  clear hx0 hx1 h5' o4
  go_upto_region 4 with fail
  go_region
  all_goals
    go_wp2_with fail
    refine bodyPost_ret (v := .agg #[.int .u8 (f : Int), .int .u8 0, .slice none 0 0, .slice none 0 0, .int .u16 (x0 : Int), .int .u16 (x1 : Int)]) (by simp [results, Try.results145, go_sem, z0, z1, z2, z3, z4, z5]) rfl ?_
    have HR : Hid (readK (.ct m) l = ⟨f, 0, [], [], x0, x1⟩) := by (show _ = _); simp only [readK]; rw [if_neg (by rw [HN.out]; omega), HX.out, HX0.out, HX1.out]
    rw [HR.out]
    exact ⟨none, 0, none, 0, rfl, RdN.nil, RdN.nil, below_drewN (bset6 hb2 hwg _ _ _ _ _ _) 1⟩
theorem read_any (k : Kd) (hk' : k.ok) (A : Option Addr) (n c : Nat) (l : List Nat) (w : World) (hA : Rd w A (bs l)) (hn : l.length = n) (hl : Bs l) (hnc : n ≤ c) (h2 : 2 ≤ n) (hbig : n ≤ 1000) :
    Calls Try.prog k.fread #[k.v, .slice A n c] w fun e w' => ToldR w (readK k l) e w' := by
  cases k with
  | exc => exact read_exc A n c l w hA hn hl hnc h2 hbig
  | bl => exact read_bl A n c l w hA hn hl hnc h2 hbig
  | wl => exact read_wl A n c l w hA hn hl hnc h2 hbig
  | ob => exact read_ob A n c l w hA hn hl hnc h2 hbig
  | ow => exact read_ow A n c l w hA hn hl hnc h2 hbig
  | ct m => exact read_ct m hk' A n c l w hA hn hl hnc h2 hbig
end Go.Proofs.Ytechhidfgheejaa
