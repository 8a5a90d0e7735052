/- The walk of the reference's Echo (written by gen_rreff.py). -/
import Derived.Test.YtechhidfgheejaaRefRP
import Derived.Test.YtechhidfgheejaaRefB
import Derived.Test.YtechhidfgheejaaRegion2
import Derived.Deep.DeepCutAuto
namespace Go.Proofs.Ytechhidfgheejaa
open Go.RowKit
set_option linter.unusedSimpArgs false
set_option linter.unusedVariables false

set_option maxRecDepth 100000 in
set_option maxHeartbeats 4000000 in
theorem rref_Echo (a : Ak) (A : Option Addr) (c : Nat) (B : Option Addr) (d : Nat) (w : World) (hR : AkR w a A B) (hok : a.ok) (hw : a.words.length ≤ 1000000) (hk : a.bits.length ≤ 1000000) :
    Calls Try.prog 47 #[a.v A c B d] w fun e w' => ToldQ w (echoA a) (.bool true) (.bool false) e w' := by
  have HW : Hid (echoA a = if rightA a then (if a.fn = 5 then some ⟨5, 0, [a.bits.getD 0 false], [], a.at_, 0⟩ else if a.fn = 6 then some ⟨6, 0, [], [a.words.getD 0 0], a.at_, 0⟩ else if a.fn = 15 ∨ a.fn = 16 then some ⟨a.fn, 0, [], [], a.at_, a.many⟩ else none) else none) := rfl
  generalize echoA a = p at *
  have E1 := Lib.hid (fun W => ref_Right a.fn a.at_ a.many a.to_ A a.words.length c B a.bits.length d W hok.many (by omega) (by omega))
  obtain ⟨rt, hrt⟩ : ∃ b, rightA a = b := ⟨_, rfl⟩
  rw [show rightN a.fn a.many a.to_ a.words.length a.bits.length = rt from hrt] at E1
  have HRT := Lib.hid hrt
  clear hrt
  simp only [Ak.v, akV] at E1 ⊢
  have hb := ((Below.refl w.heap.size w).alloc (Nat.le_refl _) (.cells #[.int .u8 (a.fn : Int), .int .u16 (a.at_ : Int), .int .u16 (a.many : Int), .int .u16 (a.to_ : Int), .slice A a.words.length c, .slice B a.bits.length d] 41)).alloc (by simp [World.size_alloc]) (.cells #[.int .u8 0, .int .u8 0, .slice none 0 0, .slice none 0 0, .int .u16 0, .int .u16 0] 36)
  have bx := (Blk.new w 41 #[.int .u8 (a.fn : Int), .int .u16 (a.at_ : Int), .int .u16 (a.many : Int), .int .u16 (a.to_ : Int), .slice A a.words.length c, .slice B a.bits.length d]).alloc (.cells #[.int .u8 0, .int .u8 0, .slice none 0 0, .slice none 0 0, .int .u16 0, .int .u16 0] 36)
  have bz := Blk.newAt (w.alloc (.cells #[.int .u8 (a.fn : Int), .int .u16 (a.at_ : Int), .int .u16 (a.many : Int), .int .u16 (a.to_ : Int), .slice A a.words.length c, .slice B a.bits.length d] 41)) 36 #[.int .u8 0, .int .u8 0, .slice none 0 0, .slice none 0 0, .int .u16 0, .int .u16 0] (w.heap.size + 1) (World.size_alloc _ _)
  go_enter Try.func47, Try.ntmps47
  go_upto_region 1 with fail
  generalize (w.alloc (.cells #[.int .u8 (a.fn : Int), .int .u16 (a.at_ : Int), .int .u16 (a.many : Int), .int .u16 (a.to_ : Int), .slice A a.words.length c, .slice B a.bits.length d] 41)).alloc (.cells #[.int .u8 0, .int .u8 0, .slice none 0 0, .slice none 0 0, .int .u16 0, .int .u16 0] 36) = w1 at *
  obtain ⟨g, hg⟩ : ∃ g, w.heap.size + 1 = g := ⟨_, rfl⟩
  have hwg : w.heap.size ≤ g := by omega
  rw [hg] at bz ⊢
  obtain ⟨g0, hg0⟩ : ∃ g, w.heap.size = g := ⟨_, rfl⟩
  have hne : g0 ≠ g := by omega
  clear hg
  rw [hg0] at bx ⊢
  clear hg0
  have hg1 : g < w1.heap.size := bz.lt
  have hww : w.heap.size ≤ w1.heap.size := hb.size
  obtain ⟨d0, d1, d2, d3, d4, d5⟩ := bx.c6
  go_wp2_with fail
  refine (E1.out _).mono ?_
  rintro e w2 ⟨rfl, hs⟩
  have hw12 := hs.size
  replace hb := bthen hb hs
  replace bx := bx.all hs
  replace bz := bz.all hs
  clear hs d0 d1 d2 d3 d4 d5
  obtain ⟨d0, d1, d2, d3, d4, d5⟩ := bx.c6
  cases rt with
  | false =>
    have HR : Hid (p = none) := by (show _ = _); rw [HW.out, HRT.out]; rfl
    obtain ⟨z0, z1, z2, z3, z4, z5⟩ := bz.c6
    have q0 := bz.frozen 0
    have q1 := bz.frozen 1
    have q2 := bz.frozen 2
    have q3 := bz.frozen 3
    have q4 := bz.frozen 4
    have q5 := bz.frozen 5
    go_wp2_with fail
    refine bodyPost_ret (v := .tuple #[.agg #[.int .u8 0, .int .u8 0, .slice none 0 0, .slice none 0 0, .int .u16 0, .int .u16 0], .bool false]) (by simp [results, Try.results47, go_sem, z0, z1, z2, z3, z4, z5]) rfl ?_
    rw [HR.out]
    exact ⟨rfl, bset6 hb hwg _ _ _ _ _ _⟩
  | true =>
  have HW2 : Hid (p = if a.fn = 5 then some ⟨5, 0, [a.bits.getD 0 false], [], a.at_, 0⟩ else if a.fn = 6 then some ⟨6, 0, [], [a.words.getD 0 0], a.at_, 0⟩ else if a.fn = 15 ∨ a.fn = 16 then some ⟨a.fn, 0, [], [], a.at_, a.many⟩ else none) := by (show _ = _); rw [HW.out, HRT.out]; rfl
  clear HW
  have hRT := HRT.out
  by_cases h5 : a.fn = 5
  · have hb1 : a.bits.length = 1 := by
      have h := hRT
      unfold rightA at h
      rw [h5] at h
      exact right5 h
    obtain ⟨x, hx⟩ := List.length_eq_one_iff.1 hb1
    have HR : Hid (p = some ⟨5, 0, [x], [], a.at_, 0⟩) := by (show _ = _); rw [HW2.out, if_pos h5, hx]; rfl
    have rb := hR.bits
    rw [hx] at rb
    obtain ⟨bb, off, x', rfl, hx', cx⟩ := rb.bit (k := 0) (by simp)
    rw [Nat.add_zero] at cx
    obtain rfl : x = x' := by simpa using hx'
    have t5 : ((a.fn : Int) == 5) = true := by simp [h5]
    have hn0 : 0 < a.bits.length := by omega
    have hn1 : (0 : Int) < (a.bits.length : Int) := by omega
    have K0 : Hid (∀ W : World, Below w.heap.size w W → W.cell? ⟨bb, off, none⟩ = some (.bool x)) := fun W hW => (hW.cell (World.block_lt_of_cell? w _ cx)).trans cx
    clear hx' hx hb1 rb hRT h5  cx
    go_upto_region 4 with fail
    clear d0 d1 d2 d3 d4 d5
    replace bx := bx.drew
    replace bz := bz.drew
    replace hb := hb.drew
    have hw12' : w1.heap.size ≤ w2.drew.heap.size := hw12
    clear hw12
    refine wp_region_held_drew (S := fun W => W.cell? ⟨g0, 1, none⟩ = some (.int .u16 (a.at_ : Int)) ∧ W.cell? ⟨g0, 5, none⟩ = some (.slice (some ⟨bb, off, none⟩) a.bits.length d) ∧ W.cell? ⟨bb, off, none⟩ = some (.bool x)) (by kernel_rfl) ?_ (fun hHeld => ?_)
    · exact ⟨bx.cell 1, bx.cell 5, K0.out _ hb⟩
    generalize w2.drew = wD at *
    refine takeRun (i := 0) (v := ?_) rfl (by kernel_rfl) (by kernel_rfl) (by kernel_rfl) (fun _ _ _ h => h) rfl ?_ (by assumption) ?_
    rotate_left
    · (intro w hSw; (try dsimp only at hSw); go_simp; (try with_reducible rfl))
    try simp only [Act.put, List.setIfInBounds_toArray, List.set_cons_zero, List.set_cons_succ]
    refine takeRun (i := 1) (v := ?_) rfl (by kernel_rfl) (by kernel_rfl) (by kernel_rfl) (fun _ _ _ h => h) rfl ?_ (by assumption) ?_
    rotate_left
    · (intro w hSw; (try dsimp only at hSw); go_simp; (try with_reducible rfl))
    try simp only [Act.put, List.setIfInBounds_toArray, List.set_cons_zero, List.set_cons_succ]
    refine takeRun (i := 2) (v := ?_) rfl (by kernel_rfl) (by kernel_rfl) (by kernel_rfl) (fun _ _ _ h => h) rfl ?_ (by assumption) ?_
    rotate_left
    · (intro w hSw; (try dsimp only at hSw); go_simp; (try with_reducible rfl))
    try simp only [Act.put, List.setIfInBounds_toArray, List.set_cons_zero, List.set_cons_succ]
    refine takeRun (i := 3) (v := ?_) rfl (by kernel_rfl) (by kernel_rfl) (by kernel_rfl) (fun _ _ _ h => h) rfl ?_ (by assumption) ?_
    rotate_left
    · (intro w hSw; (try dsimp only at hSw); go_simp; (try with_reducible rfl))
    try simp only [Act.put, List.setIfInBounds_toArray, List.set_cons_zero, List.set_cons_succ]
    refine takeRun (i := 4) (v := ?_) rfl (by kernel_rfl) (by kernel_rfl) (by kernel_rfl) (fun _ _ _ h => h) rfl ?_ (by assumption) ?_
    rotate_left
    · (intro w hSw; (try dsimp only at hSw); go_simp; (try with_reducible rfl))
    try simp only [Act.put, List.setIfInBounds_toArray, List.set_cons_zero, List.set_cons_succ]
    refine takeRun (i := 5) (v := ?_) rfl (by kernel_rfl) (by kernel_rfl) (by kernel_rfl) (fun _ _ _ h => h) rfl ?_ (by assumption) ?_
    rotate_left
    · (intro w hSw; (try dsimp only at hSw); go_simp; (try with_reducible rfl))
    try simp only [Act.put, List.setIfInBounds_toArray, List.set_cons_zero, List.set_cons_succ]
    refine goOne (i := 6) (by kernel_rfl) rfl (fun K hK => ?_)
    replace bx := bx.alloc (.cells #[.bool x] 4)
    replace bz := bz.alloc (.cells #[.bool x] 4)
    replace hb := hb.alloc hb.size (.cells #[.bool x] 4)
    obtain ⟨gl, hgl⟩ : ∃ g, wD.heap.size = g := ⟨_, rfl⟩
    have hgl1 : w1.heap.size ≤ gl := by omega
    have rl := RdN.lit wD gl hgl 4 [.bool x]
    go_simp
    generalize wD.alloc (.cells #[.bool x] 4) = y1 at *
    (try rw [hgl])
    (try rw [hgl] at *)
    clear hgl
    refine hK.out _ _ ?_ (fun hHeld => ?_)
    · exact ⟨bx.cell 1, bx.cell 5, K0.out _ hb⟩
    clear hK K
    try simp only [Act.put, List.setIfInBounds_toArray, List.set_cons_zero, List.set_cons_succ]
    refine takeRun (i := 7) (v := ?_) rfl (by kernel_rfl) (by kernel_rfl) (by kernel_rfl) (fun _ _ _ h => h) rfl ?_ (by assumption) ?_
    rotate_left
    · (intro w hSw; (try dsimp only at hSw); go_simp; (try with_reducible rfl))
    try simp only [Act.put, List.setIfInBounds_toArray, List.set_cons_zero, List.set_cons_succ]
    refine goOne (i := 8) (by kernel_rfl) rfl (fun K hK => ?_)
    obtain ⟨z0, z1, z2, z3, z4, z5⟩ := bz.c6
    have q0 := bz.frozen 0
    have q1 := bz.frozen 1
    have q2 := bz.frozen 2
    have q3 := bz.frozen 3
    have q4 := bz.frozen 4
    have q5 := bz.frozen 5
    go_simp
    have bzf := Blk.whole6 (x0 := .int .u8 5) (x1 := .int .u8 0) (x2 := .slice (some ⟨gl, 0, none⟩) 1 1) (x3 := .slice none 0 0) (x4 := .int .u16 (a.at_ : Int)) (x5 := .int .u16 0) bz
    have rlf := RdN.set6 (x := .int .u8 5) (y := .int .u8 0) (z := .slice (some ⟨gl, 0, none⟩) 1 1) (p := .slice none 0 0) (q := .int .u16 (a.at_ : Int)) (r := .int .u16 0) (⟨rl, (by omega : w.heap.size ≤ gl)⟩ : _ ∧ _) (by omega : g < gl)
    replace hb := below_whole6 (x0 := .int .u8 5) (x1 := .int .u8 0) (x2 := .slice (some ⟨gl, 0, none⟩) 1 1) (x3 := .slice none 0 0) (x4 := .int .u16 (a.at_ : Int)) (x5 := .int .u16 0) hb hwg
    replace bx := bx.beside6 (g := g) (x0 := .int .u8 5) (x1 := .int .u8 0) (x2 := .slice (some ⟨gl, 0, none⟩) 1 1) (x3 := .slice none 0 0) (x4 := .int .u16 (a.at_ : Int)) (x5 := .int .u16 0) hne
    generalize ((((((y1.setCell ⟨g, 0, none⟩ (.int .u8 5)).setCell ⟨g, 1, none⟩ (.int .u8 0)).setCell ⟨g, 2, none⟩ (.slice (some ⟨gl, 0, none⟩) 1 1)).setCell ⟨g, 3, none⟩ (.slice none 0 0)).setCell ⟨g, 4, none⟩ (.int .u16 (a.at_ : Int))).setCell ⟨g, 5, none⟩ (.int .u16 0)) = y2 at *
    clear bz rl z0 z1 z2 z3 z4 z5 q0 q1 q2 q3 q4 q5
    refine hK.out _ _ ?_ (fun hHeld => ?_)
    · exact ⟨bx.cell 1, bx.cell 5, K0.out _ hb⟩
    clear hK K
    try simp only [Act.put, List.setIfInBounds_toArray, List.set_cons_zero, List.set_cons_succ]
    refine takeRun (i := 9) (v := ?_) rfl (by kernel_rfl) (by kernel_rfl) (by kernel_rfl) (fun _ _ _ h => h) rfl ?_ (by assumption) ?_
    rotate_left
    · (intro w hSw; (try dsimp only at hSw); go_simp; (try with_reducible rfl))
    try simp only [Act.put, List.setIfInBounds_toArray, List.set_cons_zero, List.set_cons_succ]
    refine wpAnyH_done (by kernel_rfl) ?_ _
    obtain ⟨z0, z1, z2, z3, z4, z5⟩ := bzf.c6
    go_wp2_with fail
    refine bodyPost_ret (v := .tuple #[.agg #[.int .u8 5, .int .u8 0, .slice (some ⟨gl, 0, none⟩) 1 1, .slice none 0 0, .int .u16 (a.at_ : Int), .int .u16 0], .bool true]) (by simp [results, Try.results47, go_sem, z0, z1, z2, z3, z4, z5]) rfl ?_
    rw [HR.out]
    exact ⟨none, 0, some ⟨gl, 0, none⟩, 1, rfl, RdN.nil, rlf, hb⟩
  have t5 : ((a.fn : Int) == 5) = false := by simp; omega
  by_cases h6 : a.fn = 6
  · have hb1 : a.words.length = 1 := by
      have h := hRT
      unfold rightA at h
      rw [h6] at h
      exact right6 h
    obtain ⟨x, hx⟩ := List.length_eq_one_iff.1 hb1
    have HR : Hid (p = some ⟨6, 0, [], [x], a.at_, 0⟩) := by (show _ = _); rw [HW2.out, if_neg h5, if_pos h6, hx]; rfl
    have rb := hR.words
    rw [hx] at rb
    obtain ⟨bb, off, x', rfl, hx', cx⟩ := rb.word (k := 0) (by simp)
    rw [Nat.add_zero] at cx
    obtain rfl : x = x' := by simpa using hx'
    have t6 : ((a.fn : Int) == 6) = true := by simp [h6]
    have hn0 : 0 < a.words.length := by omega
    have hn1 : (0 : Int) < (a.words.length : Int) := by omega
    have K0 : Hid (∀ W : World, Below w.heap.size w W → W.cell? ⟨bb, off, none⟩ = some (.int .u16 (x : Int))) := fun W hW => (hW.cell (World.block_lt_of_cell? w _ cx)).trans cx
    clear hx' hx hb1 rb hRT h6 h5 cx
    go_upto_region 6 with fail
    clear d0 d1 d2 d3 d4 d5
    replace bx := bx.drew
    replace bz := bz.drew
    replace hb := hb.drew
    have hw12' : w1.heap.size ≤ w2.drew.heap.size := hw12
    clear hw12
    refine wp_region_held_drew (S := fun W => W.cell? ⟨g0, 1, none⟩ = some (.int .u16 (a.at_ : Int)) ∧ W.cell? ⟨g0, 4, none⟩ = some (.slice (some ⟨bb, off, none⟩) a.words.length c) ∧ W.cell? ⟨bb, off, none⟩ = some (.int .u16 (x : Int))) (by kernel_rfl) ?_ (fun hHeld => ?_)
    · exact ⟨bx.cell 1, bx.cell 4, K0.out _ hb⟩
    generalize w2.drew = wD at *
    refine takeRun (i := 0) (v := ?_) rfl (by kernel_rfl) (by kernel_rfl) (by kernel_rfl) (fun _ _ _ h => h) rfl ?_ (by assumption) ?_
    rotate_left
    · (intro w hSw; (try dsimp only at hSw); go_simp; (try with_reducible rfl))
    try simp only [Act.put, List.setIfInBounds_toArray, List.set_cons_zero, List.set_cons_succ]
    refine takeRun (i := 1) (v := ?_) rfl (by kernel_rfl) (by kernel_rfl) (by kernel_rfl) (fun _ _ _ h => h) rfl ?_ (by assumption) ?_
    rotate_left
    · (intro w hSw; (try dsimp only at hSw); go_simp; (try with_reducible rfl))
    try simp only [Act.put, List.setIfInBounds_toArray, List.set_cons_zero, List.set_cons_succ]
    refine takeRun (i := 2) (v := ?_) rfl (by kernel_rfl) (by kernel_rfl) (by kernel_rfl) (fun _ _ _ h => h) rfl ?_ (by assumption) ?_
    rotate_left
    · (intro w hSw; (try dsimp only at hSw); go_simp; (try with_reducible rfl))
    try simp only [Act.put, List.setIfInBounds_toArray, List.set_cons_zero, List.set_cons_succ]
    refine takeRun (i := 3) (v := ?_) rfl (by kernel_rfl) (by kernel_rfl) (by kernel_rfl) (fun _ _ _ h => h) rfl ?_ (by assumption) ?_
    rotate_left
    · (intro w hSw; (try dsimp only at hSw); go_simp; (try with_reducible rfl))
    try simp only [Act.put, List.setIfInBounds_toArray, List.set_cons_zero, List.set_cons_succ]
    refine takeRun (i := 4) (v := ?_) rfl (by kernel_rfl) (by kernel_rfl) (by kernel_rfl) (fun _ _ _ h => h) rfl ?_ (by assumption) ?_
    rotate_left
    · (intro w hSw; (try dsimp only at hSw); go_simp; (try with_reducible rfl))
    try simp only [Act.put, List.setIfInBounds_toArray, List.set_cons_zero, List.set_cons_succ]
    refine takeRun (i := 5) (v := ?_) rfl (by kernel_rfl) (by kernel_rfl) (by kernel_rfl) (fun _ _ _ h => h) rfl ?_ (by assumption) ?_
    rotate_left
    · (intro w hSw; (try dsimp only at hSw); go_simp; (try with_reducible rfl))
    try simp only [Act.put, List.setIfInBounds_toArray, List.set_cons_zero, List.set_cons_succ]
    refine goOne (i := 6) (by kernel_rfl) rfl (fun K hK => ?_)
    replace bx := bx.alloc (.cells #[.int .u16 (x : Int)] 34)
    replace bz := bz.alloc (.cells #[.int .u16 (x : Int)] 34)
    replace hb := hb.alloc hb.size (.cells #[.int .u16 (x : Int)] 34)
    obtain ⟨gl, hgl⟩ : ∃ g, wD.heap.size = g := ⟨_, rfl⟩
    have hgl1 : w1.heap.size ≤ gl := by omega
    have rl := RdN.lit wD gl hgl 34 [.int .u16 (x : Int)]
    go_simp
    generalize wD.alloc (.cells #[.int .u16 (x : Int)] 34) = y1 at *
    (try rw [hgl])
    (try rw [hgl] at *)
    clear hgl
    refine hK.out _ _ ?_ (fun hHeld => ?_)
    · exact ⟨bx.cell 1, bx.cell 4, K0.out _ hb⟩
    clear hK K
    try simp only [Act.put, List.setIfInBounds_toArray, List.set_cons_zero, List.set_cons_succ]
    refine takeRun (i := 7) (v := ?_) rfl (by kernel_rfl) (by kernel_rfl) (by kernel_rfl) (fun _ _ _ h => h) rfl ?_ (by assumption) ?_
    rotate_left
    · (intro w hSw; (try dsimp only at hSw); go_simp; (try with_reducible rfl))
    try simp only [Act.put, List.setIfInBounds_toArray, List.set_cons_zero, List.set_cons_succ]
    refine goOne (i := 8) (by kernel_rfl) rfl (fun K hK => ?_)
    obtain ⟨z0, z1, z2, z3, z4, z5⟩ := bz.c6
    have q0 := bz.frozen 0
    have q1 := bz.frozen 1
    have q2 := bz.frozen 2
    have q3 := bz.frozen 3
    have q4 := bz.frozen 4
    have q5 := bz.frozen 5
    go_simp
    have bzf := Blk.whole6 (x0 := .int .u8 6) (x1 := .int .u8 0) (x2 := .slice none 0 0) (x3 := .slice (some ⟨gl, 0, none⟩) 1 1) (x4 := .int .u16 (a.at_ : Int)) (x5 := .int .u16 0) bz
    have rlf := RdN.set6 (x := .int .u8 6) (y := .int .u8 0) (z := .slice none 0 0) (p := .slice (some ⟨gl, 0, none⟩) 1 1) (q := .int .u16 (a.at_ : Int)) (r := .int .u16 0) (⟨rl, (by omega : w.heap.size ≤ gl)⟩ : _ ∧ _) (by omega : g < gl)
    replace hb := below_whole6 (x0 := .int .u8 6) (x1 := .int .u8 0) (x2 := .slice none 0 0) (x3 := .slice (some ⟨gl, 0, none⟩) 1 1) (x4 := .int .u16 (a.at_ : Int)) (x5 := .int .u16 0) hb hwg
    replace bx := bx.beside6 (g := g) (x0 := .int .u8 6) (x1 := .int .u8 0) (x2 := .slice none 0 0) (x3 := .slice (some ⟨gl, 0, none⟩) 1 1) (x4 := .int .u16 (a.at_ : Int)) (x5 := .int .u16 0) hne
    generalize ((((((y1.setCell ⟨g, 0, none⟩ (.int .u8 6)).setCell ⟨g, 1, none⟩ (.int .u8 0)).setCell ⟨g, 2, none⟩ (.slice none 0 0)).setCell ⟨g, 3, none⟩ (.slice (some ⟨gl, 0, none⟩) 1 1)).setCell ⟨g, 4, none⟩ (.int .u16 (a.at_ : Int))).setCell ⟨g, 5, none⟩ (.int .u16 0)) = y2 at *
    clear bz rl z0 z1 z2 z3 z4 z5 q0 q1 q2 q3 q4 q5
    refine hK.out _ _ ?_ (fun hHeld => ?_)
    · exact ⟨bx.cell 1, bx.cell 4, K0.out _ hb⟩
    clear hK K
    try simp only [Act.put, List.setIfInBounds_toArray, List.set_cons_zero, List.set_cons_succ]
    refine takeRun (i := 9) (v := ?_) rfl (by kernel_rfl) (by kernel_rfl) (by kernel_rfl) (fun _ _ _ h => h) rfl ?_ (by assumption) ?_
    rotate_left
    · (intro w hSw; (try dsimp only at hSw); go_simp; (try with_reducible rfl))
    try simp only [Act.put, List.setIfInBounds_toArray, List.set_cons_zero, List.set_cons_succ]
    refine wpAnyH_done (by kernel_rfl) ?_ _
    obtain ⟨z0, z1, z2, z3, z4, z5⟩ := bzf.c6
    go_wp2_with fail
    refine bodyPost_ret (v := .tuple #[.agg #[.int .u8 6, .int .u8 0, .slice none 0 0, .slice (some ⟨gl, 0, none⟩) 1 1, .int .u16 (a.at_ : Int), .int .u16 0], .bool true]) (by simp [results, Try.results47, go_sem, z0, z1, z2, z3, z4, z5]) rfl ?_
    rw [HR.out]
    exact ⟨some ⟨gl, 0, none⟩, 1, none, 0, rfl, rlf, RdN.nil, hb⟩
  have t6 : ((a.fn : Int) == 6) = false := by simp; omega
  by_cases h15 : a.fn = 15 ∨ a.fn = 16
  · have HR : Hid (p = some ⟨a.fn, 0, [], [], a.at_, a.many⟩) := by (show _ = _); rw [HW2.out, if_neg h5, if_neg h6, if_pos h15]
    have hc : ((a.fn : Int) == 15) = true ∨ (((a.fn : Int) == 15) = false ∧ ((a.fn : Int) == 16) = true) := by
      rcases h15 with h | h
      · left; simp [h]
      · right; simp [h]
    clear h5 h6 h15 hRT
    obtain ⟨z0, z1, z2, z3, z4, z5⟩ := bz.c6
    have q0 := bz.frozen 0
    have q1 := bz.frozen 1
    have q2 := bz.frozen 2
    have q3 := bz.frozen 3
    have q4 := bz.frozen 4
    have q5 := bz.frozen 5
    rcases hc with c1 | ⟨c1, c2⟩
    all_goals
      go_wp2_with fail
      refine bodyPost_ret (v := .tuple #[.agg #[.int .u8 (a.fn : Int), .int .u8 0, .slice none 0 0, .slice none 0 0, .int .u16 (a.at_ : Int), .int .u16 (a.many : Int)], .bool true]) (by simp [results, Try.results47, go_sem, z0, z1, z2, z3, z4, z5]) rfl ?_
      rw [HR.out]
      exact ⟨none, 0, none, 0, rfl, RdN.nil, RdN.nil, bset6 hb hwg _ _ _ _ _ _⟩
  have HR : Hid (p = none) := by (show _ = _); rw [HW2.out, if_neg h5, if_neg h6, if_neg h15]
  have t15 : ((a.fn : Int) == 15) = false := by simp; omega
  have t16 : ((a.fn : Int) == 16) = false := by simp; omega
  clear h5 h6 h15 hRT
  obtain ⟨z0, z1, z2, z3, z4, z5⟩ := bz.c6
  have q0 := bz.frozen 0
  have q1 := bz.frozen 1
  have q2 := bz.frozen 2
  have q3 := bz.frozen 3
  have q4 := bz.frozen 4
  have q5 := bz.frozen 5
  go_wp2_with fail
  refine bodyPost_ret (v := .tuple #[.agg #[.int .u8 0, .int .u8 0, .slice none 0 0, .slice none 0 0, .int .u16 0, .int .u16 0], .bool false]) (by simp [results, Try.results47, go_sem, z0, z1, z2, z3, z4, z5]) rfl ?_
  rw [HR.out]
  exact ⟨rfl, bset6 hb hwg _ _ _ _ _ _⟩
end Go.Proofs.Ytechhidfgheejaa
