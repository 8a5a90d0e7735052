/- The walk of the reference's Parse of requests (written by gen_refd.py). -/
import Derived.Test.YtechhidfgheejaaRefW
import Derived.Deep.CutBlock
namespace Go.Proofs.Ytechhidfgheejaa
open Go.RowKit
set_option linter.unusedSimpArgs false
set_option linter.unusedVariables false

set_option maxRecDepth 100000 in
set_option maxHeartbeats 8000000 in
theorem ref_Parse (A : Option Addr) (n c : Nat) (l : List Nat) (w : World) (hA : Rd w A (bs l)) (hn : l.length = n) (hl : Bs l) (hnc : n ≤ c) (hbig : n ≤ 300) :
    Calls Try.prog 30 #[.slice A n c] w fun e w' => Told w (parseA l) (.int .i64 0) (.int .i64 12) e w' := by
  have HW : Hid (parseA l = if n < 5 then none else if rightA (refA l) && sameB (bytesN (refA l)) l then some (refA l) else none) := by (show _ = _); rw [← hn]; exact parse_ref l
  generalize parseA l = r at *
  have HN := Lib.hid hn
  have hb1 := (Below.refl _ w).alloc (Nat.le_refl _) (.cells #[.int .u8 0, .int .u16 0, .int .u16 0, .int .u16 0, .slice none 0 0, .slice none 0 0] 41)
  have bz := Blk.new w 41 #[.int .u8 0, .int .u16 0, .int .u16 0, .int .u16 0, .slice none 0 0, .slice none 0 0]
  obtain ⟨g, hg⟩ : ∃ g, w.heap.size = g := ⟨_, rfl⟩
  have hwg : w.heap.size ≤ g := by omega
  clear hn
  go_enter Try.func30, Try.ntmps30
  go_upto_region 1 with fail
  rw [hg] at bz
  (try rw [hg])
  clear hg
  generalize w.alloc (.cells #[.int .u8 0, .int .u16 0, .int .u16 0, .int .u16 0, .slice none 0 0, .slice none 0 0] 41) = w1 at *
  have hA1 := hA.below hb1
  have hg1 : g < w1.heap.size := bz.lt
  have hww : w.heap.size ≤ w1.heap.size := hb1.size
  by_cases h5 : n < 5
  · have HR : Hid (r = none) := by (show _ = _); rw [HW.out, if_pos h5]
    have v5 : decide ((n : Int) < 5) = true := decide_eq_true (by omega)
    obtain ⟨z0, z1, z2, z3, z4, z5⟩ := bz.c6
    have q0 := bz.frozen 0
    have q1 := bz.frozen 1
    have q2 := bz.frozen 2
    have q3 := bz.frozen 3
    have q4 := bz.frozen 4
    have q5 := bz.frozen 5
    go_wp2_with fail
    refine bodyPost_ret (v := .tuple #[.agg #[.int .u8 0, .int .u16 0, .int .u16 0, .int .u16 0, .slice none 0 0, .slice none 0 0], .int .i64 12]) (by simp [results, Try.results30, go_sem, z0, z1, z2, z3, z4, z5]) rfl ?_
    rw [HR.out]
    exact ⟨rfl, bset6 hb1 hwg _ _ _ _ _ _⟩
  have v5 : decide ((n : Int) < 5) = false := decide_eq_false (by omega)
  have HR : Hid (r = if rightA (refA l) && sameB (bytesN (refA l)) l then some (refA l) else none) := by (show _ = _); rw [HW.out, if_neg h5]
  obtain ⟨bb, off, f, rfl, hx, cx0⟩ := hA1.byte (k := 0) (by rw [HN.out]; omega)
  rw [Nat.add_zero] at cx0
  have HF0 : Hid (l.getD 0 0 = f) := getD_of hx
  have hf := hl.get hx
  have hn0 : (0 : Int) < (n : Int) := by omega
  have hn0' : 0 < n := by omega
  obtain ⟨t, ht⟩ : ∃ t, atR l 1 = t := ⟨_, rfl⟩
  have ht1 := atR_lt hl 1
  rw [ht] at ht1
  have HT := Lib.hid ht
  have E1 := Lib.hid (fun (W : World) (hW : Rd W (some ⟨bb, off, none⟩) (bs l)) => ref_At _ n c l 1 W hW HN.out hl (by omega) (by omega))
  rw [ht] at E1
  have e1 : IntKind.u16.wrap (t : Int) = (t : Int) := by rw [IntKind.wrap_u16]; omega
  have K0 : Hid (∀ W : World, Below w1.heap.size w1 W → W.cell? ⟨bb, off, none⟩ = some (.int .u8 (f : Int))) := fun W hW => (hW.cell (World.block_lt_of_cell? w1 _ cx0)).trans cx0
  have rr : Below w1.heap.size w1 w1.drew := (Below.refl _ _).drew
  have ra := rr.alloc (Nat.le_refl _) (.cells #[.int .u8 0, .int .u16 0, .int .u16 0, .int .u16 0, .slice none 0 0, .slice none 0 0] 41)
  have rb := ((Below.refl w1.heap.size w1).alloc (Nat.le_refl _) (.cells #[.int .u8 0, .int .u16 0, .int .u16 0, .int .u16 0, .slice none 0 0, .slice none 0 0] 41)).drew
  clear hx ht
  go_upto_region 3 with fail
  go_cut [4] (fun v wc => ∃ g4 : Nat, v = .pointer (some ⟨g4, 0, none⟩) ∧ w1.heap.size ≤ g4 ∧ Blk wc g4 41 #[.int .u8 (f : Int), .int .u16 (t : Int), .int .u16 0, .int .u16 0, .slice none 0 0, .slice none 0 0] ∧ Below w1.heap.size w1 wc)
  case first =>
    have hbc : Below w1.heap.size w1 w1.drew := (Below.refl _ _).drew
    refine wp_region_held_drew (S := fun w' => w'.cell? ⟨bb, off, none⟩ = some (.int .u8 (f : Int))) (by kernel_rfl) ?_ (fun hHeld => ?_)
    · (with_reducible exact K0.out _ hbc)
    generalize w1.drew = wD at *
    refine takeRun (i := 0) (v := ?_) rfl (by kernel_rfl) (by kernel_rfl) (by kernel_rfl) (fun _ _ _ h => h) rfl ?_ (by assumption) ?_
    rotate_left
    · (intro w hSw; (try dsimp only at hSw); go_simp; (try with_reducible rfl))
    try simp only [Act.put, List.setIfInBounds_toArray, List.set_cons_zero, List.set_cons_succ]
    refine takeRun (i := 1) (v := ?_) rfl (by kernel_rfl) (by kernel_rfl) (by kernel_rfl) (fun _ _ _ h => h) rfl ?_ (by assumption) ?_
    rotate_left
    · (intro w hSw; (try dsimp only at hSw); go_simp; (try with_reducible rfl))
    try simp only [Act.put, List.setIfInBounds_toArray, List.set_cons_zero, List.set_cons_succ]
    refine takeRun (i := 2) (v := ?_) rfl (by kernel_rfl) (by kernel_rfl) (by kernel_rfl) (fun _ _ _ h => h) rfl ?_ (by assumption) ?_
    rotate_left
    · (intro w hSw; (try dsimp only at hSw); go_simp; (try with_reducible rfl))
    try simp only [Act.put, List.setIfInBounds_toArray, List.set_cons_zero, List.set_cons_succ]
    refine takeRun (i := 3) (v := ?_) rfl (by kernel_rfl) (by kernel_rfl) (by kernel_rfl) (fun _ _ _ h => h) rfl ?_ (by assumption) ?_
    rotate_left
    · (intro w hSw; (try dsimp only at hSw); go_simp; (try with_reducible rfl))
    try simp only [Act.put, List.setIfInBounds_toArray, List.set_cons_zero, List.set_cons_succ]
    refine goTwo (i := 4) (j := 7) (by kernel_rfl) rfl rfl (fun K hK => ?_) (fun K hK => ?_) 
    · go_simp
      (with_reducible refine Calls.mono (E1.out _ (hA1.below hbc)) ?_)
      rintro e y1 ⟨rfl, dn, hdn⟩
      have hs : Below wD.heap.size wD y1 := by rw [hdn]; exact below_drewN (Below.refl _ _) dn
      clear hdn
      replace hbc := bthen hbc hs
      clear hs
      go_wp2_with fail
      refine hK.out _ _ ?_ (fun hHeld => ?_)
      · (with_reducible exact K0.out _ hbc)
      clear hK K
      try simp only [Act.put, List.setIfInBounds_toArray, List.set_cons_zero, List.set_cons_succ]
      refine takeRun (i := 5) (v := ?_) rfl (by kernel_rfl) (by kernel_rfl) (by kernel_rfl) (fun _ _ _ h => h) rfl ?_ (by assumption) ?_
      rotate_left
      · (intro w hSw; (try dsimp only at hSw); go_simp; (try with_reducible rfl))
      try simp only [Act.put, List.setIfInBounds_toArray, List.set_cons_zero, List.set_cons_succ]
      refine takeRun (i := 6) (v := ?_) rfl (by kernel_rfl) (by kernel_rfl) (by kernel_rfl) (fun _ _ _ h => h) rfl ?_ (by assumption) ?_
      rotate_left
      · (intro w hSw; (try dsimp only at hSw); go_simp; (try with_reducible rfl))
      try simp only [Act.put, List.setIfInBounds_toArray, List.set_cons_zero, List.set_cons_succ]
      refine goOne (i := 7) (by kernel_rfl) rfl (fun K hK => ?_)
      have b4 := Blk.new y1 41 #[.int .u8 0, .int .u16 0, .int .u16 0, .int .u16 0, .slice none 0 0, .slice none 0 0]
      have hs := (Below.refl y1.heap.size y1).alloc (Nat.le_refl _) (.cells #[.int .u8 0, .int .u16 0, .int .u16 0, .int .u16 0, .slice none 0 0, .slice none 0 0] 41)
      go_simp
      generalize y1.alloc (.cells #[.int .u8 0, .int .u16 0, .int .u16 0, .int .u16 0, .slice none 0 0, .slice none 0 0] 41) = y2 at *
      obtain ⟨g4, hg4⟩ : ∃ g, y1.heap.size = g := ⟨_, rfl⟩
      have hge4 : w1.heap.size ≤ g4 := by have := hbc.size; omega
      rw [hg4] at b4
      (try rw [hg4])
      replace hbc := bthen hbc hs
      clear hs hg4
      refine hK.out _ _ ?_ (fun hHeld => ?_)
      · (with_reducible exact K0.out _ hbc)
      clear hK K
      try simp only [Act.put, List.setIfInBounds_toArray, List.set_cons_zero, List.set_cons_succ]
      refine goOne (i := 8) (by kernel_rfl) rfl (fun K hK => ?_)
      obtain ⟨z0, z1, z2, z3, z4, z5⟩ := b4.c6
      have y0_ := b4.frozen 0
      have y1_ := b4.frozen 1
      have y2_ := b4.frozen 2
      have y3_ := b4.frozen 3
      have y4_ := b4.frozen 4
      have y5_ := b4.frozen 5
      have b4f := Blk.whole6 (x0 := .int .u8 (f : Int)) (x1 := .int .u16 (t : Int)) (x2 := .int .u16 0) (x3 := .int .u16 0) (x4 := .slice none 0 0) (x5 := .slice none 0 0) b4
      replace hbc := below_whole6 (x0 := .int .u8 (f : Int)) (x1 := .int .u16 (t : Int)) (x2 := .int .u16 0) (x3 := .int .u16 0) (x4 := .slice none 0 0) (x5 := .slice none 0 0) hbc hge4
      go_simp
      generalize ((((((y2.setCell ⟨g4, 0, none⟩ (.int .u8 (f : Int))).setCell ⟨g4, 1, none⟩ (.int .u16 (t : Int))).setCell ⟨g4, 2, none⟩ (.int .u16 0)).setCell ⟨g4, 3, none⟩ (.int .u16 0)).setCell ⟨g4, 4, none⟩ (.slice none 0 0)).setCell ⟨g4, 5, none⟩ (.slice none 0 0)) = y3 at *
      clear z0 z1 z2 z3 z4 z5 y0_ y1_ y2_ y3_ y4_ y5_
      refine hK.out _ _ ?_ (fun hHeld => ?_)
      · (with_reducible exact K0.out _ hbc)
      clear hK K
      try simp only [Act.put, List.setIfInBounds_toArray, List.set_cons_zero, List.set_cons_succ]
      refine wpAnyH_done (by kernel_rfl) ?_ _
      go_wp2_with fail
      go_meet
      exact ⟨g4, rfl, hge4, b4f, hbc⟩
    · have b4 := Blk.new wD 41 #[.int .u8 0, .int .u16 0, .int .u16 0, .int .u16 0, .slice none 0 0, .slice none 0 0]
      have hs := (Below.refl wD.heap.size wD).alloc (Nat.le_refl _) (.cells #[.int .u8 0, .int .u16 0, .int .u16 0, .int .u16 0, .slice none 0 0, .slice none 0 0] 41)
      go_simp
      generalize wD.alloc (.cells #[.int .u8 0, .int .u16 0, .int .u16 0, .int .u16 0, .slice none 0 0, .slice none 0 0] 41) = y4 at *
      obtain ⟨g4, hg4⟩ : ∃ g, wD.heap.size = g := ⟨_, rfl⟩
      have hge4 : w1.heap.size ≤ g4 := by have := hbc.size; omega
      rw [hg4] at b4
      (try rw [hg4])
      replace hbc := bthen hbc hs
      clear hs hg4
      refine hK.out _ _ ?_ (fun hHeld => ?_)
      · (with_reducible exact K0.out _ hbc)
      clear hK K
      try simp only [Act.put, List.setIfInBounds_toArray, List.set_cons_zero, List.set_cons_succ]
      refine goOne (i := 4) (by kernel_rfl) rfl (fun K hK => ?_)
      go_simp
      (with_reducible refine Calls.mono (E1.out _ (hA1.below hbc)) ?_)
      rintro e y5 ⟨rfl, dn, hdn⟩
      have hs : Below y4.heap.size y4 y5 := by rw [hdn]; exact below_drewN (Below.refl _ _) dn
      clear hdn
      replace b4 := b4.all hs
      replace hbc := bthen hbc hs
      clear hs
      go_wp2_with fail
      refine hK.out _ _ ?_ (fun hHeld => ?_)
      · (with_reducible exact K0.out _ hbc)
      clear hK K
      try simp only [Act.put, List.setIfInBounds_toArray, List.set_cons_zero, List.set_cons_succ]
      refine takeRun (i := 5) (v := ?_) rfl (by kernel_rfl) (by kernel_rfl) (by kernel_rfl) (fun _ _ _ h => h) rfl ?_ (by assumption) ?_
      rotate_left
      · (intro w hSw; (try dsimp only at hSw); go_simp; (try with_reducible rfl))
      try simp only [Act.put, List.setIfInBounds_toArray, List.set_cons_zero, List.set_cons_succ]
      refine takeRun (i := 6) (v := ?_) rfl (by kernel_rfl) (by kernel_rfl) (by kernel_rfl) (fun _ _ _ h => h) rfl ?_ (by assumption) ?_
      rotate_left
      · (intro w hSw; (try dsimp only at hSw); go_simp; (try with_reducible rfl))
      try simp only [Act.put, List.setIfInBounds_toArray, List.set_cons_zero, List.set_cons_succ]
      refine goOne (i := 8) (by kernel_rfl) rfl (fun K hK => ?_)
      obtain ⟨z0, z1, z2, z3, z4, z5⟩ := b4.c6
      have y0_ := b4.frozen 0
      have y1_ := b4.frozen 1
      have y2_ := b4.frozen 2
      have y3_ := b4.frozen 3
      have y4_ := b4.frozen 4
      have y5_ := b4.frozen 5
      have b4f := Blk.whole6 (x0 := .int .u8 (f : Int)) (x1 := .int .u16 (t : Int)) (x2 := .int .u16 0) (x3 := .int .u16 0) (x4 := .slice none 0 0) (x5 := .slice none 0 0) b4
      replace hbc := below_whole6 (x0 := .int .u8 (f : Int)) (x1 := .int .u16 (t : Int)) (x2 := .int .u16 0) (x3 := .int .u16 0) (x4 := .slice none 0 0) (x5 := .slice none 0 0) hbc hge4
      go_simp
      generalize ((((((y5.setCell ⟨g4, 0, none⟩ (.int .u8 (f : Int))).setCell ⟨g4, 1, none⟩ (.int .u16 (t : Int))).setCell ⟨g4, 2, none⟩ (.int .u16 0)).setCell ⟨g4, 3, none⟩ (.int .u16 0)).setCell ⟨g4, 4, none⟩ (.slice none 0 0)).setCell ⟨g4, 5, none⟩ (.slice none 0 0)) = y6 at *
      clear z0 z1 z2 z3 z4 z5 y0_ y1_ y2_ y3_ y4_ y5_
      refine hK.out _ _ ?_ (fun hHeld => ?_)
      · (with_reducible exact K0.out _ hbc)
      clear hK K
      try simp only [Act.put, List.setIfInBounds_toArray, List.set_cons_zero, List.set_cons_succ]
      refine wpAnyH_done (by kernel_rfl) ?_ _
      go_wp2_with fail
      go_meet
      exact ⟨g4, rfl, hge4, b4f, hbc⟩
  case rest =>
    obtain ⟨g4, rfl, hg4w, b4, hs⟩ := hcut
    have hgg : g ≠ g4 := by omega
    have hwg4 : w.heap.size ≤ g4 := by omega
    have hA5 := hA1.below hs
    clear rr ra rb E1 e1 K0
    generalize hwz : wc = w5 at *
    clear hwz
    obtain ⟨m, hm⟩ : ∃ m, atR l 3 = m := ⟨_, rfl⟩
    have hm1 := atR_lt hl 3
    rw [hm] at hm1
    obtain ⟨o, ho⟩ : ∃ o, atR l 5 = o := ⟨_, rfl⟩
    have ho1 := atR_lt hl 5
    rw [ho] at ho1
    have RA : Hid (refA l = _) := refA_st HF0.out HT.out hm ho
    have E3 := Lib.hid (fun (W : World) (hW : Rd W (some ⟨bb, off, none⟩) (bs l)) => ref_At _ n c l 3 W hW HN.out hl (by omega) (by omega))
    have E5 := Lib.hid (fun (W : World) (hW : Rd W (some ⟨bb, off, none⟩) (bs l)) => ref_At _ n c l 5 W hW HN.out hl (by omega) (by omega))
    rw [hm] at E3
    rw [ho] at E5
    have HM3 := Lib.hid hm
    have HO5 := Lib.hid ho
    have em : IntKind.u16.wrap (m : Int) = (m : Int) := by rw [IntKind.wrap_u16]; omega
    have eo : IntKind.u16.wrap (o : Int) = (o : Int) := by rw [IntKind.wrap_u16]; omega
    clear hm ho
    obtain ⟨dd0, dd1, dd2, dd3, dd4, dd5⟩ := b4.c6
    have ddz0 := b4.frozen 0
    have ddz1 := b4.frozen 1
    have ddz2 := b4.frozen 2
    have ddz3 := b4.frozen 3
    have ddz4 := b4.frozen 4
    have ddz5 := b4.frozen 5
    go_upto_block 0 with fail
    go_cut [] (fun wc => St w1 wc g4 (stA f t m))
    case first =>
      clear dd0 ddz0 dd1 ddz1 dd2 ddz2 dd3 ddz3 dd4 ddz4 dd5 ddz5
      by_cases c5 : f = 5
      · have v5e : ((f : Int) == 5) = true := by simp; omega
        obtain ⟨x, hx⟩ : ∃ x, decide (m = 65280) = x := ⟨_, rfl⟩
        have vx : ((m : Int) == 65280) = x := by rw [← hx, Bool.eq_iff_iff]; simp; omega
        have HA : Hid (stA f t m = ⟨f, t, 0, 0, [], [x]⟩) := by (show _ = _); rw [← hx]; simp [stA, c5]
        clear hx c5
        obtain ⟨dd0, dd1, dd2, dd3, dd4, dd5⟩ := b4.c6
        have ddz0 := b4.frozen 0
        have ddz1 := b4.frozen 1
        have ddz2 := b4.frozen 2
        have ddz3 := b4.frozen 3
        have ddz4 := b4.frozen 4
        have ddz5 := b4.frozen 5
        go_wp2_with fail
        refine (E3.out _ hA5).mono ?_
        rintro e w6 ⟨rfl, dn, rfl⟩
        clear dd0 ddz0 dd1 ddz1 dd2 ddz2 dd3 ddz3 dd4 ddz4 dd5 ddz5
        replace b4 := b4.drewN dn
        replace hs := below_drewN hs dn
        generalize w5.drewN dn = w6 at *
        have ol : Ow (w6.alloc (.cells #[.bool x] 4)) w1.heap.size 4 (some ⟨w6.heap.size, 0, none⟩) 1 (os [x]) := Ow.lit _ _ _ [.bool x] hs.size (show (1 : Nat) ≤ maxLen by decide) rfl rfl
        replace b4 := b4.alloc (.cells #[.bool x] 4)
        replace hs := hs.alloc hs.size (.cells #[.bool x] 4)
        obtain ⟨dd0, dd1, dd2, dd3, dd4, dd5⟩ := b4.c6
        have ddz0 := b4.frozen 0
        have ddz1 := b4.frozen 1
        have ddz2 := b4.frozen 2
        have ddz3 := b4.frozen 3
        have ddz4 := b4.frozen 4
        have ddz5 := b4.frozen 5
        go_wp2_with fail
        go_meet
        rw [HA.out]
        exact ⟨none, 0, _, _, b4.set_ 5 _, Ow.nil, ol.setBlk b4 (by decide) 5 _, hs.setCell (p := ⟨g4, 5, none⟩) hg4w _⟩
      have v5e : ((f : Int) == 5) = false := by simp; omega
      by_cases c6 : f = 6
      · have v6e : ((f : Int) == 6) = true := by simp; omega
        have HA : Hid (stA f t m = ⟨f, t, 0, 0, [m], []⟩) := by (show _ = _); simp [stA, c6]
        clear c6
        obtain ⟨dd0, dd1, dd2, dd3, dd4, dd5⟩ := b4.c6
        have ddz0 := b4.frozen 0
        have ddz1 := b4.frozen 1
        have ddz2 := b4.frozen 2
        have ddz3 := b4.frozen 3
        have ddz4 := b4.frozen 4
        have ddz5 := b4.frozen 5
        go_wp2_with fail
        refine (E3.out _ hA5).mono ?_
        rintro e w6 ⟨rfl, dn, rfl⟩
        clear dd0 ddz0 dd1 ddz1 dd2 ddz2 dd3 ddz3 dd4 ddz4 dd5 ddz5
        replace b4 := b4.drewN dn
        replace hs := below_drewN hs dn
        generalize w5.drewN dn = w6 at *
        have ol : Ow (w6.alloc (.cells #[.int .u16 (m : Int)] 34)) w1.heap.size 34 (some ⟨w6.heap.size, 0, none⟩) 1 (ws [m]) := Ow.lit _ _ _ [.int .u16 (m : Int)] hs.size (show (1 : Nat) ≤ maxLen by decide) rfl rfl
        replace b4 := b4.alloc (.cells #[.int .u16 (m : Int)] 34)
        replace hs := hs.alloc hs.size (.cells #[.int .u16 (m : Int)] 34)
        obtain ⟨dd0, dd1, dd2, dd3, dd4, dd5⟩ := b4.c6
        have ddz0 := b4.frozen 0
        have ddz1 := b4.frozen 1
        have ddz2 := b4.frozen 2
        have ddz3 := b4.frozen 3
        have ddz4 := b4.frozen 4
        have ddz5 := b4.frozen 5
        go_wp2_with fail
        go_meet
        rw [HA.out]
        exact ⟨_, _, none, 0, b4.set_ 4 _, ol.setBlk b4 (by decide) 4 _, Ow.nil, hs.setCell (p := ⟨g4, 4, none⟩) hg4w _⟩
      have v6e : ((f : Int) == 6) = false := by simp; omega
      have HA : Hid (stA f t m = ⟨f, t, m, 0, [], []⟩) := by (show _ = _); simp [stA, c5, c6]
      clear c5 c6
      obtain ⟨dd0, dd1, dd2, dd3, dd4, dd5⟩ := b4.c6
      have ddz0 := b4.frozen 0
      have ddz1 := b4.frozen 1
      have ddz2 := b4.frozen 2
      have ddz3 := b4.frozen 3
      have ddz4 := b4.frozen 4
      have ddz5 := b4.frozen 5
      go_wp2_with fail
      refine (E3.out _ hA5).mono ?_
      rintro e w6 ⟨rfl, dn, rfl⟩
      clear dd0 ddz0 dd1 ddz1 dd2 ddz2 dd3 ddz3 dd4 ddz4 dd5 ddz5
      replace b4 := b4.drewN dn
      replace hs := below_drewN hs dn
      generalize w5.drewN dn = w6 at *
      obtain ⟨dd0, dd1, dd2, dd3, dd4, dd5⟩ := b4.c6
      have ddz0 := b4.frozen 0
      have ddz1 := b4.frozen 1
      have ddz2 := b4.frozen 2
      have ddz3 := b4.frozen 3
      have ddz4 := b4.frozen 4
      have ddz5 := b4.frozen 5
      go_wp2_with fail
      go_meet
      rw [HA.out]
      exact ⟨none, 0, none, 0, b4.set_ 2 _, Ow.nil, Ow.nil, hs.setCell (p := ⟨g4, 2, none⟩) hg4w _⟩
    case rest =>
      clear b4 hs hA5
      generalize hwz : wc = w7 at *
      clear hwz
      have d0 : w7.cell? ⟨g4, 0, none⟩ = some (.int .u8 (f : Int)) := St.fn hcut
      have hs7 := St.below hcut
      go_upto_if 43 with fail
      go_cut [5] (fun v wc => Hid (v = .int .i64 (if f = 23 then 10 else 6)) ∧ St w1 wc g4 (stB f t m o))
      case first =>
        by_cases c23 : f = 23
        · have v23 : ((f : Int) == 23) = true := by simp; omega
          have HA : Hid (stA f t m = ⟨f, t, m, 0, [], []⟩) := by (show _ = _); simp [stA, c23]
          have HB2 : Hid (stB f t m o = ⟨f, t, m, o, [], []⟩) := by (show _ = _); simp [stB, c23]
          have HV : Hid ((if f = 23 then 10 else 6 : Int) = 10) := by (show _ = _); rw [if_pos c23]
          rw [HA.out] at hcut
          clear c23 d0
          obtain ⟨A2, c2, B2, d2, b4, oa, ob, hs⟩ := hcut
          have b4 : Blk w7 g4 41 #[.int .u8 (f : Int), .int .u16 (t : Int), .int .u16 (m : Int), .int .u16 0, .slice A2 0 c2, .slice B2 0 d2] := b4
          have hA7 := hA1.below hs
          obtain ⟨dd0, dd1, dd2, dd3, dd4, dd5⟩ := b4.c6
          have ddz0 := b4.frozen 0
          have ddz1 := b4.frozen 1
          have ddz2 := b4.frozen 2
          have ddz3 := b4.frozen 3
          have ddz4 := b4.frozen 4
          have ddz5 := b4.frozen 5
          go_wp2_with fail
          refine (E5.out _ hA7).mono ?_
          rintro e w8 ⟨rfl, dn, rfl⟩
          clear dd0 ddz0 dd1 ddz1 dd2 ddz2 dd3 ddz3 dd4 ddz4 dd5 ddz5
          replace b4 := b4.drewN dn
          replace oa := oa.drewN dn
          replace ob := ob.drewN dn
          replace hs := below_drewN hs dn
          generalize w7.drewN dn = w8 at *
          obtain ⟨dd0, dd1, dd2, dd3, dd4, dd5⟩ := b4.c6
          have ddz0 := b4.frozen 0
          have ddz1 := b4.frozen 1
          have ddz2 := b4.frozen 2
          have ddz3 := b4.frozen 3
          have ddz4 := b4.frozen 4
          have ddz5 := b4.frozen 5
          go_wp2_with fail
          go_meet
          rw [HB2.out, HV.out]
          exact ⟨rfl, _, _, _, _, b4.set_ 3 _, oa.setBlk b4 (by decide) 3 _, ob.setBlk b4 (by decide) 3 _, hs.setCell (p := ⟨g4, 3, none⟩) hg4w _⟩
        have v23 : ((f : Int) == 23) = false := by simp; omega
        have HB2 : Hid (stB f t m o = stA f t m) := by (show _ = _); simp [stA, stB, c23]
        have HV : Hid ((if f = 23 then 10 else 6 : Int) = 6) := by (show _ = _); rw [if_neg c23]
        clear c23
        go_wp2_with fail
        go_meet
        rw [HB2.out, HV.out]
        exact ⟨rfl, hcut⟩
      case rest =>
        clear d0 hs7
        generalize hwz : wc = w9 at *
        clear hwz
        obtain ⟨HV5, hcut⟩ := hcut
        generalize u5 = v5' at *
        have d0 : w9.cell? ⟨g4, 0, none⟩ = some (.int .u8 (f : Int)) := St.fn hcut
        go_upto_if 50 with fail
        go_cut [] (fun wc => St w1 wc g4 (stC f t m o l))
        case first =>
          by_cases c15 : f = 15
          · have v15 : ((f : Int) == 15) = true := by simp; omega
            rw [v15]
            clear v15
            have HB2 : Hid (stB f t m o = ⟨f, t, m, 0, [], []⟩) := by (show _ = _); simp [stB, c15]
            have HC2 : Hid (stC f t m o l = ⟨f, t, m, 0, [], bitsR l m⟩) := by (show _ = _); simp [stC, c15]
            have hv6 : v5' = .int .i64 6 := by rw [HV5.out, if_neg (by omega)]
            subst hv6
            rw [HB2.out] at hcut
            clear c15 HV5
            have fm : IntKind.i64.wrap (m : Int) = (m : Int) := IntWalk.i64_in _ (by omega)
            obtain ⟨L, hL⟩ : ∃ L, (bitsR l m).length = L := ⟨_, rfl⟩
            have HL : Hid ((bitsR l m).length = L) := hL
            have HLm : Hid (L = min m (8 * (n - 6))) := by (show _ = _); rw [← hL, bitsR_len, HN.out]
            clear hL
            go_wp2_with fail
            go_loopw [6] (fun i wr => ∃ j : Nat, j ≤ L ∧ i = .int .i64 j ∧ St w1 wr g4 ⟨f, t, m, 0, [], (bitsR l m).take j⟩) (fun i _ => L - (intOf i).toNat)
            case atStart => exact ⟨0, by omega, rfl, by rw [List.take_zero]; exact hcut⟩
            case round =>
              clear hcut d0
              obtain ⟨j, hj, rfl, hcut⟩ := hrel
              obtain ⟨A2, c2, B2, d2, b4, oa, ob, hs⟩ := hcut
              have HTL : Hid (((bitsR l m).take j).length = j) := by (show _ = _); rw [List.length_take, HL.out]; omega
              replace b4 : Blk wr g4 41 #[.int .u8 (f : Int), .int .u16 (t : Int), .int .u16 (m : Int), .int .u16 0, .slice A2 0 c2, .slice B2 j d2] := by
                have hq := b4
                unfold akc at hq
                simp only [HTL.out] at hq
                exact hq
              obtain ⟨q, hq⟩ : ∃ q, j / 8 = q := ⟨_, rfl⟩
              obtain ⟨r, hr⟩ : ∃ r, j % 8 = r := ⟨_, rfl⟩
              have eq1 : (j : Int) / 8 = (q : Int) := by omega
              have eq2 : (j : Int) % 8 = (r : Int) := by omega
              have HQ := Lib.hid hq
              have HRr := Lib.hid hr
              have hr8 : r < 8 := by omega
              by_cases hlt : j < L
              · have hjm : j < m := by have := HLm.out; omega
                have hqn : 6 + q < n := by have := HLm.out; omega
                have hq0 : q ≤ 300 := by omega
                have v1 : decide ((j : Int) < (m : Int)) = true := decide_eq_true (by omega)
                have v2 : decide (6 + (q : Int) < (n : Int)) = true := decide_eq_true (by omega)
                have HJ : Hid (j + 1 ≤ L) := hlt
                have HJ3 : Hid (j ≤ 100000) := by (show _ ≤ _); omega
                have hbit := bitsR_get l m j hjm (by rw [HN.out, HQ.out]; exact hqn)
                rw [HQ.out, HRr.out] at hbit
                obtain ⟨x, hx⟩ : ∃ x, l.getD (6 + q) 0 = x := ⟨_, rfl⟩
                have hxb : x < 256 := by rw [← hx]; exact getD_lt hl _
                have hone : (l.take (6 + q + 1)).drop (6 + q) = [x] := by
                  have hlt6 : 6 + q < l.length := by rw [HN.out]; exact hqn
                  rw [← List.getElem_cons_drop (show 6 + q < (l.take (6 + q + 1)).length by rw [List.length_take]; omega), List.drop_of_length_le (by rw [List.length_take]; omega)]
                  rw [List.getElem_take, ← hx, List.getD_eq_getElem?_getD, List.getElem?_eq_getElem hlt6]
                  rfl
                rw [hx] at hbit
                obtain ⟨y, hy⟩ : ∃ y, x.testBit r = y := ⟨_, rfl⟩
                have HY := Lib.hid hy
                rw [hy] at hbit
                have HT := Lib.hid (take_snoc hbit)
                have HTL1 : Hid (((bitsR l m).take (j + 1)).length = j + 1) := by (show _ = _); rw [HT.out, List.length_append, HTL.out]; rfl
                obtain ⟨A6, hsl, rs⟩ := slice_mid_b hA1 HN.out hnc (6 + q) (6 + q + 1) (by omega) (by omega)
                rw [show 6 + q + 1 - (6 + q) = 1 by omega, show ((6 + q + 1 : Nat) : Int) = 6 + (q : Int) + 1 by omega, show ((6 + q : Nat) : Int) = 6 + (q : Int) by omega] at hsl
                rw [hone] at rs
                obtain ⟨c6, hc6⟩ : ∃ k, c - (6 + q) = k := ⟨_, rfl⟩
                rw [hc6] at hsl
                have HSL := Lib.hid hsl
                have E9 : Hid (∀ W, Rd W A6 (bs [x]) → Calls Try.prog 36 #[.slice A6 1 c6] W fun e w' => ∃ A' c', e = .returned (.slice A' 8 c') ∧ Ow w' W.heap.size 4 A' c' (os (unpk [x])) ∧ Below W.heap.size W w') := fun W h => ref_Unpack A6 1 c6 [x] W h rfl (fun z hz => by simp at hz; omega) (by omega)
                have HU8 : Hid ((os (unpk [x])).length = 8) := by (show _ = _); rw [os_length, unpk_length]; rfl
                have HUY : Hid ((os (unpk [x]))[r]? = some (.bool y)) := by
                  (show _ = _)
                  have h := unpk_get [x] r (by simp; omega)
                  have hr0 : r / 8 = 0 := by omega
                  have hrr : r % 8 = r := by omega
                  rw [hr0, hrr] at h
                  simp only [os, List.getElem?_map, h, Option.map_some, List.getD_cons_zero, HY.out]
                have f0 : (0 : Int) ≤ (r : Int) := by omega
                have f1 : (r : Int) < 8 := by omega
                have HX : Hid (∀ B9 d9, akc ⟨f, t, m, 0, [], (bitsR l m).take (j + 1)⟩ A2 c2 B9 d9 = #[.int .u8 (f : Int), .int .u16 (t : Int), .int .u16 (m : Int), .int .u16 0, .slice A2 0 c2, .slice B9 (j + 1) d9]) := by (show ∀ _, _); intro B9 d9; unfold akc; simp only [HTL1.out]; rfl
                clear hq hr hlt hqn hbit hone hx hy hsl hc6
                obtain ⟨dd0, dd1, dd2, dd3, dd4, dd5⟩ := b4.c6
                have ddz0 := b4.frozen 0
                have ddz1 := b4.frozen 1
                have ddz2 := b4.frozen 2
                have ddz3 := b4.frozen 3
                have ddz4 := b4.frozen 4
                have ddz5 := b4.frozen 5
                go_upto_block 2 with fail
                clear dd0 ddz0 dd1 ddz1 dd2 ddz2 dd3 ddz3 dd4 ddz4 dd5 ddz5
                go_cut [] (fun wc => St w1 wc g4 ⟨f, t, m, 0, [], (bitsR l m).take (j + 1)⟩)
                case first =>
                  go_upto_region 18 with fail
                  replace b4 := b4.drew
                  replace oa := oa.drew
                  replace ob := ob.drew
                  replace hs := hs.drew
                  have hsl := HSL.out
                  have hw0 : IntKind.i64.wrap (q : Int) = (q : Int) := IntWalk.i64_in _ (by omega)
                  have hw1 : IntKind.i64.wrap (6 + (q : Int)) = 6 + (q : Int) := IntWalk.i64_in _ (by omega)
                  have hw2 : IntKind.i64.wrap (6 + (q : Int) + 1) = 6 + (q : Int) + 1 := IntWalk.i64_in _ (by omega)
                  have hw4 : (j : Int).tmod 8 = (r : Int) := by rw [Int.tmod_eq_emod_of_nonneg (by omega)]; exact eq2
                  have hw3 : IntKind.i64.wrap (r : Int) = (r : Int) := IntWalk.i64_in _ (by omega)
                  refine wp_region_held_drew (S := fun _ => True) (by kernel_rfl) ?_ (fun hHeld => ?_)
                  · exact trivial
                  generalize wr.drew = wD at *
                  refine takeRun (i := 0) (v := ?_) rfl (by kernel_rfl) (by kernel_rfl) (by kernel_rfl) (fun _ _ _ h => h) rfl ?_ (by assumption) ?_
                  rotate_left
                  · (intro w hSw; (try dsimp only at hSw); go_simp; (try with_reducible rfl))
                  try simp only [Act.put, List.setIfInBounds_toArray, List.set_cons_zero, List.set_cons_succ]
                  refine takeRun (i := 2) (v := ?_) rfl (by kernel_rfl) (by kernel_rfl) (by kernel_rfl) (fun _ _ _ h => h) rfl ?_ (by assumption) ?_
                  rotate_left
                  · (intro w hSw; (try dsimp only at hSw); go_simp; (try with_reducible rfl))
                  try simp only [Act.put, List.setIfInBounds_toArray, List.set_cons_zero, List.set_cons_succ]
                  refine takeRun (i := 3) (v := ?_) rfl (by kernel_rfl) (by kernel_rfl) (by kernel_rfl) (fun _ _ _ h => h) rfl ?_ (by assumption) ?_
                  rotate_left
                  · (intro w hSw; (try dsimp only at hSw); go_simp; (try with_reducible rfl))
                  try simp only [Act.put, List.setIfInBounds_toArray, List.set_cons_zero, List.set_cons_succ]
                  refine takeRun (i := 4) (v := ?_) rfl (by kernel_rfl) (by kernel_rfl) (by kernel_rfl) (fun _ _ _ h => h) rfl ?_ (by assumption) ?_
                  rotate_left
                  · (intro w hSw; (try dsimp only at hSw); go_simp; (try with_reducible rfl))
                  try simp only [Act.put, List.setIfInBounds_toArray, List.set_cons_zero, List.set_cons_succ]
                  refine takeRun (i := 5) (v := ?_) rfl (by kernel_rfl) (by kernel_rfl) (by kernel_rfl) (fun _ _ _ h => h) rfl ?_ (by assumption) ?_
                  rotate_left
                  · (intro w hSw; (try dsimp only at hSw); go_simp; (try with_reducible rfl))
                  try simp only [Act.put, List.setIfInBounds_toArray, List.set_cons_zero, List.set_cons_succ]
                  refine takeRun (i := 6) (v := ?_) rfl (by kernel_rfl) (by kernel_rfl) (by kernel_rfl) (fun _ _ _ h => h) rfl ?_ (by assumption) ?_
                  rotate_left
                  · (intro w hSw; (try dsimp only at hSw); go_simp; (try with_reducible rfl))
                  try simp only [Act.put, List.setIfInBounds_toArray, List.set_cons_zero, List.set_cons_succ]
                  refine takeRun (i := 7) (v := ?_) rfl (by kernel_rfl) (by kernel_rfl) (by kernel_rfl) (fun _ _ _ h => h) rfl ?_ (by assumption) ?_
                  rotate_left
                  · (intro w hSw; (try dsimp only at hSw); go_simp; (try with_reducible rfl))
                  try simp only [Act.put, List.setIfInBounds_toArray, List.set_cons_zero, List.set_cons_succ]
                  refine takeRun (i := 8) (v := ?_) rfl (by kernel_rfl) (by kernel_rfl) (by kernel_rfl) (fun _ _ _ h => h) rfl ?_ (by assumption) ?_
                  rotate_left
                  · (intro w hSw; (try dsimp only at hSw); go_simp; (try with_reducible rfl))
                  try simp only [Act.put, List.setIfInBounds_toArray, List.set_cons_zero, List.set_cons_succ]
                  refine takeRun (i := 9) (v := ?_) rfl (by kernel_rfl) (by kernel_rfl) (by kernel_rfl) (fun _ _ _ h => h) rfl ?_ (by assumption) ?_
                  rotate_left
                  · (intro w hSw; (try dsimp only at hSw); go_simp; (try with_reducible rfl))
                  try simp only [Act.put, List.setIfInBounds_toArray, List.set_cons_zero, List.set_cons_succ]
                  refine takeRun (i := 10) (v := ?_) rfl (by kernel_rfl) (by kernel_rfl) (by kernel_rfl) (fun _ _ _ h => h) rfl ?_ (by assumption) ?_
                  rotate_left
                  · (intro w hSw; (try dsimp only at hSw); go_simp; (try with_reducible rfl))
                  try simp only [Act.put, List.setIfInBounds_toArray, List.set_cons_zero, List.set_cons_succ]
                  refine takeRun (i := 11) (v := ?_) rfl (by kernel_rfl) (by kernel_rfl) (by kernel_rfl) (fun _ _ _ h => h) rfl ?_ (by assumption) ?_
                  rotate_left
                  · (intro w hSw; (try dsimp only at hSw); go_simp; (try with_reducible rfl))
                  try simp only [Act.put, List.setIfInBounds_toArray, List.set_cons_zero, List.set_cons_succ]
                  refine takeRun (i := 12) (v := ?_) rfl (by kernel_rfl) (by kernel_rfl) (by kernel_rfl) (fun _ _ _ h => h) rfl ?_ (by assumption) ?_
                  rotate_left
                  · (intro w hSw; (try dsimp only at hSw); go_simp; (try with_reducible rfl))
                  try simp only [Act.put, List.setIfInBounds_toArray, List.set_cons_zero, List.set_cons_succ]
                  refine takeRun (i := 14) (v := ?_) rfl (by kernel_rfl) (by kernel_rfl) (by kernel_rfl) (fun _ _ _ h => h) rfl ?_ (by assumption) ?_
                  rotate_left
                  · (intro w hSw; (try dsimp only at hSw); go_simp; (try with_reducible rfl))
                  try simp only [Act.put, List.setIfInBounds_toArray, List.set_cons_zero, List.set_cons_succ]
                  refine takeRun (i := 15) (v := ?_) rfl (by kernel_rfl) (by kernel_rfl) (by kernel_rfl) (fun _ _ _ h => h) rfl ?_ (by assumption) ?_
                  rotate_left
                  · (intro w hSw; (try dsimp only at hSw); go_simp; (try with_reducible rfl))
                  try simp only [Act.put, List.setIfInBounds_toArray, List.set_cons_zero, List.set_cons_succ]
                  refine goTwo (i := 1) (j := 13) (by kernel_rfl) rfl rfl (fun K hK => ?_) (fun K hK => ?_) 
                  · obtain ⟨d0, d1, d2_, d3, d4, d5⟩ := b4.c6
                    go_simp
                    clear d0 d1 d2_ d3 d4 d5
                    refine hK.out _ _ ?_ (fun hHeld => ?_)
                    · exact trivial
                    clear hK K
                    try simp only [Act.put, List.setIfInBounds_toArray, List.set_cons_zero, List.set_cons_succ]
                    refine goOne (i := 13) (by kernel_rfl) rfl (fun K hK => ?_)
                    go_simp
                    clear hsl
                    (with_reducible refine Calls.mono (E9.out _ (rs.below hs)) ?_)
                    rintro e y2 ⟨A8, c8, rfl, o8, hs8⟩
                    obtain ⟨g8, rfl, hg8, hg8b, hc8, hf8⟩ := o8.head (by rw [HU8.out]; decide)
                    have d8 := hc8 r _ HUY.out
                    clear hc8 hf8 hg8 hg8b o8
                    replace b4 := b4.all hs8
                    replace oa := oa.below hs8
                    replace ob := ob.below hs8
                    replace hs := bthen hs hs8
                    clear hs8
                    go_wp2_with fail
                    refine hK.out _ _ ?_ (fun hHeld => ?_)
                    · exact trivial
                    clear hK K
                    try simp only [Act.put, List.setIfInBounds_toArray, List.set_cons_zero, List.set_cons_succ]
                    refine takeRun (i := 16) (v := ?_) rfl (by kernel_rfl) (by kernel_rfl) (by kernel_rfl) (fun _ _ _ h => h) rfl ?_ (by assumption) ?_
                    rotate_left
                    · (intro w hSw; (try dsimp only at hSw); go_simp; (try with_reducible rfl))
                    try simp only [Act.put, List.setIfInBounds_toArray, List.set_cons_zero, List.set_cons_succ]
                    refine goOne (i := 17) (by kernel_rfl) rfl (fun K hK => ?_)
                    go_simp
                    clear d8
                    refine hK.out _ _ ?_ (fun hHeld => ?_)
                    · exact trivial
                    clear hK K
                    try simp only [Act.put, List.setIfInBounds_toArray, List.set_cons_zero, List.set_cons_succ]
                    refine goOne (i := 18) (by kernel_rfl) rfl (fun K hK => ?_)
                    have rl : Rd (y2.alloc (.cells #[.bool y] 4)) (some ⟨y2.heap.size, 0, none⟩) (os [y]) := Rd.lit _ _ [.bool y] rfl
                    replace b4 := b4.alloc (.cells #[.bool y] 4)
                    replace oa := oa.alloc (.cells #[.bool y] 4)
                    replace ob := ob.alloc (.cells #[.bool y] 4)
                    replace hs := hs.alloc hs.size (.cells #[.bool y] 4)
                    go_simp
                    generalize y2.alloc (.cells #[.bool y] 4) = y4 at *
                    obtain ⟨gl, hgl⟩ : ∃ g, y2.heap.size = g := ⟨_, rfl⟩
                    rw [hgl] at rl
                    (try rw [hgl])
                    clear hgl
                    refine hK.out _ _ ?_ (fun hHeld => ?_)
                    · exact trivial
                    clear hK K
                    try simp only [Act.put, List.setIfInBounds_toArray, List.set_cons_zero, List.set_cons_succ]
                    refine goOne (i := 19) (by kernel_rfl) rfl (fun K hK => ?_)
                    refine sapp_o rfl _ _ rfl w1 hs B2 j d2 _ rfl ob HTL.out (some ⟨gl, 0, none⟩) 1 1 [y] rfl rl rfl (by have := HJ3.out; omega) ?_
                    intro B9 d9 y5 ob9 hs9 hg9
                    replace b4 := b4.pass0 ob (by decide) hg9
                    replace oa := oa.keptOw ob (by decide) hg9
                    replace hs := hs9
                    replace ob := ob9
                    clear hs9 ob9 hg9 rl
                    refine hK.out _ _ ?_ (fun hHeld => ?_)
                    · exact trivial
                    clear hK K
                    try simp only [Act.put, List.setIfInBounds_toArray, List.set_cons_zero, List.set_cons_succ]
                    refine takeRun (i := 20) (v := ?_) rfl (by kernel_rfl) (by kernel_rfl) (by kernel_rfl) (fun _ _ _ h => h) rfl ?_ (by assumption) ?_
                    rotate_left
                    · (intro w hSw; (try dsimp only at hSw); go_simp; (try with_reducible rfl))
                    try simp only [Act.put, List.setIfInBounds_toArray, List.set_cons_zero, List.set_cons_succ]
                    refine goOne (i := 21) (by kernel_rfl) rfl (fun K hK => ?_)
                    obtain ⟨d0, d1, d2_, d3, d4, d5⟩ := b4.c6
                    have dz5 := b4.frozen 5
                    go_simp
                    clear d0 d1 d2_ d3 d4 d5 dz5
                    replace oa := oa.setBlk b4 (by decide) 5 (.slice B9 (j + 1) d9)
                    replace ob := ob.setBlk b4 (by decide) 5 (.slice B9 (j + 1) d9)
                    replace b4 := b4.set_ 5 (.slice B9 (j + 1) d9)
                    replace hs := hs.setCell (p := ⟨g4, 5, none⟩) hg4w (.slice B9 (j + 1) d9)
                    generalize y5.setCell ⟨g4, 5, none⟩ (.slice B9 (j + 1) d9) = y6 at *
                    refine hK.out _ _ ?_ (fun hHeld => ?_)
                    · exact trivial
                    clear hK K
                    try simp only [Act.put, List.setIfInBounds_toArray, List.set_cons_zero, List.set_cons_succ]
                    refine wpAnyH_done (by kernel_rfl) ?_ _
                    go_wp2_with fail
                    go_meet
                    exact ⟨A2, c2, B9, d9, by rw [HX.out]; exact b4, oa, by rw [HT.out]; exact ob, hs⟩
                  · go_simp
                    clear hsl
                    (with_reducible refine Calls.mono (E9.out _ (rs.below hs)) ?_)
                    rintro e y7 ⟨A8, c8, rfl, o8, hs8⟩
                    obtain ⟨g8, rfl, hg8, hg8b, hc8, hf8⟩ := o8.head (by rw [HU8.out]; decide)
                    have d8 := hc8 r _ HUY.out
                    clear hc8 hf8 hg8 hg8b o8
                    replace b4 := b4.all hs8
                    replace oa := oa.below hs8
                    replace ob := ob.below hs8
                    replace hs := bthen hs hs8
                    clear hs8
                    go_wp2_with fail
                    refine hK.out _ _ ?_ (fun hHeld => ?_)
                    · exact trivial
                    clear hK K
                    try simp only [Act.put, List.setIfInBounds_toArray, List.set_cons_zero, List.set_cons_succ]
                    refine takeRun (i := 16) (v := ?_) rfl (by kernel_rfl) (by kernel_rfl) (by kernel_rfl) (fun _ _ _ h => h) rfl ?_ (by assumption) ?_
                    rotate_left
                    · (intro w hSw; (try dsimp only at hSw); go_simp; (try with_reducible rfl))
                    try simp only [Act.put, List.setIfInBounds_toArray, List.set_cons_zero, List.set_cons_succ]
                    refine goTwo (i := 1) (j := 17) (by kernel_rfl) rfl rfl (fun K hK => ?_) (fun K hK => ?_) 
                    · obtain ⟨d0, d1, d2_, d3, d4, d5⟩ := b4.c6
                      go_simp
                      clear d0 d1 d2_ d3 d4 d5
                      refine hK.out _ _ ?_ (fun hHeld => ?_)
                      · exact trivial
                      clear hK K
                      try simp only [Act.put, List.setIfInBounds_toArray, List.set_cons_zero, List.set_cons_succ]
                      refine goOne (i := 17) (by kernel_rfl) rfl (fun K hK => ?_)
                      go_simp
                      clear d8
                      refine hK.out _ _ ?_ (fun hHeld => ?_)
                      · exact trivial
                      clear hK K
                      try simp only [Act.put, List.setIfInBounds_toArray, List.set_cons_zero, List.set_cons_succ]
                      refine goOne (i := 18) (by kernel_rfl) rfl (fun K hK => ?_)
                      have rl : Rd (y7.alloc (.cells #[.bool y] 4)) (some ⟨y7.heap.size, 0, none⟩) (os [y]) := Rd.lit _ _ [.bool y] rfl
                      replace b4 := b4.alloc (.cells #[.bool y] 4)
                      replace oa := oa.alloc (.cells #[.bool y] 4)
                      replace ob := ob.alloc (.cells #[.bool y] 4)
                      replace hs := hs.alloc hs.size (.cells #[.bool y] 4)
                      go_simp
                      generalize y7.alloc (.cells #[.bool y] 4) = y10 at *
                      obtain ⟨gl, hgl⟩ : ∃ g, y7.heap.size = g := ⟨_, rfl⟩
                      rw [hgl] at rl
                      (try rw [hgl])
                      clear hgl
                      refine hK.out _ _ ?_ (fun hHeld => ?_)
                      · exact trivial
                      clear hK K
                      try simp only [Act.put, List.setIfInBounds_toArray, List.set_cons_zero, List.set_cons_succ]
                      refine goOne (i := 19) (by kernel_rfl) rfl (fun K hK => ?_)
                      refine sapp_o rfl _ _ rfl w1 hs B2 j d2 _ rfl ob HTL.out (some ⟨gl, 0, none⟩) 1 1 [y] rfl rl rfl (by have := HJ3.out; omega) ?_
                      intro B9 d9 y11 ob9 hs9 hg9
                      replace b4 := b4.pass0 ob (by decide) hg9
                      replace oa := oa.keptOw ob (by decide) hg9
                      replace hs := hs9
                      replace ob := ob9
                      clear hs9 ob9 hg9 rl
                      refine hK.out _ _ ?_ (fun hHeld => ?_)
                      · exact trivial
                      clear hK K
                      try simp only [Act.put, List.setIfInBounds_toArray, List.set_cons_zero, List.set_cons_succ]
                      refine takeRun (i := 20) (v := ?_) rfl (by kernel_rfl) (by kernel_rfl) (by kernel_rfl) (fun _ _ _ h => h) rfl ?_ (by assumption) ?_
                      rotate_left
                      · (intro w hSw; (try dsimp only at hSw); go_simp; (try with_reducible rfl))
                      try simp only [Act.put, List.setIfInBounds_toArray, List.set_cons_zero, List.set_cons_succ]
                      refine goOne (i := 21) (by kernel_rfl) rfl (fun K hK => ?_)
                      obtain ⟨d0, d1, d2_, d3, d4, d5⟩ := b4.c6
                      have dz5 := b4.frozen 5
                      go_simp
                      clear d0 d1 d2_ d3 d4 d5 dz5
                      replace oa := oa.setBlk b4 (by decide) 5 (.slice B9 (j + 1) d9)
                      replace ob := ob.setBlk b4 (by decide) 5 (.slice B9 (j + 1) d9)
                      replace b4 := b4.set_ 5 (.slice B9 (j + 1) d9)
                      replace hs := hs.setCell (p := ⟨g4, 5, none⟩) hg4w (.slice B9 (j + 1) d9)
                      generalize y11.setCell ⟨g4, 5, none⟩ (.slice B9 (j + 1) d9) = y12 at *
                      refine hK.out _ _ ?_ (fun hHeld => ?_)
                      · exact trivial
                      clear hK K
                      try simp only [Act.put, List.setIfInBounds_toArray, List.set_cons_zero, List.set_cons_succ]
                      refine wpAnyH_done (by kernel_rfl) ?_ _
                      go_wp2_with fail
                      go_meet
                      exact ⟨A2, c2, B9, d9, by rw [HX.out]; exact b4, oa, by rw [HT.out]; exact ob, hs⟩
                    · go_simp
                      clear d8
                      refine hK.out _ _ ?_ (fun hHeld => ?_)
                      · exact trivial
                      clear hK K
                      try simp only [Act.put, List.setIfInBounds_toArray, List.set_cons_zero, List.set_cons_succ]
                      refine goTwo (i := 1) (j := 18) (by kernel_rfl) rfl rfl (fun K hK => ?_) (fun K hK => ?_) 
                      · obtain ⟨d0, d1, d2_, d3, d4, d5⟩ := b4.c6
                        go_simp
                        clear d0 d1 d2_ d3 d4 d5
                        refine hK.out _ _ ?_ (fun hHeld => ?_)
                        · exact trivial
                        clear hK K
                        try simp only [Act.put, List.setIfInBounds_toArray, List.set_cons_zero, List.set_cons_succ]
                        refine goOne (i := 18) (by kernel_rfl) rfl (fun K hK => ?_)
                        have rl : Rd (y7.alloc (.cells #[.bool y] 4)) (some ⟨y7.heap.size, 0, none⟩) (os [y]) := Rd.lit _ _ [.bool y] rfl
                        replace b4 := b4.alloc (.cells #[.bool y] 4)
                        replace oa := oa.alloc (.cells #[.bool y] 4)
                        replace ob := ob.alloc (.cells #[.bool y] 4)
                        replace hs := hs.alloc hs.size (.cells #[.bool y] 4)
                        go_simp
                        generalize y7.alloc (.cells #[.bool y] 4) = y15 at *
                        obtain ⟨gl, hgl⟩ : ∃ g, y7.heap.size = g := ⟨_, rfl⟩
                        rw [hgl] at rl
                        (try rw [hgl])
                        clear hgl
                        refine hK.out _ _ ?_ (fun hHeld => ?_)
                        · exact trivial
                        clear hK K
                        try simp only [Act.put, List.setIfInBounds_toArray, List.set_cons_zero, List.set_cons_succ]
                        refine goOne (i := 19) (by kernel_rfl) rfl (fun K hK => ?_)
                        refine sapp_o rfl _ _ rfl w1 hs B2 j d2 _ rfl ob HTL.out (some ⟨gl, 0, none⟩) 1 1 [y] rfl rl rfl (by have := HJ3.out; omega) ?_
                        intro B9 d9 y16 ob9 hs9 hg9
                        replace b4 := b4.pass0 ob (by decide) hg9
                        replace oa := oa.keptOw ob (by decide) hg9
                        replace hs := hs9
                        replace ob := ob9
                        clear hs9 ob9 hg9 rl
                        refine hK.out _ _ ?_ (fun hHeld => ?_)
                        · exact trivial
                        clear hK K
                        try simp only [Act.put, List.setIfInBounds_toArray, List.set_cons_zero, List.set_cons_succ]
                        refine takeRun (i := 20) (v := ?_) rfl (by kernel_rfl) (by kernel_rfl) (by kernel_rfl) (fun _ _ _ h => h) rfl ?_ (by assumption) ?_
                        rotate_left
                        · (intro w hSw; (try dsimp only at hSw); go_simp; (try with_reducible rfl))
                        try simp only [Act.put, List.setIfInBounds_toArray, List.set_cons_zero, List.set_cons_succ]
                        refine goOne (i := 21) (by kernel_rfl) rfl (fun K hK => ?_)
                        obtain ⟨d0, d1, d2_, d3, d4, d5⟩ := b4.c6
                        have dz5 := b4.frozen 5
                        go_simp
                        clear d0 d1 d2_ d3 d4 d5 dz5
                        replace oa := oa.setBlk b4 (by decide) 5 (.slice B9 (j + 1) d9)
                        replace ob := ob.setBlk b4 (by decide) 5 (.slice B9 (j + 1) d9)
                        replace b4 := b4.set_ 5 (.slice B9 (j + 1) d9)
                        replace hs := hs.setCell (p := ⟨g4, 5, none⟩) hg4w (.slice B9 (j + 1) d9)
                        generalize y16.setCell ⟨g4, 5, none⟩ (.slice B9 (j + 1) d9) = y17 at *
                        refine hK.out _ _ ?_ (fun hHeld => ?_)
                        · exact trivial
                        clear hK K
                        try simp only [Act.put, List.setIfInBounds_toArray, List.set_cons_zero, List.set_cons_succ]
                        refine wpAnyH_done (by kernel_rfl) ?_ _
                        go_wp2_with fail
                        go_meet
                        exact ⟨A2, c2, B9, d9, by rw [HX.out]; exact b4, oa, by rw [HT.out]; exact ob, hs⟩
                      · have rl : Rd (y7.alloc (.cells #[.bool y] 4)) (some ⟨y7.heap.size, 0, none⟩) (os [y]) := Rd.lit _ _ [.bool y] rfl
                        replace b4 := b4.alloc (.cells #[.bool y] 4)
                        replace oa := oa.alloc (.cells #[.bool y] 4)
                        replace ob := ob.alloc (.cells #[.bool y] 4)
                        replace hs := hs.alloc hs.size (.cells #[.bool y] 4)
                        go_simp
                        generalize y7.alloc (.cells #[.bool y] 4) = y18 at *
                        obtain ⟨gl, hgl⟩ : ∃ g, y7.heap.size = g := ⟨_, rfl⟩
                        rw [hgl] at rl
                        (try rw [hgl])
                        clear hgl
                        refine hK.out _ _ ?_ (fun hHeld => ?_)
                        · exact trivial
                        clear hK K
                        try simp only [Act.put, List.setIfInBounds_toArray, List.set_cons_zero, List.set_cons_succ]
                        refine goOne (i := 1) (by kernel_rfl) rfl (fun K hK => ?_)
                        obtain ⟨d0, d1, d2_, d3, d4, d5⟩ := b4.c6
                        go_simp
                        clear d0 d1 d2_ d3 d4 d5
                        refine hK.out _ _ ?_ (fun hHeld => ?_)
                        · exact trivial
                        clear hK K
                        try simp only [Act.put, List.setIfInBounds_toArray, List.set_cons_zero, List.set_cons_succ]
                        refine goOne (i := 19) (by kernel_rfl) rfl (fun K hK => ?_)
                        refine sapp_o rfl _ _ rfl w1 hs B2 j d2 _ rfl ob HTL.out (some ⟨gl, 0, none⟩) 1 1 [y] rfl rl rfl (by have := HJ3.out; omega) ?_
                        intro B9 d9 y20 ob9 hs9 hg9
                        replace b4 := b4.pass0 ob (by decide) hg9
                        replace oa := oa.keptOw ob (by decide) hg9
                        replace hs := hs9
                        replace ob := ob9
                        clear hs9 ob9 hg9 rl
                        refine hK.out _ _ ?_ (fun hHeld => ?_)
                        · exact trivial
                        clear hK K
                        try simp only [Act.put, List.setIfInBounds_toArray, List.set_cons_zero, List.set_cons_succ]
                        refine takeRun (i := 20) (v := ?_) rfl (by kernel_rfl) (by kernel_rfl) (by kernel_rfl) (fun _ _ _ h => h) rfl ?_ (by assumption) ?_
                        rotate_left
                        · (intro w hSw; (try dsimp only at hSw); go_simp; (try with_reducible rfl))
                        try simp only [Act.put, List.setIfInBounds_toArray, List.set_cons_zero, List.set_cons_succ]
                        refine goOne (i := 21) (by kernel_rfl) rfl (fun K hK => ?_)
                        obtain ⟨d0, d1, d2_, d3, d4, d5⟩ := b4.c6
                        have dz5 := b4.frozen 5
                        go_simp
                        clear d0 d1 d2_ d3 d4 d5 dz5
                        replace oa := oa.setBlk b4 (by decide) 5 (.slice B9 (j + 1) d9)
                        replace ob := ob.setBlk b4 (by decide) 5 (.slice B9 (j + 1) d9)
                        replace b4 := b4.set_ 5 (.slice B9 (j + 1) d9)
                        replace hs := hs.setCell (p := ⟨g4, 5, none⟩) hg4w (.slice B9 (j + 1) d9)
                        generalize y20.setCell ⟨g4, 5, none⟩ (.slice B9 (j + 1) d9) = y21 at *
                        refine hK.out _ _ ?_ (fun hHeld => ?_)
                        · exact trivial
                        clear hK K
                        try simp only [Act.put, List.setIfInBounds_toArray, List.set_cons_zero, List.set_cons_succ]
                        refine wpAnyH_done (by kernel_rfl) ?_ _
                        go_wp2_with fail
                        go_meet
                        exact ⟨A2, c2, B9, d9, by rw [HX.out]; exact b4, oa, by rw [HT.out]; exact ob, hs⟩
                case rest =>
                  go_wp2_with fail
                  go_roundw
                  case rel => exact ⟨j + 1, HJ.out, by go_num, hcut⟩
                  case measure => have := HJ.out; simp [intOf]; omega
              have hjL : j = L := by omega
              have HE : Hid ((bitsR l m).take j = bitsR l m) := by (show _ = _); rw [hjL, ← HL.out, List.take_length]
              have HX : Hid (akc ⟨f, t, m, 0, [], bitsR l m⟩ A2 c2 B2 d2 = #[.int .u8 (f : Int), .int .u16 (t : Int), .int .u16 (m : Int), .int .u16 0, .slice A2 0 c2, .slice B2 j d2]) := by (show _ = _); unfold akc; simp only [HL.out, hjL]; rfl
              rw [HE.out] at ob
              have hor : ¬ j < m ∨ ¬ 6 + q < n := by have := HLm.out; omega
              have hq0 : q ≤ 100000 := by have := HLm.out; omega
              have HJL := Lib.hid hjL
              clear hlt hjL
              obtain ⟨dd0, dd1, dd2, dd3, dd4, dd5⟩ := b4.c6
              have ddz0 := b4.frozen 0
              have ddz1 := b4.frozen 1
              have ddz2 := b4.frozen 2
              have ddz3 := b4.frozen 3
              have ddz4 := b4.frozen 4
              have ddz5 := b4.frozen 5
              by_cases hjm : j < m
              · have v1 : decide ((j : Int) < (m : Int)) = true := decide_eq_true (by omega)
                have v2 : decide (6 + (q : Int) < (n : Int)) = false := decide_eq_false (by omega)
                clear hor hq hr
                go_wp2_with fail
                go_meet
                rw [HC2.out]
                exact ⟨A2, c2, B2, d2, by rw [HX.out]; exact b4, oa, ob, hs⟩
              · have v1 : decide ((j : Int) < (m : Int)) = false := decide_eq_false (by omega)
                clear hor hq hr
                go_wp2_with fail
                go_meet
                rw [HC2.out]
                exact ⟨A2, c2, B2, d2, by rw [HX.out]; exact b4, oa, ob, hs⟩
          have v15 : ((f : Int) == 15) = false := by simp; omega
          have HC2 : Hid (stC f t m o l = stB f t m o) := by (show _ = _); simp [stC, stB, c15]
          clear c15
          go_wp2_with fail
          go_meet
          rw [HC2.out]
          exact hcut
        case rest =>
          clear d0
          generalize hwz : wc = wA at *
          clear hwz
          have hst := hcut
          clear hcut
          have d0 : wA.cell? ⟨g4, 0, none⟩ = some (.int .u8 (f : Int)) := St.fn hst
          obtain ⟨x, hx⟩ : ∃ x, decide (f = 16 ∨ f = 23) = x := ⟨_, rfl⟩
          have HX0 := Lib.hid hx
          go_upto_region 19 with fail
          go_cut [95] (fun v wc => v = .bool x ∧ wc = wA)
          case first =>
            by_cases c16 : f = 16
            · have v16 : ((f : Int) == 16) = true := by simp; omega
              have hx1 : x = true := by rw [← hx]; simp [c16]
              clear hx c16
              go_wp2_with fail
              go_meet
              exact ⟨by rw [hx1], rfl⟩
            · have v16 : ((f : Int) == 16) = false := by simp; omega
              by_cases c23 : f = 23
              · have v23 : ((f : Int) == 23) = true := by simp; omega
                have hx1 : x = true := by rw [← hx]; simp [c23]
                clear hx c16 c23
                go_wp2_with fail
                go_meet
                exact ⟨by rw [hx1], rfl⟩
              · have v23 : ((f : Int) == 23) = false := by simp; omega
                have hx1 : x = false := by rw [← hx]; simp [c16, c23]
                clear hx c16 c23
                go_wp2_with fail
                go_meet
                exact ⟨by rw [hx1], rfl⟩
          case rest =>
            obtain ⟨hv95, hwA⟩ := hcut
            subst hv95
            subst hwA
            clear d0 hx
            generalize hwz : wc = wA at *
            clear hwz
            go_upto_if 95 with fail
            go_cut [] (fun wc => St w1 wc g4 (refA l))
            case first =>
              cases x with
              | false =>
                have HC3 : Hid (refA l = stC f t m o l) := by
                  (show _ = _)
                  have hxf := of_decide_eq_false HX0.out
                  rw [RA.out]
                  unfold stC
                  have h16 : ¬ f = 16 := by omega
                  have h23 : ¬ f = 23 := by omega
                  simp [h16, h23]
                go_wp2_with fail
                go_meet
                rw [HC3.out]
                exact hst
              | true =>
                obtain ⟨F, o', hv, hC, hR6, hF10, ho'⟩ : ∃ F o' : Nat, v5' = .int .i64 (F : Int) ∧ stC f t m o l = ⟨f, t, m, o', [], []⟩ ∧ refA l = ⟨f, t, m, o', wordsR l F, []⟩ ∧ F ≤ 10 ∧ o' < 65536 := by
                  have hxt := of_decide_eq_true HX0.out
                  rcases hxt with c | c
                  · exact ⟨6, 0, by rw [HV5.out, if_neg (by omega)]; rfl, by simp [stC, c], by rw [RA.out]; simp [c], by omega, by omega⟩
                  · exact ⟨10, o, by rw [HV5.out, if_pos c]; rfl, by simp [stC, c], by rw [RA.out]; simp [c], by omega, by omega⟩
                subst hv
                rw [hC] at hst
                have HR6 := Lib.hid hR6
                obtain ⟨L, hL⟩ : ∃ L, (wordsR l F).length = L := ⟨_, rfl⟩
                have HL : Hid ((wordsR l F).length = L) := hL
                have HLm : Hid (L = (n - F) / 2) := by (show _ = _); rw [← hL, wordsR_len, HN.out]
                clear hC hR6 hL
                go_wp2_with fail
                go_loopw [7] (fun i wr => ∃ j p : Nat, Hid (p = F + 2 * j) ∧ j ≤ L ∧ i = .int .i64 (p : Int) ∧ St w1 wr g4 ⟨f, t, m, o', (wordsR l F).take j, []⟩) (fun i _ => 400 - (intOf i).toNat)
                case atStart => exact ⟨0, F, by (show _ = _); omega, by omega, rfl, by rw [List.take_zero]; exact hst⟩
                case round =>
                  clear hst
                  obtain ⟨j, p, HP, hj, rfl, hcut⟩ := hrel
                  obtain ⟨A2, c2, B2, d2, b4, oa, ob, hs⟩ := hcut
                  have HTL : Hid (((wordsR l F).take j).length = j) := by (show _ = _); rw [List.length_take, HL.out]; omega
                  replace b4 : Blk wr g4 41 #[.int .u8 (f : Int), .int .u16 (t : Int), .int .u16 (m : Int), .int .u16 (o' : Int), .slice A2 j c2, .slice B2 0 d2] := by
                    have hq := b4
                    unfold akc at hq
                    simp only [HTL.out] at hq
                    exact hq
                  have hp400 : p ≤ 320 := by have := HLm.out; have := HP.out; omega
                  by_cases hlt : p + 1 < n
                  · have HJ : Hid (j + 1 ≤ L) := by (show _ ≤ _); have := HLm.out; have := HP.out; omega
                    have HJ3 : Hid (j ≤ 100000) := by (show _ ≤ _); have := HLm.out; omega
                    have HP1 : Hid (p + 2 = F + 2 * (j + 1)) := by (show _ = _); have := HP.out; omega
                    have hword := wordsR_get l F j (by rw [HN.out]; have := HP.out; omega)
                    rw [← HP.out] at hword
                    obtain ⟨z, hz⟩ : ∃ z, atR l p = z := ⟨_, rfl⟩
                    have hzb : z < 65536 := by rw [← hz]; exact atR_lt hl p
                    have E7 := Lib.hid (fun (W : World) (hW : Rd W (some ⟨bb, off, none⟩) (bs l)) => ref_At _ n c l p W hW HN.out hl (by omega) (by omega))
                    rw [hz] at hword E7
                    have HT := Lib.hid (take_snoc hword)
                    have HTL1 : Hid (((wordsR l F).take (j + 1)).length = j + 1) := by (show _ = _); rw [HT.out, List.length_append, HTL.out]; rfl
                    have HX : Hid (∀ A9 c9, akc ⟨f, t, m, o', (wordsR l F).take (j + 1), []⟩ A9 c9 B2 d2 = #[.int .u8 (f : Int), .int .u16 (t : Int), .int .u16 (m : Int), .int .u16 (o' : Int), .slice A9 (j + 1) c9, .slice B2 0 d2]) := by (show ∀ _, _); intro A9 c9; unfold akc; simp only [HTL1.out]; rfl
                    have v1 : decide ((p : Int) + 1 < (n : Int)) = true := decide_eq_true (by omega)
                    clear hword hz
                    go_upto_block 4 with fail
                    go_cut [] (fun wc => St w1 wc g4 ⟨f, t, m, o', (wordsR l F).take (j + 1), []⟩)
                    case first =>
                      go_upto_region 23 with fail
                      replace b4 := b4.drew
                      replace oa := oa.drew
                      replace ob := ob.drew
                      replace hs := hs.drew
                      have ez : IntKind.u16.wrap (z : Int) = (z : Int) := by rw [IntKind.wrap_u16]; omega
                      refine wp_region_held_drew (S := fun _ => True) (by kernel_rfl) ?_ (fun hHeld => ?_)
                      · exact trivial
                      generalize wr.drew = wD at *
                      refine takeRun (i := 0) (v := ?_) rfl (by kernel_rfl) (by kernel_rfl) (by kernel_rfl) (fun _ _ _ h => h) rfl ?_ (by assumption) ?_
                      rotate_left
                      · (intro w hSw; (try dsimp only at hSw); go_simp; (try with_reducible rfl))
                      try simp only [Act.put, List.setIfInBounds_toArray, List.set_cons_zero, List.set_cons_succ]
                      refine takeRun (i := 2) (v := ?_) rfl (by kernel_rfl) (by kernel_rfl) (by kernel_rfl) (fun _ _ _ h => h) rfl ?_ (by assumption) ?_
                      rotate_left
                      · (intro w hSw; (try dsimp only at hSw); go_simp; (try with_reducible rfl))
                      try simp only [Act.put, List.setIfInBounds_toArray, List.set_cons_zero, List.set_cons_succ]
                      refine takeRun (i := 3) (v := ?_) rfl (by kernel_rfl) (by kernel_rfl) (by kernel_rfl) (fun _ _ _ h => h) rfl ?_ (by assumption) ?_
                      rotate_left
                      · (intro w hSw; (try dsimp only at hSw); go_simp; (try with_reducible rfl))
                      try simp only [Act.put, List.setIfInBounds_toArray, List.set_cons_zero, List.set_cons_succ]
                      refine goTwo (i := 1) (j := 4) (by kernel_rfl) rfl rfl (fun K hK => ?_) (fun K hK => ?_) 
                      · obtain ⟨d0, d1, d2_, d3, d4, d5⟩ := b4.c6
                        go_simp
                        clear d0 d1 d2_ d3 d4 d5
                        refine hK.out _ _ ?_ (fun hHeld => ?_)
                        · exact trivial
                        clear hK K
                        try simp only [Act.put, List.setIfInBounds_toArray, List.set_cons_zero, List.set_cons_succ]
                        refine goOne (i := 4) (by kernel_rfl) rfl (fun K hK => ?_)
                        go_simp
                        (with_reducible refine Calls.mono (E7.out _ (hA1.below hs)) ?_)
                        rintro e y2 ⟨rfl, dn, hdn⟩
                        have hs8 : Below wD.heap.size wD y2 := by rw [hdn]; exact below_drewN (Below.refl _ _) dn
                        clear hdn
                        replace b4 := b4.all hs8
                        replace oa := oa.below hs8
                        replace ob := ob.below hs8
                        replace hs := bthen hs hs8
                        clear hs8
                        go_wp2_with fail
                        refine hK.out _ _ ?_ (fun hHeld => ?_)
                        · exact trivial
                        clear hK K
                        try simp only [Act.put, List.setIfInBounds_toArray, List.set_cons_zero, List.set_cons_succ]
                        refine takeRun (i := 5) (v := ?_) rfl (by kernel_rfl) (by kernel_rfl) (by kernel_rfl) (fun _ _ _ h => h) rfl ?_ (by assumption) ?_
                        rotate_left
                        · (intro w hSw; (try dsimp only at hSw); go_simp; (try with_reducible rfl))
                        try simp only [Act.put, List.setIfInBounds_toArray, List.set_cons_zero, List.set_cons_succ]
                        refine goOne (i := 6) (by kernel_rfl) rfl (fun K hK => ?_)
                        have rl : Rd (y2.alloc (.cells #[.int .u16 (z : Int)] 34)) (some ⟨y2.heap.size, 0, none⟩) (ws [z]) := Rd.lit _ _ [.int .u16 (z : Int)] rfl
                        replace b4 := b4.alloc (.cells #[.int .u16 (z : Int)] 34)
                        replace oa := oa.alloc (.cells #[.int .u16 (z : Int)] 34)
                        replace ob := ob.alloc (.cells #[.int .u16 (z : Int)] 34)
                        replace hs := hs.alloc hs.size (.cells #[.int .u16 (z : Int)] 34)
                        go_simp
                        generalize y2.alloc (.cells #[.int .u16 (z : Int)] 34) = y3 at *
                        obtain ⟨gl, hgl⟩ : ∃ g, y2.heap.size = g := ⟨_, rfl⟩
                        rw [hgl] at rl
                        (try rw [hgl])
                        clear hgl
                        refine hK.out _ _ ?_ (fun hHeld => ?_)
                        · exact trivial
                        clear hK K
                        try simp only [Act.put, List.setIfInBounds_toArray, List.set_cons_zero, List.set_cons_succ]
                        refine goOne (i := 7) (by kernel_rfl) rfl (fun K hK => ?_)
                        refine sapp_w rfl _ _ rfl w1 hs A2 j c2 _ rfl oa HTL.out (some ⟨gl, 0, none⟩) 1 1 [z] rfl rl rfl (by have := HJ3.out; omega) ?_
                        intro A9 c9 y4 oa9 hs9 hg9
                        replace b4 := b4.pass0 oa (by decide) hg9
                        replace ob := ob.keptOw oa (by decide) hg9
                        replace hs := hs9
                        replace oa := oa9
                        clear hs9 oa9 hg9 rl
                        refine hK.out _ _ ?_ (fun hHeld => ?_)
                        · exact trivial
                        clear hK K
                        try simp only [Act.put, List.setIfInBounds_toArray, List.set_cons_zero, List.set_cons_succ]
                        refine takeRun (i := 8) (v := ?_) rfl (by kernel_rfl) (by kernel_rfl) (by kernel_rfl) (fun _ _ _ h => h) rfl ?_ (by assumption) ?_
                        rotate_left
                        · (intro w hSw; (try dsimp only at hSw); go_simp; (try with_reducible rfl))
                        try simp only [Act.put, List.setIfInBounds_toArray, List.set_cons_zero, List.set_cons_succ]
                        refine goOne (i := 9) (by kernel_rfl) rfl (fun K hK => ?_)
                        obtain ⟨d0, d1, d2_, d3, d4, d5⟩ := b4.c6
                        have dz4 := b4.frozen 4
                        go_simp
                        clear d0 d1 d2_ d3 d4 d5 dz4
                        replace oa := oa.setBlk b4 (by decide) 4 (.slice A9 (j + 1) c9)
                        replace ob := ob.setBlk b4 (by decide) 4 (.slice A9 (j + 1) c9)
                        replace b4 := b4.set_ 4 (.slice A9 (j + 1) c9)
                        replace hs := hs.setCell (p := ⟨g4, 4, none⟩) hg4w (.slice A9 (j + 1) c9)
                        generalize y4.setCell ⟨g4, 4, none⟩ (.slice A9 (j + 1) c9) = y5 at *
                        refine hK.out _ _ ?_ (fun hHeld => ?_)
                        · exact trivial
                        clear hK K
                        try simp only [Act.put, List.setIfInBounds_toArray, List.set_cons_zero, List.set_cons_succ]
                        refine wpAnyH_done (by kernel_rfl) ?_ _
                        go_wp2_with fail
                        go_meet
                        exact ⟨A9, c9, B2, d2, by rw [HX.out]; exact b4, by rw [HT.out]; exact oa, ob, hs⟩
                      · go_simp
                        (with_reducible refine Calls.mono (E7.out _ (hA1.below hs)) ?_)
                        rintro e y6 ⟨rfl, dn, hdn⟩
                        have hs8 : Below wD.heap.size wD y6 := by rw [hdn]; exact below_drewN (Below.refl _ _) dn
                        clear hdn
                        replace b4 := b4.all hs8
                        replace oa := oa.below hs8
                        replace ob := ob.below hs8
                        replace hs := bthen hs hs8
                        clear hs8
                        go_wp2_with fail
                        refine hK.out _ _ ?_ (fun hHeld => ?_)
                        · exact trivial
                        clear hK K
                        try simp only [Act.put, List.setIfInBounds_toArray, List.set_cons_zero, List.set_cons_succ]
                        refine takeRun (i := 5) (v := ?_) rfl (by kernel_rfl) (by kernel_rfl) (by kernel_rfl) (fun _ _ _ h => h) rfl ?_ (by assumption) ?_
                        rotate_left
                        · (intro w hSw; (try dsimp only at hSw); go_simp; (try with_reducible rfl))
                        try simp only [Act.put, List.setIfInBounds_toArray, List.set_cons_zero, List.set_cons_succ]
                        refine goTwo (i := 1) (j := 6) (by kernel_rfl) rfl rfl (fun K hK => ?_) (fun K hK => ?_) 
                        · obtain ⟨d0, d1, d2_, d3, d4, d5⟩ := b4.c6
                          go_simp
                          clear d0 d1 d2_ d3 d4 d5
                          refine hK.out _ _ ?_ (fun hHeld => ?_)
                          · exact trivial
                          clear hK K
                          try simp only [Act.put, List.setIfInBounds_toArray, List.set_cons_zero, List.set_cons_succ]
                          refine goOne (i := 6) (by kernel_rfl) rfl (fun K hK => ?_)
                          have rl : Rd (y6.alloc (.cells #[.int .u16 (z : Int)] 34)) (some ⟨y6.heap.size, 0, none⟩) (ws [z]) := Rd.lit _ _ [.int .u16 (z : Int)] rfl
                          replace b4 := b4.alloc (.cells #[.int .u16 (z : Int)] 34)
                          replace oa := oa.alloc (.cells #[.int .u16 (z : Int)] 34)
                          replace ob := ob.alloc (.cells #[.int .u16 (z : Int)] 34)
                          replace hs := hs.alloc hs.size (.cells #[.int .u16 (z : Int)] 34)
                          go_simp
                          generalize y6.alloc (.cells #[.int .u16 (z : Int)] 34) = y8 at *
                          obtain ⟨gl, hgl⟩ : ∃ g, y6.heap.size = g := ⟨_, rfl⟩
                          rw [hgl] at rl
                          (try rw [hgl])
                          clear hgl
                          refine hK.out _ _ ?_ (fun hHeld => ?_)
                          · exact trivial
                          clear hK K
                          try simp only [Act.put, List.setIfInBounds_toArray, List.set_cons_zero, List.set_cons_succ]
                          refine goOne (i := 7) (by kernel_rfl) rfl (fun K hK => ?_)
                          refine sapp_w rfl _ _ rfl w1 hs A2 j c2 _ rfl oa HTL.out (some ⟨gl, 0, none⟩) 1 1 [z] rfl rl rfl (by have := HJ3.out; omega) ?_
                          intro A9 c9 y9 oa9 hs9 hg9
                          replace b4 := b4.pass0 oa (by decide) hg9
                          replace ob := ob.keptOw oa (by decide) hg9
                          replace hs := hs9
                          replace oa := oa9
                          clear hs9 oa9 hg9 rl
                          refine hK.out _ _ ?_ (fun hHeld => ?_)
                          · exact trivial
                          clear hK K
                          try simp only [Act.put, List.setIfInBounds_toArray, List.set_cons_zero, List.set_cons_succ]
                          refine takeRun (i := 8) (v := ?_) rfl (by kernel_rfl) (by kernel_rfl) (by kernel_rfl) (fun _ _ _ h => h) rfl ?_ (by assumption) ?_
                          rotate_left
                          · (intro w hSw; (try dsimp only at hSw); go_simp; (try with_reducible rfl))
                          try simp only [Act.put, List.setIfInBounds_toArray, List.set_cons_zero, List.set_cons_succ]
                          refine goOne (i := 9) (by kernel_rfl) rfl (fun K hK => ?_)
                          obtain ⟨d0, d1, d2_, d3, d4, d5⟩ := b4.c6
                          have dz4 := b4.frozen 4
                          go_simp
                          clear d0 d1 d2_ d3 d4 d5 dz4
                          replace oa := oa.setBlk b4 (by decide) 4 (.slice A9 (j + 1) c9)
                          replace ob := ob.setBlk b4 (by decide) 4 (.slice A9 (j + 1) c9)
                          replace b4 := b4.set_ 4 (.slice A9 (j + 1) c9)
                          replace hs := hs.setCell (p := ⟨g4, 4, none⟩) hg4w (.slice A9 (j + 1) c9)
                          generalize y9.setCell ⟨g4, 4, none⟩ (.slice A9 (j + 1) c9) = y10 at *
                          refine hK.out _ _ ?_ (fun hHeld => ?_)
                          · exact trivial
                          clear hK K
                          try simp only [Act.put, List.setIfInBounds_toArray, List.set_cons_zero, List.set_cons_succ]
                          refine wpAnyH_done (by kernel_rfl) ?_ _
                          go_wp2_with fail
                          go_meet
                          exact ⟨A9, c9, B2, d2, by rw [HX.out]; exact b4, by rw [HT.out]; exact oa, ob, hs⟩
                        · have rl : Rd (y6.alloc (.cells #[.int .u16 (z : Int)] 34)) (some ⟨y6.heap.size, 0, none⟩) (ws [z]) := Rd.lit _ _ [.int .u16 (z : Int)] rfl
                          replace b4 := b4.alloc (.cells #[.int .u16 (z : Int)] 34)
                          replace oa := oa.alloc (.cells #[.int .u16 (z : Int)] 34)
                          replace ob := ob.alloc (.cells #[.int .u16 (z : Int)] 34)
                          replace hs := hs.alloc hs.size (.cells #[.int .u16 (z : Int)] 34)
                          go_simp
                          generalize y6.alloc (.cells #[.int .u16 (z : Int)] 34) = y11 at *
                          obtain ⟨gl, hgl⟩ : ∃ g, y6.heap.size = g := ⟨_, rfl⟩
                          rw [hgl] at rl
                          (try rw [hgl])
                          clear hgl
                          refine hK.out _ _ ?_ (fun hHeld => ?_)
                          · exact trivial
                          clear hK K
                          try simp only [Act.put, List.setIfInBounds_toArray, List.set_cons_zero, List.set_cons_succ]
                          refine goOne (i := 1) (by kernel_rfl) rfl (fun K hK => ?_)
                          obtain ⟨d0, d1, d2_, d3, d4, d5⟩ := b4.c6
                          go_simp
                          clear d0 d1 d2_ d3 d4 d5
                          refine hK.out _ _ ?_ (fun hHeld => ?_)
                          · exact trivial
                          clear hK K
                          try simp only [Act.put, List.setIfInBounds_toArray, List.set_cons_zero, List.set_cons_succ]
                          refine goOne (i := 7) (by kernel_rfl) rfl (fun K hK => ?_)
                          refine sapp_w rfl _ _ rfl w1 hs A2 j c2 _ rfl oa HTL.out (some ⟨gl, 0, none⟩) 1 1 [z] rfl rl rfl (by have := HJ3.out; omega) ?_
                          intro A9 c9 y13 oa9 hs9 hg9
                          replace b4 := b4.pass0 oa (by decide) hg9
                          replace ob := ob.keptOw oa (by decide) hg9
                          replace hs := hs9
                          replace oa := oa9
                          clear hs9 oa9 hg9 rl
                          refine hK.out _ _ ?_ (fun hHeld => ?_)
                          · exact trivial
                          clear hK K
                          try simp only [Act.put, List.setIfInBounds_toArray, List.set_cons_zero, List.set_cons_succ]
                          refine takeRun (i := 8) (v := ?_) rfl (by kernel_rfl) (by kernel_rfl) (by kernel_rfl) (fun _ _ _ h => h) rfl ?_ (by assumption) ?_
                          rotate_left
                          · (intro w hSw; (try dsimp only at hSw); go_simp; (try with_reducible rfl))
                          try simp only [Act.put, List.setIfInBounds_toArray, List.set_cons_zero, List.set_cons_succ]
                          refine goOne (i := 9) (by kernel_rfl) rfl (fun K hK => ?_)
                          obtain ⟨d0, d1, d2_, d3, d4, d5⟩ := b4.c6
                          have dz4 := b4.frozen 4
                          go_simp
                          clear d0 d1 d2_ d3 d4 d5 dz4
                          replace oa := oa.setBlk b4 (by decide) 4 (.slice A9 (j + 1) c9)
                          replace ob := ob.setBlk b4 (by decide) 4 (.slice A9 (j + 1) c9)
                          replace b4 := b4.set_ 4 (.slice A9 (j + 1) c9)
                          replace hs := hs.setCell (p := ⟨g4, 4, none⟩) hg4w (.slice A9 (j + 1) c9)
                          generalize y13.setCell ⟨g4, 4, none⟩ (.slice A9 (j + 1) c9) = y14 at *
                          refine hK.out _ _ ?_ (fun hHeld => ?_)
                          · exact trivial
                          clear hK K
                          try simp only [Act.put, List.setIfInBounds_toArray, List.set_cons_zero, List.set_cons_succ]
                          refine wpAnyH_done (by kernel_rfl) ?_ _
                          go_wp2_with fail
                          go_meet
                          exact ⟨A9, c9, B2, d2, by rw [HX.out]; exact b4, by rw [HT.out]; exact oa, ob, hs⟩
                    case rest =>
                      go_wp2_with fail
                      go_roundw
                      case rel => exact ⟨j + 1, p + 2, HP1.out, HJ.out, by go_num, hcut⟩
                      case measure => simp [intOf]; omega
                  have HE : Hid ((wordsR l F).take j = wordsR l F) := by (show _ = _); rw [show j = L by have := HLm.out; have := HP.out; omega, ← HL.out, List.take_length]
                  have HX : Hid (akc ⟨f, t, m, o', wordsR l F, []⟩ A2 c2 B2 d2 = #[.int .u8 (f : Int), .int .u16 (t : Int), .int .u16 (m : Int), .int .u16 (o' : Int), .slice A2 j c2, .slice B2 0 d2]) := by (show _ = _); unfold akc; rw [← HE.out]; simp only [HTL.out]; rfl
                  rw [HE.out] at oa
                  have v1 : decide ((p : Int) + 1 < (n : Int)) = false := decide_eq_false (by omega)
                  go_wp2_with fail
                  go_meet
                  rw [HR6.out]
                  exact ⟨A2, c2, B2, d2, by rw [HX.out]; exact b4, oa, ob, hs⟩
            case rest =>
              clear hst RA HT HM3 HO5 E3 E5 em eo HV5
              generalize hwz : wc = wB at *
              clear hwz
              obtain ⟨A2, c2, B2, d2, b4, oa, ob, hs⟩ := hcut
              have hkok := refA_ok hl
              have hkw := refA_words l (by rw [HN.out]; exact hbig)
              have hkb := refA_bits l (by rw [HN.out]; exact hbig)
              generalize refA l = k at *
              unfold akc at b4
              have E8 := Lib.hid (ref_Bytes k A2 c2 B2 d2 wB ⟨oa.rd, ob.rd⟩ hkok (by omega) (by omega))
              simp only [Ak.v, akV] at E8
              obtain ⟨dd0, dd1, dd2, dd3, dd4, dd5⟩ := b4.c6
              have ddz0 := b4.frozen 0
              have ddz1 := b4.frozen 1
              have ddz2 := b4.frozen 2
              have ddz3 := b4.frozen 3
              have ddz4 := b4.frozen 4
              have ddz5 := b4.frozen 5
              go_wp2_with fail
              refine E8.out.mono ?_
              rintro e wC ⟨A3, c3, rfl, o3, hs3⟩
              clear dd0 ddz0 dd1 ddz1 dd2 ddz2 dd3 ddz3 dd4 ddz4 dd5 ddz5
              replace b4 := b4.all hs3
              replace oa := oa.below hs3
              replace ob := ob.below hs3
              replace hs := bthen hs hs3
              have hbE := bthen hb1 hs
              have bzE := bz.all hs
              have hA9 := hA1.below hs
              clear hs3 E8
              obtain ⟨nb, hnb⟩ : ∃ k', (bytesN k).length = k' := ⟨_, rfl⟩
              have HNB := Lib.hid hnb
              rw [hnb]
              clear hnb
              obtain ⟨z0, z1, z2, z3, z4, z5⟩ := bzE.c6
              have y0 := bzE.frozen 0
              have y1 := bzE.frozen 1
              have y2 := bzE.frozen 2
              have y3 := bzE.frozen 3
              have y4 := bzE.frozen 4
              have y5 := bzE.frozen 5
              by_cases hr : rightA k = true
              · have e0 : errN k = 0 := by unfold errN; rw [if_pos hr]
                rw [e0]
                obtain ⟨x, hx⟩ : ∃ x, sameB (bytesN k) l = x := ⟨_, rfl⟩
                have hbb := bytesA_Bs hkok hr
                have hsame := strN_same (bytesN k) l hbb hl
                rw [hx] at hsame
                have HRX : Hid (r = if x then some k else none) := by (show _ = _); rw [HR.out, hr, hx]; simp
                have k1 := conv_bytes wC A3 nb c3 (bytesN k) o3.rd HNB.out
                have k2 := conv_bytes wC (some ⟨bb, off, none⟩) n c l hA9 HN.out
                generalize strN (bytesN k) = s1 at *
                generalize strN l = s2 at *
                clear e0 hx hr
                cases x with
                | false =>
                  go_wp2_with fail
                  refine bodyPost_ret (v := .tuple #[.agg #[.int .u8 0, .int .u16 0, .int .u16 0, .int .u16 0, .slice none 0 0, .slice none 0 0], .int .i64 12]) (by simp [results, Try.results30, go_sem, z0, z1, z2, z3, z4, z5]) rfl ?_
                  rw [HRX.out]
                  exact ⟨rfl, bset6 hbE hwg _ _ _ _ _ _⟩
                | true =>
                  obtain ⟨dd0, dd1, dd2, dd3, dd4, dd5⟩ := b4.c6
                  have ddz0 := b4.frozen 0
                  have ddz1 := b4.frozen 1
                  have ddz2 := b4.frozen 2
                  have ddz3 := b4.frozen 3
                  have ddz4 := b4.frozen 4
                  have ddz5 := b4.frozen 5
                  go_wp2_with fail
                  refine bodyPost_ret (v := .tuple #[.agg #[.int .u8 (k.fn : Int), .int .u16 (k.at_ : Int), .int .u16 (k.many : Int), .int .u16 (k.to_ : Int), .slice A2 k.words.length c2, .slice B2 k.bits.length d2], .int .i64 0]) (by simp [results, Try.results30, go_sem, z0, z1, z2, z3, z4, z5]) rfl ?_
                  rw [HRX.out]
                  exact ⟨A2, c2, B2, d2, rfl, RdN.set6 (⟨oa.rdN, hb1.size⟩ : _ ∧ _) hg1, RdN.set6 (⟨ob.rdN, hb1.size⟩ : _ ∧ _) hg1, bset6 hbE hwg _ _ _ _ _ _⟩
              have hr0 := Bool.eq_false_iff.2 hr
              have e0 : errN k = 12 := by unfold errN; rw [if_neg hr]
              rw [e0]
              have HRX : Hid (r = none) := by (show _ = _); rw [HR.out, hr0]; rfl
              clear e0 hr hr0
              go_wp2_with fail
              refine bodyPost_ret (v := .tuple #[.agg #[.int .u8 0, .int .u16 0, .int .u16 0, .int .u16 0, .slice none 0 0, .slice none 0 0], .int .i64 12]) (by simp [results, Try.results30, go_sem, z0, z1, z2, z3, z4, z5]) rfl ?_
              rw [HRX.out]
              exact ⟨rfl, bset6 hbE hwg _ _ _ _ _ _⟩
end Go.Proofs.Ytechhidfgheejaa
