/- The walk of the law AskLimits (written by gen_asklimits.py). -/
import Derived.Test.YthddplokicbofaaLowB
import Derived.Test.YthddplokicbofaaRegion
import Derived.Deep.RegionHeld3
import Derived.Deep.DeepCutAuto
import Derived.RegionTactic
import Derived.ChangeAlike
namespace Go.Proofs.Ythddplokicbofaa
open Go.RowKit
set_option linter.unusedSimpArgs false
set_option linter.unusedVariables false

theorem lim_read (f n : Nat) (m : Nat) (hf : (f = 1 ∨ f = 2) ∧ m = 2000 ∨ (f = 3 ∨ f = 4) ∧ m = 125) (h1 : 1 ≤ n) : rightN f n 0 0 0 = decide ((n : Int) ≤ (m : Int)) := by
  have e : decide ((n : Int) ≤ (m : Int)) = decide (n ≤ m) := by by_cases h : n ≤ m <;> simp [h]
  rw [e]
  rcases hf with ⟨rfl | rfl, rfl⟩ | ⟨rfl | rfl, rfl⟩ <;> simp [rightN, shp, isFn, wtn, h1]
theorem lim_15 (n : Nat) (h1 : 1 ≤ n) : rightN 15 n 0 0 n = decide ((n : Int) ≤ 1968) := by
  have e : decide ((n : Int) ≤ 1968) = decide (n ≤ 1968) := by by_cases h : n ≤ 1968 <;> simp [h] <;> omega
  rw [e]; simp [rightN, shp, isFn, wtn, h1]
theorem lim_16 (n : Nat) (h1 : 1 ≤ n) : rightN 16 n 0 n 0 = decide ((n : Int) ≤ 123) := by
  have e : decide ((n : Int) ≤ 123) = decide (n ≤ 123) := by by_cases h : n ≤ 123 <;> simp [h] <;> omega
  rw [e]; simp [rightN, shp, isFn, wtn, h1]
theorem lim_23 (n t : Nat) (h1 : 1 ≤ n) : rightN 23 n t 1 0 = decide ((n : Int) ≤ 125) := by
  have e : decide ((n : Int) ≤ 125) = decide (n ≤ 125) := by by_cases h : n ≤ 125 <;> simp [h] <;> omega
  rw [e]; simp [rightN, shp, isFn, wtn, h1]
theorem lim_23w (n t : Nat) (h1 : 1 ≤ n) : rightN 23 1 t n 0 = decide ((n : Int) ≤ 121) := by
  have e : decide ((n : Int) ≤ 121) = decide (n ≤ 121) := by by_cases h : n ≤ 121 <;> simp [h] <;> omega
  rw [e]; simp [rightN, shp, isFn, wtn, h1]
theorem lim_none (f m b l t : Nat) (h : (f = 1 ∨ f = 2 ∨ f = 3 ∨ f = 4) ∧ m = 0 ∨ (f = 15 ∨ f = 16) ∧ m = 0 ∨ f = 23 ∧ (m = 0 ∨ l = 0)) : rightN f m t l b = false := by
  rcases h with ⟨rfl | rfl | rfl | rfl, rfl⟩ | ⟨rfl | rfl, rfl⟩ | ⟨rfl, rfl | rfl⟩ <;> simp [rightN, shp, isFn, wtn]
theorem lim_5 (n : Nat) : rightN 5 0 0 0 n = decide (n = 1) := by
  by_cases h : n = 1
  · subst h; decide
  · simp [rightN, shp, isFn, wtn, h]; omega
theorem lim_6 (n : Nat) : rightN 6 0 0 n 0 = decide (n = 1) := by
  by_cases h : n = 1
  · subst h; decide
  · simp [rightN, shp, isFn, wtn, h]; omega
theorem lim_16s (m : Nat) : rightN 16 (m + 1) 0 m 0 = false := by simp [rightN, shp, isFn, wtn]
theorem lim_3 : rightN 3 1 1 0 0 = false := by decide
theorem lim_6m : rightN 6 1 0 1 0 = false := by decide
theorem dec_int (n : Nat) : ((n : Int) == 1) = decide (n = 1) := int_eqb n 1

set_option maxRecDepth 100000 in
set_option maxHeartbeats 4000000 in
theorem AskLimits_walk (t o many : Nat) (on : Bool) (x : Nat) (w : World) (ht : t < 65536) (ho : o < 65536) (hm : many < 65536) (hx : x < 65536) :
    Calls Try.prog 8 #[.int .u16 (t : Int), .int .u16 (o : Int), .int .u16 (many : Int), .bool on, .int .u16 (x : Int)] w fun e w' => e = .returned (.bool true) ∧ Below w.heap.size w w' := by
  obtain ⟨n, hn⟩ : ∃ n, many % 2101 = n := ⟨_, rfl⟩
  have hni : (many : Int) % 2101 = (n : Int) := by omega
  have hn2 : n ≤ 2100 := by omega
  have hnw : IntKind.u16.wrap (n : Int) = (n : Int) := by rw [IntKind.wrap_u16]; omega
  clear hn
  obtain ⟨ib, hib, hzb0, hzb1, hzb2⟩ := info_parts info_o
  obtain ⟨iw, hiw, hzw0, hzw1, hzw2⟩ := info_parts info_w
  have mk1 : ∀ W : World, (Instr.makeSlice 24 (.int .i64 (n : Int)) (.int .i64 (n : Int))).run Try.prog W = .ok (.slice (some ⟨W.heap.size, 0, none⟩) n n) (W.alloc (.cells (madeCells #[.bool false] n) 4)) := by
    intro W
    have := run_make (P := Try.prog) W 24 4 ib (.bool false) Try.underlying24 hib hzb0 .i64 .i64 n n (by omega) (by omega) (by rw [hzb2]; omega) (by omega)
    rw [hzb1] at this
    simp only [Int.toNat_natCast, Nat.mul_one] at this
    exact this
  have mk2 : ∀ W : World, (Instr.makeSlice 23 (.int .i64 (n : Int)) (.int .i64 (n : Int))).run Try.prog W = .ok (.slice (some ⟨W.heap.size, 0, none⟩) n n) (W.alloc (.cells (madeCells #[.int .u16 0] n) 22)) := by
    intro W
    have := run_make (P := Try.prog) W 23 22 iw (.int .u16 0) Try.underlying23 hiw hzw0 .i64 .i64 n n (by omega) (by omega) (by rw [hzw2]; omega) (by omega)
    rw [hzw1] at this
    simp only [Int.toNat_natCast, Nat.mul_one] at this
    exact this
  obtain ⟨cb, hcb⟩ : ∃ cb, madeCells #[Value.bool false] n = cb := ⟨_, rfl⟩
  obtain ⟨cw, hcw⟩ : ∃ cw, madeCells #[Value.int .u16 0] n = cw := ⟨_, rfl⟩
  have SB : Hid (cb.size = n) := by (show _ = _); rw [← hcb]; simp [size_madeCells]
  have SW : Hid (cw.size = n) := by (show _ = _); rw [← hcw]; simp [size_madeCells]
  rw [hcb] at mk1
  rw [hcw] at mk2
  clear hib hzb0 hzb1 hzb2 hiw hzw0 hzw1 hzw2 hcb hcw
  have hb0 := Below.refl w.heap.size w
  go_enter Try.func8, Try.ntmps8
  go_upto_region 2 with fail
  rw [hni]
  clear hni
  go_cut [12, 13] (fun vb vw wc => ∃ g1 g2 : Nat, vb = .slice (some ⟨g1, 0, none⟩) n n ∧ vw = .slice (some ⟨g2, 0, none⟩) n n ∧ g1 ≠ g2 ∧ w.heap.size ≤ g1 ∧ w.heap.size ≤ g2 ∧ Blk wc g1 4 cb ∧ Blk wc g2 22 cw ∧ Below w.heap.size w wc)
  case first =>
    go_region
    all_goals
      go_wp2_with fail
      go_meet
    · exact ⟨_, _, rfl, rfl, by omega, by omega, by omega, (Blk.new w _ cb).alloc _, Blk.newAt _ _ _ _ (World.size_alloc _ _), below_drewN ((hb0.alloc (Nat.le_refl _) _).alloc (by simp [World.size_alloc]) _) 1⟩
    · exact ⟨_, _, rfl, rfl, by omega, by omega, by omega, Blk.newAt _ _ _ _ (World.size_alloc _ _), (Blk.new w _ cw).alloc _, below_drewN ((hb0.alloc (Nat.le_refl _) _).alloc (by simp [World.size_alloc]) _) 1⟩
  case rest =>
  obtain ⟨g1, g2, rfl, rfl, hgg, hg1, hg2, bB, bW, hb⟩ := hcut
  clear mk1 mk2
  obtain ⟨n200, hn200⟩ : ∃ m, min n 200 = m := ⟨_, rfl⟩
  have hmin : (if (200 : Int) < (n : Int) then (200 : Int) else (n : Int)) = (n200 : Int) := by split <;> omega
  have hn2n : n200 ≤ n := by omega
  clear hn200 hb0
  go_wp2_with fail
  go_loopw [27] (fun i wr => ∃ (j : Nat) (cb cw : Array Value), j ≤ n ∧ i = .int .i64 j ∧ Hid (cb.size = n) ∧ Hid (cw.size = n) ∧ Blk wr g1 4 cb ∧ Blk wr g2 22 cw ∧ Below w.heap.size w wr) (fun i _ => n - (intOf i).toNat)
  case atStart => exact ⟨0, cb, cw, by omega, rfl, SB, SW, bB, bW, hb⟩
  case round =>
    clear bB bW hb SB SW
    obtain ⟨j, cb, cw, hj, rfl, SB, SW, bB, bW, hb⟩ := hrel
    by_cases hlt : j < n
    · have k1 : wr.cell? ⟨g1, j, none⟩ = some (cb[j]'(by rw [SB.out]; exact hlt)) := by rw [bB.cell, Array.getElem?_eq_getElem]
      have k2 : wr.cell? ⟨g2, j, none⟩ = some (cw[j]'(by rw [SW.out]; exact hlt)) := by rw [bW.cell, Array.getElem?_eq_getElem]
      generalize cb[j]'(by rw [SB.out]; exact hlt) = u1 at k1
      generalize cw[j]'(by rw [SW.out]; exact hlt) = u2 at k2
      have z1 := bB.frozen j
      have z2 := bW.frozen j
      have b1 := (bB.set_ j (.bool on)).far (p := ⟨g2, j, none⟩) (by simpa using hgg) (.int .u16 (x : Int))
      have b2 := (bW.far (p := ⟨g1, j, none⟩) (by simpa using hgg.symm) (.bool on)).set_ j (.int .u16 (x : Int))
      have hb1 := (hb.setCell (p := ⟨g1, j, none⟩) hg1 (.bool on)).setCell (p := ⟨g2, j, none⟩) hg2 (.int .u16 (x : Int))
      have hgg' := hgg.symm
      go_wp2_with fail
      go_roundw
      case rel => exact ⟨j + 1, _, _, by omega, by go_num, by (show _ = _); simp; exact SB.out, by (show _ = _); simp; exact SW.out, b1, b2, hb1⟩
      case measure => simp [intOf]; omega
    · obtain rfl : j = n := by omega
      go_upto_region 9 with fail
      obtain ⟨gx, hgx⟩ : ∃ g, wr.heap.size = g := ⟨_, rfl⟩
      have hbL := (hb.alloc hb.size (.cells #[.int .u16 (x : Int)] 22)).alloc (by have := hb.size; simp only [World.size_alloc]; omega) (.cells #[.int .u8 1, .int .u16 (t : Int), .int .u16 (j : Int), .int .u16 0, .slice none 0 0, .slice none 0 0, .int .i64 2000, .int .u8 2, .int .u16 (t : Int), .int .u16 (j : Int), .int .u16 0, .slice none 0 0, .slice none 0 0, .int .i64 2000, .int .u8 3, .int .u16 (t : Int), .int .u16 (j : Int), .int .u16 0, .slice none 0 0, .slice none 0 0, .int .i64 125, .int .u8 4, .int .u16 (t : Int), .int .u16 (j : Int), .int .u16 0, .slice none 0 0, .slice none 0 0, .int .i64 125, .int .u8 15, .int .u16 (t : Int), .int .u16 (j : Int), .int .u16 0, .slice none 0 0, .slice (some ⟨g1, 0, none⟩) j j, .int .i64 1968, .int .u8 16, .int .u16 (t : Int), .int .u16 (j : Int), .int .u16 0, .slice (some ⟨g2, 0, none⟩) j j, .slice none 0 0, .int .i64 123, .int .u8 23, .int .u16 (t : Int), .int .u16 (j : Int), .int .u16 (o : Int), .slice (some ⟨gx, 0, none⟩) 1 1, .slice none 0 0, .int .i64 125, .int .u8 23, .int .u16 (t : Int), .int .u16 1, .int .u16 (o : Int), .slice (some ⟨g2, 0, none⟩) j j, .slice none 0 0, .int .i64 121] 48)
      have bT := Blk.newAt (wr.alloc (.cells #[.int .u16 (x : Int)] 22)) 48 #[.int .u8 1, .int .u16 (t : Int), .int .u16 (j : Int), .int .u16 0, .slice none 0 0, .slice none 0 0, .int .i64 2000, .int .u8 2, .int .u16 (t : Int), .int .u16 (j : Int), .int .u16 0, .slice none 0 0, .slice none 0 0, .int .i64 2000, .int .u8 3, .int .u16 (t : Int), .int .u16 (j : Int), .int .u16 0, .slice none 0 0, .slice none 0 0, .int .i64 125, .int .u8 4, .int .u16 (t : Int), .int .u16 (j : Int), .int .u16 0, .slice none 0 0, .slice none 0 0, .int .i64 125, .int .u8 15, .int .u16 (t : Int), .int .u16 (j : Int), .int .u16 0, .slice none 0 0, .slice (some ⟨g1, 0, none⟩) j j, .int .i64 1968, .int .u8 16, .int .u16 (t : Int), .int .u16 (j : Int), .int .u16 0, .slice (some ⟨g2, 0, none⟩) j j, .slice none 0 0, .int .i64 123, .int .u8 23, .int .u16 (t : Int), .int .u16 (j : Int), .int .u16 (o : Int), .slice (some ⟨gx, 0, none⟩) 1 1, .slice none 0 0, .int .i64 125, .int .u8 23, .int .u16 (t : Int), .int .u16 1, .int .u16 (o : Int), .slice (some ⟨g2, 0, none⟩) j j, .slice none 0 0, .int .i64 121] (gx + 1) (by rw [World.size_alloc, hgx])
      have HGX := Lib.hid hgx
      go_wp2_with fail
      generalize (wr.alloc (.cells #[.int .u16 (x : Int)] 22)).alloc (.cells #[.int .u8 1, .int .u16 (t : Int), .int .u16 (j : Int), .int .u16 0, .slice none 0 0, .slice none 0 0, .int .i64 2000, .int .u8 2, .int .u16 (t : Int), .int .u16 (j : Int), .int .u16 0, .slice none 0 0, .slice none 0 0, .int .i64 2000, .int .u8 3, .int .u16 (t : Int), .int .u16 (j : Int), .int .u16 0, .slice none 0 0, .slice none 0 0, .int .i64 125, .int .u8 4, .int .u16 (t : Int), .int .u16 (j : Int), .int .u16 0, .slice none 0 0, .slice none 0 0, .int .i64 125, .int .u8 15, .int .u16 (t : Int), .int .u16 (j : Int), .int .u16 0, .slice none 0 0, .slice (some ⟨g1, 0, none⟩) j j, .int .i64 1968, .int .u8 16, .int .u16 (t : Int), .int .u16 (j : Int), .int .u16 0, .slice (some ⟨g2, 0, none⟩) j j, .slice none 0 0, .int .i64 123, .int .u8 23, .int .u16 (t : Int), .int .u16 (j : Int), .int .u16 (o : Int), .slice (some ⟨gx, 0, none⟩) 1 1, .slice none 0 0, .int .i64 125, .int .u8 23, .int .u16 (t : Int), .int .u16 1, .int .u16 (o : Int), .slice (some ⟨g2, 0, none⟩) j j, .slice none 0 0, .int .i64 121] 48) = w3 at *
      obtain ⟨gT, hgT⟩ : ∃ g, gx + 1 = g := ⟨_, rfl⟩
      rw [hgT] at bT ⊢
      clear hgT hgx hb bB bW
      obtain ⟨TB, hTB⟩ : ∃ TB : Array Value, (#[.int .u8 1, .int .u16 (t : Int), .int .u16 (j : Int), .int .u16 0, .slice none 0 0, .slice none 0 0, .int .i64 2000, .int .u8 2, .int .u16 (t : Int), .int .u16 (j : Int), .int .u16 0, .slice none 0 0, .slice none 0 0, .int .i64 2000, .int .u8 3, .int .u16 (t : Int), .int .u16 (j : Int), .int .u16 0, .slice none 0 0, .slice none 0 0, .int .i64 125, .int .u8 4, .int .u16 (t : Int), .int .u16 (j : Int), .int .u16 0, .slice none 0 0, .slice none 0 0, .int .i64 125, .int .u8 15, .int .u16 (t : Int), .int .u16 (j : Int), .int .u16 0, .slice none 0 0, .slice (some ⟨g1, 0, none⟩) j j, .int .i64 1968, .int .u8 16, .int .u16 (t : Int), .int .u16 (j : Int), .int .u16 0, .slice (some ⟨g2, 0, none⟩) j j, .slice none 0 0, .int .i64 123, .int .u8 23, .int .u16 (t : Int), .int .u16 (j : Int), .int .u16 (o : Int), .slice (some ⟨gx, 0, none⟩) 1 1, .slice none 0 0, .int .i64 125, .int .u8 23, .int .u16 (t : Int), .int .u16 1, .int .u16 (o : Int), .slice (some ⟨g2, 0, none⟩) j j, .slice none 0 0, .int .i64 121] : Array Value) = TB := ⟨_, rfl⟩
      rw [hTB] at bT
      have HTB := Lib.hid hTB
      clear hTB
      go_loopw [90] (fun i wl => ∃ k : Nat, k ≤ 8 ∧ i = .int .i64 k ∧ Blk wl gT 48 TB ∧ Below w.heap.size w wl) (fun i _ => 8 - (intOf i).toNat)
      case atStart => exact ⟨0, by omega, rfl, bT, hbL⟩
      case round =>
        clear bT hbL
        obtain ⟨k, hk, rfl, bT, hb⟩ := hrel
        have hk9 : k = 0 ∨ k = 1 ∨ k = 2 ∨ k = 3 ∨ k = 4 ∨ k = 5 ∨ k = 6 ∨ k = 7 ∨ k = 8 := by omega
        clear hk
        rcases hk9 with rfl | rfl | rfl | rfl | rfl | rfl | rfl | rfl | rfl
        · have c0 : wr.cell? ⟨gT, 0, none⟩ = some (.int .u8 1) := (bT.cell 0).trans (by rw [← HTB.out]; rfl)
          have c1 : wr.cell? ⟨gT, 1, none⟩ = some (.int .u16 (t : Int)) := (bT.cell 1).trans (by rw [← HTB.out]; rfl)
          have c2 : wr.cell? ⟨gT, 2, none⟩ = some (.int .u16 (j : Int)) := (bT.cell 2).trans (by rw [← HTB.out]; rfl)
          have c3 : wr.cell? ⟨gT, 3, none⟩ = some (.int .u16 0) := (bT.cell 3).trans (by rw [← HTB.out]; rfl)
          have c4 : wr.cell? ⟨gT, 4, none⟩ = some (.slice none 0 0) := (bT.cell 4).trans (by rw [← HTB.out]; rfl)
          have c5 : wr.cell? ⟨gT, 5, none⟩ = some (.slice none 0 0) := (bT.cell 5).trans (by rw [← HTB.out]; rfl)
          have c6 : wr.cell? ⟨gT, 6, none⟩ = some (.int .i64 2000) := (bT.cell 6).trans (by rw [← HTB.out]; rfl)
          have E := Lib.hid (fun W => ask_Right 1 t j 0 none 0 0 none 0 0 W (by omega) (by omega) (by omega) (by omega) (by omega))
          unfold akV at E
          by_cases h1 : 1 ≤ j
          · have v1 : decide ((1 : Int) ≤ (j : Int)) = true := decide_eq_true (by omega)
            rw [lim_read 1 j 2000 (by omega) h1] at E
            go_wp2_with fail
            refine (E.out _).mono ?_
            rintro e w5 ⟨rfl, hb5⟩
            have hs := (Below.refl _ wr).alloc (Nat.le_refl _) (.cells #[.int .u8 1, .int .u16 (t : Int), .int .u16 (j : Int), .int .u16 0, .slice none 0 0, .slice none 0 0, .int .i64 2000] 48)
            have b6 := ((Blk.new wr 48 #[.int .u8 1, .int .u16 (t : Int), .int .u16 (j : Int), .int .u16 0, .slice none 0 0, .slice none 0 0, .int .i64 2000]).all hb5).cell 6
            simp only [List.getElem?_toArray, List.getElem?_cons_succ, List.getElem?_cons_zero] at b6
            have hb5' := bthen (bthen hb hs) hb5
            have bT5 := (bT.all hs).all hb5
            clear c0 c1 c2 c3 c4 c5 c6
            go_wp2_with fail
            go_roundw
            case rel => exact ⟨1, by omega, by go_num, bT5, hb5'⟩
            case measure => simp [intOf]
          · have v1 : decide ((1 : Int) ≤ (j : Int)) = false := decide_eq_false (by omega)
            have h0 : j = 0 := by omega
            rw [lim_none _ _ _ _ _ (by omega)] at E
            clear h0
            go_wp2_with fail
            refine (E.out _).mono ?_
            rintro e w5 ⟨rfl, hb5⟩
            have hs := (Below.refl _ wr).alloc (Nat.le_refl _) (.cells #[.int .u8 1, .int .u16 (t : Int), .int .u16 (j : Int), .int .u16 0, .slice none 0 0, .slice none 0 0, .int .i64 2000] 48)
            have b6 := ((Blk.new wr 48 #[.int .u8 1, .int .u16 (t : Int), .int .u16 (j : Int), .int .u16 0, .slice none 0 0, .slice none 0 0, .int .i64 2000]).all hb5).cell 6
            simp only [List.getElem?_toArray, List.getElem?_cons_succ, List.getElem?_cons_zero] at b6
            have hb5' := bthen (bthen hb hs) hb5
            have bT5 := (bT.all hs).all hb5
            clear c0 c1 c2 c3 c4 c5 c6
            go_wp2_with fail
            go_roundw
            case rel => exact ⟨1, by omega, by go_num, bT5, hb5'⟩
            case measure => simp [intOf]
        · have c0 : wr.cell? ⟨gT, 7, none⟩ = some (.int .u8 2) := (bT.cell 7).trans (by rw [← HTB.out]; rfl)
          have c1 : wr.cell? ⟨gT, 8, none⟩ = some (.int .u16 (t : Int)) := (bT.cell 8).trans (by rw [← HTB.out]; rfl)
          have c2 : wr.cell? ⟨gT, 9, none⟩ = some (.int .u16 (j : Int)) := (bT.cell 9).trans (by rw [← HTB.out]; rfl)
          have c3 : wr.cell? ⟨gT, 10, none⟩ = some (.int .u16 0) := (bT.cell 10).trans (by rw [← HTB.out]; rfl)
          have c4 : wr.cell? ⟨gT, 11, none⟩ = some (.slice none 0 0) := (bT.cell 11).trans (by rw [← HTB.out]; rfl)
          have c5 : wr.cell? ⟨gT, 12, none⟩ = some (.slice none 0 0) := (bT.cell 12).trans (by rw [← HTB.out]; rfl)
          have c6 : wr.cell? ⟨gT, 13, none⟩ = some (.int .i64 2000) := (bT.cell 13).trans (by rw [← HTB.out]; rfl)
          have E := Lib.hid (fun W => ask_Right 2 t j 0 none 0 0 none 0 0 W (by omega) (by omega) (by omega) (by omega) (by omega))
          unfold akV at E
          by_cases h1 : 1 ≤ j
          · have v1 : decide ((1 : Int) ≤ (j : Int)) = true := decide_eq_true (by omega)
            rw [lim_read 2 j 2000 (by omega) h1] at E
            go_wp2_with fail
            refine (E.out _).mono ?_
            rintro e w5 ⟨rfl, hb5⟩
            have hs := (Below.refl _ wr).alloc (Nat.le_refl _) (.cells #[.int .u8 2, .int .u16 (t : Int), .int .u16 (j : Int), .int .u16 0, .slice none 0 0, .slice none 0 0, .int .i64 2000] 48)
            have b6 := ((Blk.new wr 48 #[.int .u8 2, .int .u16 (t : Int), .int .u16 (j : Int), .int .u16 0, .slice none 0 0, .slice none 0 0, .int .i64 2000]).all hb5).cell 6
            simp only [List.getElem?_toArray, List.getElem?_cons_succ, List.getElem?_cons_zero] at b6
            have hb5' := bthen (bthen hb hs) hb5
            have bT5 := (bT.all hs).all hb5
            clear c0 c1 c2 c3 c4 c5 c6
            go_wp2_with fail
            go_roundw
            case rel => exact ⟨2, by omega, by go_num, bT5, hb5'⟩
            case measure => simp [intOf]
          · have v1 : decide ((1 : Int) ≤ (j : Int)) = false := decide_eq_false (by omega)
            have h0 : j = 0 := by omega
            rw [lim_none _ _ _ _ _ (by omega)] at E
            clear h0
            go_wp2_with fail
            refine (E.out _).mono ?_
            rintro e w5 ⟨rfl, hb5⟩
            have hs := (Below.refl _ wr).alloc (Nat.le_refl _) (.cells #[.int .u8 2, .int .u16 (t : Int), .int .u16 (j : Int), .int .u16 0, .slice none 0 0, .slice none 0 0, .int .i64 2000] 48)
            have b6 := ((Blk.new wr 48 #[.int .u8 2, .int .u16 (t : Int), .int .u16 (j : Int), .int .u16 0, .slice none 0 0, .slice none 0 0, .int .i64 2000]).all hb5).cell 6
            simp only [List.getElem?_toArray, List.getElem?_cons_succ, List.getElem?_cons_zero] at b6
            have hb5' := bthen (bthen hb hs) hb5
            have bT5 := (bT.all hs).all hb5
            clear c0 c1 c2 c3 c4 c5 c6
            go_wp2_with fail
            go_roundw
            case rel => exact ⟨2, by omega, by go_num, bT5, hb5'⟩
            case measure => simp [intOf]
        · have c0 : wr.cell? ⟨gT, 14, none⟩ = some (.int .u8 3) := (bT.cell 14).trans (by rw [← HTB.out]; rfl)
          have c1 : wr.cell? ⟨gT, 15, none⟩ = some (.int .u16 (t : Int)) := (bT.cell 15).trans (by rw [← HTB.out]; rfl)
          have c2 : wr.cell? ⟨gT, 16, none⟩ = some (.int .u16 (j : Int)) := (bT.cell 16).trans (by rw [← HTB.out]; rfl)
          have c3 : wr.cell? ⟨gT, 17, none⟩ = some (.int .u16 0) := (bT.cell 17).trans (by rw [← HTB.out]; rfl)
          have c4 : wr.cell? ⟨gT, 18, none⟩ = some (.slice none 0 0) := (bT.cell 18).trans (by rw [← HTB.out]; rfl)
          have c5 : wr.cell? ⟨gT, 19, none⟩ = some (.slice none 0 0) := (bT.cell 19).trans (by rw [← HTB.out]; rfl)
          have c6 : wr.cell? ⟨gT, 20, none⟩ = some (.int .i64 125) := (bT.cell 20).trans (by rw [← HTB.out]; rfl)
          have E := Lib.hid (fun W => ask_Right 3 t j 0 none 0 0 none 0 0 W (by omega) (by omega) (by omega) (by omega) (by omega))
          unfold akV at E
          by_cases h1 : 1 ≤ j
          · have v1 : decide ((1 : Int) ≤ (j : Int)) = true := decide_eq_true (by omega)
            rw [lim_read 3 j 125 (by omega) h1] at E
            go_wp2_with fail
            refine (E.out _).mono ?_
            rintro e w5 ⟨rfl, hb5⟩
            have hs := (Below.refl _ wr).alloc (Nat.le_refl _) (.cells #[.int .u8 3, .int .u16 (t : Int), .int .u16 (j : Int), .int .u16 0, .slice none 0 0, .slice none 0 0, .int .i64 125] 48)
            have b6 := ((Blk.new wr 48 #[.int .u8 3, .int .u16 (t : Int), .int .u16 (j : Int), .int .u16 0, .slice none 0 0, .slice none 0 0, .int .i64 125]).all hb5).cell 6
            simp only [List.getElem?_toArray, List.getElem?_cons_succ, List.getElem?_cons_zero] at b6
            have hb5' := bthen (bthen hb hs) hb5
            have bT5 := (bT.all hs).all hb5
            clear c0 c1 c2 c3 c4 c5 c6
            go_wp2_with fail
            go_roundw
            case rel => exact ⟨3, by omega, by go_num, bT5, hb5'⟩
            case measure => simp [intOf]
          · have v1 : decide ((1 : Int) ≤ (j : Int)) = false := decide_eq_false (by omega)
            have h0 : j = 0 := by omega
            rw [lim_none _ _ _ _ _ (by omega)] at E
            clear h0
            go_wp2_with fail
            refine (E.out _).mono ?_
            rintro e w5 ⟨rfl, hb5⟩
            have hs := (Below.refl _ wr).alloc (Nat.le_refl _) (.cells #[.int .u8 3, .int .u16 (t : Int), .int .u16 (j : Int), .int .u16 0, .slice none 0 0, .slice none 0 0, .int .i64 125] 48)
            have b6 := ((Blk.new wr 48 #[.int .u8 3, .int .u16 (t : Int), .int .u16 (j : Int), .int .u16 0, .slice none 0 0, .slice none 0 0, .int .i64 125]).all hb5).cell 6
            simp only [List.getElem?_toArray, List.getElem?_cons_succ, List.getElem?_cons_zero] at b6
            have hb5' := bthen (bthen hb hs) hb5
            have bT5 := (bT.all hs).all hb5
            clear c0 c1 c2 c3 c4 c5 c6
            go_wp2_with fail
            go_roundw
            case rel => exact ⟨3, by omega, by go_num, bT5, hb5'⟩
            case measure => simp [intOf]
        · have c0 : wr.cell? ⟨gT, 21, none⟩ = some (.int .u8 4) := (bT.cell 21).trans (by rw [← HTB.out]; rfl)
          have c1 : wr.cell? ⟨gT, 22, none⟩ = some (.int .u16 (t : Int)) := (bT.cell 22).trans (by rw [← HTB.out]; rfl)
          have c2 : wr.cell? ⟨gT, 23, none⟩ = some (.int .u16 (j : Int)) := (bT.cell 23).trans (by rw [← HTB.out]; rfl)
          have c3 : wr.cell? ⟨gT, 24, none⟩ = some (.int .u16 0) := (bT.cell 24).trans (by rw [← HTB.out]; rfl)
          have c4 : wr.cell? ⟨gT, 25, none⟩ = some (.slice none 0 0) := (bT.cell 25).trans (by rw [← HTB.out]; rfl)
          have c5 : wr.cell? ⟨gT, 26, none⟩ = some (.slice none 0 0) := (bT.cell 26).trans (by rw [← HTB.out]; rfl)
          have c6 : wr.cell? ⟨gT, 27, none⟩ = some (.int .i64 125) := (bT.cell 27).trans (by rw [← HTB.out]; rfl)
          have E := Lib.hid (fun W => ask_Right 4 t j 0 none 0 0 none 0 0 W (by omega) (by omega) (by omega) (by omega) (by omega))
          unfold akV at E
          by_cases h1 : 1 ≤ j
          · have v1 : decide ((1 : Int) ≤ (j : Int)) = true := decide_eq_true (by omega)
            rw [lim_read 4 j 125 (by omega) h1] at E
            go_wp2_with fail
            refine (E.out _).mono ?_
            rintro e w5 ⟨rfl, hb5⟩
            have hs := (Below.refl _ wr).alloc (Nat.le_refl _) (.cells #[.int .u8 4, .int .u16 (t : Int), .int .u16 (j : Int), .int .u16 0, .slice none 0 0, .slice none 0 0, .int .i64 125] 48)
            have b6 := ((Blk.new wr 48 #[.int .u8 4, .int .u16 (t : Int), .int .u16 (j : Int), .int .u16 0, .slice none 0 0, .slice none 0 0, .int .i64 125]).all hb5).cell 6
            simp only [List.getElem?_toArray, List.getElem?_cons_succ, List.getElem?_cons_zero] at b6
            have hb5' := bthen (bthen hb hs) hb5
            have bT5 := (bT.all hs).all hb5
            clear c0 c1 c2 c3 c4 c5 c6
            go_wp2_with fail
            go_roundw
            case rel => exact ⟨4, by omega, by go_num, bT5, hb5'⟩
            case measure => simp [intOf]
          · have v1 : decide ((1 : Int) ≤ (j : Int)) = false := decide_eq_false (by omega)
            have h0 : j = 0 := by omega
            rw [lim_none _ _ _ _ _ (by omega)] at E
            clear h0
            go_wp2_with fail
            refine (E.out _).mono ?_
            rintro e w5 ⟨rfl, hb5⟩
            have hs := (Below.refl _ wr).alloc (Nat.le_refl _) (.cells #[.int .u8 4, .int .u16 (t : Int), .int .u16 (j : Int), .int .u16 0, .slice none 0 0, .slice none 0 0, .int .i64 125] 48)
            have b6 := ((Blk.new wr 48 #[.int .u8 4, .int .u16 (t : Int), .int .u16 (j : Int), .int .u16 0, .slice none 0 0, .slice none 0 0, .int .i64 125]).all hb5).cell 6
            simp only [List.getElem?_toArray, List.getElem?_cons_succ, List.getElem?_cons_zero] at b6
            have hb5' := bthen (bthen hb hs) hb5
            have bT5 := (bT.all hs).all hb5
            clear c0 c1 c2 c3 c4 c5 c6
            go_wp2_with fail
            go_roundw
            case rel => exact ⟨4, by omega, by go_num, bT5, hb5'⟩
            case measure => simp [intOf]
        · have c0 : wr.cell? ⟨gT, 28, none⟩ = some (.int .u8 15) := (bT.cell 28).trans (by rw [← HTB.out]; rfl)
          have c1 : wr.cell? ⟨gT, 29, none⟩ = some (.int .u16 (t : Int)) := (bT.cell 29).trans (by rw [← HTB.out]; rfl)
          have c2 : wr.cell? ⟨gT, 30, none⟩ = some (.int .u16 (j : Int)) := (bT.cell 30).trans (by rw [← HTB.out]; rfl)
          have c3 : wr.cell? ⟨gT, 31, none⟩ = some (.int .u16 0) := (bT.cell 31).trans (by rw [← HTB.out]; rfl)
          have c4 : wr.cell? ⟨gT, 32, none⟩ = some (.slice none 0 0) := (bT.cell 32).trans (by rw [← HTB.out]; rfl)
          have c5 : wr.cell? ⟨gT, 33, none⟩ = some (.slice (some ⟨g1, 0, none⟩) j j) := (bT.cell 33).trans (by rw [← HTB.out]; rfl)
          have c6 : wr.cell? ⟨gT, 34, none⟩ = some (.int .i64 1968) := (bT.cell 34).trans (by rw [← HTB.out]; rfl)
          have E := Lib.hid (fun W => ask_Right 15 t j 0 none 0 0 (some ⟨g1, 0, none⟩) j j W (by omega) (by omega) (by omega) (by omega) (by omega))
          unfold akV at E
          by_cases h1 : 1 ≤ j
          · have v1 : decide ((1 : Int) ≤ (j : Int)) = true := decide_eq_true (by omega)
            rw [lim_15 j h1] at E
            go_wp2_with fail
            refine (E.out _).mono ?_
            rintro e w5 ⟨rfl, hb5⟩
            have hs := (Below.refl _ wr).alloc (Nat.le_refl _) (.cells #[.int .u8 15, .int .u16 (t : Int), .int .u16 (j : Int), .int .u16 0, .slice none 0 0, .slice (some ⟨g1, 0, none⟩) j j, .int .i64 1968] 48)
            have b6 := ((Blk.new wr 48 #[.int .u8 15, .int .u16 (t : Int), .int .u16 (j : Int), .int .u16 0, .slice none 0 0, .slice (some ⟨g1, 0, none⟩) j j, .int .i64 1968]).all hb5).cell 6
            simp only [List.getElem?_toArray, List.getElem?_cons_succ, List.getElem?_cons_zero] at b6
            have hb5' := bthen (bthen hb hs) hb5
            have bT5 := (bT.all hs).all hb5
            clear c0 c1 c2 c3 c4 c5 c6
            go_wp2_with fail
            go_roundw
            case rel => exact ⟨5, by omega, by go_num, bT5, hb5'⟩
            case measure => simp [intOf]
          · have v1 : decide ((1 : Int) ≤ (j : Int)) = false := decide_eq_false (by omega)
            have h0 : j = 0 := by omega
            rw [lim_none _ _ _ _ _ (by omega)] at E
            clear h0
            go_wp2_with fail
            refine (E.out _).mono ?_
            rintro e w5 ⟨rfl, hb5⟩
            have hs := (Below.refl _ wr).alloc (Nat.le_refl _) (.cells #[.int .u8 15, .int .u16 (t : Int), .int .u16 (j : Int), .int .u16 0, .slice none 0 0, .slice (some ⟨g1, 0, none⟩) j j, .int .i64 1968] 48)
            have b6 := ((Blk.new wr 48 #[.int .u8 15, .int .u16 (t : Int), .int .u16 (j : Int), .int .u16 0, .slice none 0 0, .slice (some ⟨g1, 0, none⟩) j j, .int .i64 1968]).all hb5).cell 6
            simp only [List.getElem?_toArray, List.getElem?_cons_succ, List.getElem?_cons_zero] at b6
            have hb5' := bthen (bthen hb hs) hb5
            have bT5 := (bT.all hs).all hb5
            clear c0 c1 c2 c3 c4 c5 c6
            go_wp2_with fail
            go_roundw
            case rel => exact ⟨5, by omega, by go_num, bT5, hb5'⟩
            case measure => simp [intOf]
        · have c0 : wr.cell? ⟨gT, 35, none⟩ = some (.int .u8 16) := (bT.cell 35).trans (by rw [← HTB.out]; rfl)
          have c1 : wr.cell? ⟨gT, 36, none⟩ = some (.int .u16 (t : Int)) := (bT.cell 36).trans (by rw [← HTB.out]; rfl)
          have c2 : wr.cell? ⟨gT, 37, none⟩ = some (.int .u16 (j : Int)) := (bT.cell 37).trans (by rw [← HTB.out]; rfl)
          have c3 : wr.cell? ⟨gT, 38, none⟩ = some (.int .u16 0) := (bT.cell 38).trans (by rw [← HTB.out]; rfl)
          have c4 : wr.cell? ⟨gT, 39, none⟩ = some (.slice (some ⟨g2, 0, none⟩) j j) := (bT.cell 39).trans (by rw [← HTB.out]; rfl)
          have c5 : wr.cell? ⟨gT, 40, none⟩ = some (.slice none 0 0) := (bT.cell 40).trans (by rw [← HTB.out]; rfl)
          have c6 : wr.cell? ⟨gT, 41, none⟩ = some (.int .i64 123) := (bT.cell 41).trans (by rw [← HTB.out]; rfl)
          have E := Lib.hid (fun W => ask_Right 16 t j 0 (some ⟨g2, 0, none⟩) j j none 0 0 W (by omega) (by omega) (by omega) (by omega) (by omega))
          unfold akV at E
          by_cases h1 : 1 ≤ j
          · have v1 : decide ((1 : Int) ≤ (j : Int)) = true := decide_eq_true (by omega)
            rw [lim_16 j h1] at E
            go_wp2_with fail
            refine (E.out _).mono ?_
            rintro e w5 ⟨rfl, hb5⟩
            have hs := (Below.refl _ wr).alloc (Nat.le_refl _) (.cells #[.int .u8 16, .int .u16 (t : Int), .int .u16 (j : Int), .int .u16 0, .slice (some ⟨g2, 0, none⟩) j j, .slice none 0 0, .int .i64 123] 48)
            have b6 := ((Blk.new wr 48 #[.int .u8 16, .int .u16 (t : Int), .int .u16 (j : Int), .int .u16 0, .slice (some ⟨g2, 0, none⟩) j j, .slice none 0 0, .int .i64 123]).all hb5).cell 6
            simp only [List.getElem?_toArray, List.getElem?_cons_succ, List.getElem?_cons_zero] at b6
            have hb5' := bthen (bthen hb hs) hb5
            have bT5 := (bT.all hs).all hb5
            clear c0 c1 c2 c3 c4 c5 c6
            go_wp2_with fail
            go_roundw
            case rel => exact ⟨6, by omega, by go_num, bT5, hb5'⟩
            case measure => simp [intOf]
          · have v1 : decide ((1 : Int) ≤ (j : Int)) = false := decide_eq_false (by omega)
            have h0 : j = 0 := by omega
            rw [lim_none _ _ _ _ _ (by omega)] at E
            clear h0
            go_wp2_with fail
            refine (E.out _).mono ?_
            rintro e w5 ⟨rfl, hb5⟩
            have hs := (Below.refl _ wr).alloc (Nat.le_refl _) (.cells #[.int .u8 16, .int .u16 (t : Int), .int .u16 (j : Int), .int .u16 0, .slice (some ⟨g2, 0, none⟩) j j, .slice none 0 0, .int .i64 123] 48)
            have b6 := ((Blk.new wr 48 #[.int .u8 16, .int .u16 (t : Int), .int .u16 (j : Int), .int .u16 0, .slice (some ⟨g2, 0, none⟩) j j, .slice none 0 0, .int .i64 123]).all hb5).cell 6
            simp only [List.getElem?_toArray, List.getElem?_cons_succ, List.getElem?_cons_zero] at b6
            have hb5' := bthen (bthen hb hs) hb5
            have bT5 := (bT.all hs).all hb5
            clear c0 c1 c2 c3 c4 c5 c6
            go_wp2_with fail
            go_roundw
            case rel => exact ⟨6, by omega, by go_num, bT5, hb5'⟩
            case measure => simp [intOf]
        · have c0 : wr.cell? ⟨gT, 42, none⟩ = some (.int .u8 23) := (bT.cell 42).trans (by rw [← HTB.out]; rfl)
          have c1 : wr.cell? ⟨gT, 43, none⟩ = some (.int .u16 (t : Int)) := (bT.cell 43).trans (by rw [← HTB.out]; rfl)
          have c2 : wr.cell? ⟨gT, 44, none⟩ = some (.int .u16 (j : Int)) := (bT.cell 44).trans (by rw [← HTB.out]; rfl)
          have c3 : wr.cell? ⟨gT, 45, none⟩ = some (.int .u16 (o : Int)) := (bT.cell 45).trans (by rw [← HTB.out]; rfl)
          have c4 : wr.cell? ⟨gT, 46, none⟩ = some (.slice (some ⟨gx, 0, none⟩) 1 1) := (bT.cell 46).trans (by rw [← HTB.out]; rfl)
          have c5 : wr.cell? ⟨gT, 47, none⟩ = some (.slice none 0 0) := (bT.cell 47).trans (by rw [← HTB.out]; rfl)
          have c6 : wr.cell? ⟨gT, 48, none⟩ = some (.int .i64 125) := (bT.cell 48).trans (by rw [← HTB.out]; rfl)
          have E := Lib.hid (fun W => ask_Right 23 t j o (some ⟨gx, 0, none⟩) 1 1 none 0 0 W (by omega) (by omega) (by omega) (by omega) (by omega))
          unfold akV at E
          by_cases h1 : 1 ≤ j
          · have v1 : decide ((1 : Int) ≤ (j : Int)) = true := decide_eq_true (by omega)
            rw [lim_23 j o h1] at E
            go_wp2_with fail
            refine (E.out _).mono ?_
            rintro e w5 ⟨rfl, hb5⟩
            have hs := (Below.refl _ wr).alloc (Nat.le_refl _) (.cells #[.int .u8 23, .int .u16 (t : Int), .int .u16 (j : Int), .int .u16 (o : Int), .slice (some ⟨gx, 0, none⟩) 1 1, .slice none 0 0, .int .i64 125] 48)
            have b6 := ((Blk.new wr 48 #[.int .u8 23, .int .u16 (t : Int), .int .u16 (j : Int), .int .u16 (o : Int), .slice (some ⟨gx, 0, none⟩) 1 1, .slice none 0 0, .int .i64 125]).all hb5).cell 6
            simp only [List.getElem?_toArray, List.getElem?_cons_succ, List.getElem?_cons_zero] at b6
            have hb5' := bthen (bthen hb hs) hb5
            have bT5 := (bT.all hs).all hb5
            clear c0 c1 c2 c3 c4 c5 c6
            go_wp2_with fail
            go_roundw
            case rel => exact ⟨7, by omega, by go_num, bT5, hb5'⟩
            case measure => simp [intOf]
          · have v1 : decide ((1 : Int) ≤ (j : Int)) = false := decide_eq_false (by omega)
            have h0 : j = 0 := by omega
            rw [lim_none _ _ _ _ _ (by omega)] at E
            clear h0
            go_wp2_with fail
            refine (E.out _).mono ?_
            rintro e w5 ⟨rfl, hb5⟩
            have hs := (Below.refl _ wr).alloc (Nat.le_refl _) (.cells #[.int .u8 23, .int .u16 (t : Int), .int .u16 (j : Int), .int .u16 (o : Int), .slice (some ⟨gx, 0, none⟩) 1 1, .slice none 0 0, .int .i64 125] 48)
            have b6 := ((Blk.new wr 48 #[.int .u8 23, .int .u16 (t : Int), .int .u16 (j : Int), .int .u16 (o : Int), .slice (some ⟨gx, 0, none⟩) 1 1, .slice none 0 0, .int .i64 125]).all hb5).cell 6
            simp only [List.getElem?_toArray, List.getElem?_cons_succ, List.getElem?_cons_zero] at b6
            have hb5' := bthen (bthen hb hs) hb5
            have bT5 := (bT.all hs).all hb5
            clear c0 c1 c2 c3 c4 c5 c6
            go_wp2_with fail
            go_roundw
            case rel => exact ⟨7, by omega, by go_num, bT5, hb5'⟩
            case measure => simp [intOf]
        · have c0 : wr.cell? ⟨gT, 49, none⟩ = some (.int .u8 23) := (bT.cell 49).trans (by rw [← HTB.out]; rfl)
          have c1 : wr.cell? ⟨gT, 50, none⟩ = some (.int .u16 (t : Int)) := (bT.cell 50).trans (by rw [← HTB.out]; rfl)
          have c2 : wr.cell? ⟨gT, 51, none⟩ = some (.int .u16 1) := (bT.cell 51).trans (by rw [← HTB.out]; rfl)
          have c3 : wr.cell? ⟨gT, 52, none⟩ = some (.int .u16 (o : Int)) := (bT.cell 52).trans (by rw [← HTB.out]; rfl)
          have c4 : wr.cell? ⟨gT, 53, none⟩ = some (.slice (some ⟨g2, 0, none⟩) j j) := (bT.cell 53).trans (by rw [← HTB.out]; rfl)
          have c5 : wr.cell? ⟨gT, 54, none⟩ = some (.slice none 0 0) := (bT.cell 54).trans (by rw [← HTB.out]; rfl)
          have c6 : wr.cell? ⟨gT, 55, none⟩ = some (.int .i64 121) := (bT.cell 55).trans (by rw [← HTB.out]; rfl)
          have E := Lib.hid (fun W => ask_Right 23 t 1 o (some ⟨g2, 0, none⟩) j j none 0 0 W (by omega) (by omega) (by omega) (by omega) (by omega))
          unfold akV at E
          by_cases h1 : 1 ≤ j
          · have v1 : decide ((1 : Int) ≤ (j : Int)) = true := decide_eq_true (by omega)
            rw [lim_23w j o h1] at E
            go_wp2_with fail
            refine (E.out _).mono ?_
            rintro e w5 ⟨rfl, hb5⟩
            have hs := (Below.refl _ wr).alloc (Nat.le_refl _) (.cells #[.int .u8 23, .int .u16 (t : Int), .int .u16 1, .int .u16 (o : Int), .slice (some ⟨g2, 0, none⟩) j j, .slice none 0 0, .int .i64 121] 48)
            have b6 := ((Blk.new wr 48 #[.int .u8 23, .int .u16 (t : Int), .int .u16 1, .int .u16 (o : Int), .slice (some ⟨g2, 0, none⟩) j j, .slice none 0 0, .int .i64 121]).all hb5).cell 6
            simp only [List.getElem?_toArray, List.getElem?_cons_succ, List.getElem?_cons_zero] at b6
            have hb5' := bthen (bthen hb hs) hb5
            have bT5 := (bT.all hs).all hb5
            clear c0 c1 c2 c3 c4 c5 c6
            go_wp2_with fail
            go_roundw
            case rel => exact ⟨8, by omega, by go_num, bT5, hb5'⟩
            case measure => simp [intOf]
          · have v1 : decide ((1 : Int) ≤ (j : Int)) = false := decide_eq_false (by omega)
            have h0 : j = 0 := by omega
            rw [lim_none _ _ _ _ _ (by omega)] at E
            clear h0
            go_wp2_with fail
            refine (E.out _).mono ?_
            rintro e w5 ⟨rfl, hb5⟩
            have hs := (Below.refl _ wr).alloc (Nat.le_refl _) (.cells #[.int .u8 23, .int .u16 (t : Int), .int .u16 1, .int .u16 (o : Int), .slice (some ⟨g2, 0, none⟩) j j, .slice none 0 0, .int .i64 121] 48)
            have b6 := ((Blk.new wr 48 #[.int .u8 23, .int .u16 (t : Int), .int .u16 1, .int .u16 (o : Int), .slice (some ⟨g2, 0, none⟩) j j, .slice none 0 0, .int .i64 121]).all hb5).cell 6
            simp only [List.getElem?_toArray, List.getElem?_cons_succ, List.getElem?_cons_zero] at b6
            have hb5' := bthen (bthen hb hs) hb5
            have bT5 := (bT.all hs).all hb5
            clear c0 c1 c2 c3 c4 c5 c6
            go_wp2_with fail
            go_roundw
            case rel => exact ⟨8, by omega, by go_num, bT5, hb5'⟩
            case measure => simp [intOf]
        · clear HTB bT
          have q1 := dec_int j
          obtain ⟨y, hy⟩ : ∃ y, decide (j = 1) = y := ⟨_, rfl⟩
          rw [hy] at q1
          have E1 := Lib.hid (fun W => ask_Right 5 t 0 0 none 0 0 (some ⟨g1, 0, none⟩) j j W (by omega) (by omega) (by omega) (by omega) (by omega))
          have E2 := Lib.hid (fun W => ask_Right 6 t 0 0 (some ⟨g2, 0, none⟩) j j none 0 0 W (by omega) (by omega) (by omega) (by omega) (by omega))
          rw [lim_5, hy] at E1
          rw [lim_6, hy] at E2
          obtain ⟨m1, hm1⟩ : ∃ m, n200 + 1 = m := ⟨_, rfl⟩
          have hm1i : (n200 : Int) + 1 = (m1 : Int) := by omega
          have hm1w : IntKind.u16.wrap (m1 : Int) = (m1 : Int) := by rw [IntKind.wrap_u16]; omega
          have E3 := Lib.hid (fun W => ask_Right 16 t (n200 + 1) 0 (some ⟨g2, 0, none⟩) n200 j none 0 0 W (by omega) (by omega) (by omega) (by omega) (by omega))
          rw [lim_16s, hm1] at E3
          have E4 := Lib.hid (fun W => ask_Right 3 0 1 1 none 0 0 none 0 0 W (by omega) (by omega) (by omega) (by omega) (by omega))
          rw [lim_3] at E4
          have E5 := Lib.hid (fun W A => ask_Right 6 0 1 0 A 1 1 none 0 0 W (by omega) (by omega) (by omega) (by omega) (by omega))
          rw [show rightN 6 1 0 1 0 = false from lim_6m] at E5
          unfold akV at E1 E2 E3 E4 E5
          clear hy hm1
          go_wp2_with fail
          refine (E1.out _).mono ?_
          rintro e w5 ⟨rfl, hb5⟩
          replace hb := bthen hb hb5
          go_wp2_with fail
          refine (E2.out _).mono ?_
          rintro e w6 ⟨rfl, hb6⟩
          replace hb := bthen hb hb6
          go_wp2_with fail
          refine (E3.out _).mono ?_
          rintro e w7 ⟨rfl, hb7⟩
          replace hb := bthen hb hb7
          go_wp2_with fail
          refine (E4.out _).mono ?_
          rintro e w8 ⟨rfl, hb8⟩
          replace hb := bthen hb hb8
          go_wp2_with fail
          refine (E5.out _ _).mono ?_
          rintro e w9 ⟨rfl, hb9⟩
          replace hb := bthen (hb.alloc hb.size _) hb9
          go_wp2_with fail
          refine (ask_awake _).mono ?_
          rintro e w10 ⟨rfl, hb10⟩
          go_wp2_with fail
          go_ret
          exact ⟨rfl, bthen hb hb10⟩
end Go.Proofs.Ythddplokicbofaa
