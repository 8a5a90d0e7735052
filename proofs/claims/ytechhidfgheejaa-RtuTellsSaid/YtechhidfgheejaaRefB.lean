/- The reference of chapter 2: Right, Same (written by gen_refb.py). -/
import Derived.Test.YtechhidfgheejaaRefA
namespace Go.Proofs.Ytechhidfgheejaa
open Go.RowKit
set_option linter.unusedSimpArgs false
set_option linter.unusedVariables false

set_option maxHeartbeats 4000000 in
theorem ref_Right1 (f t mn o : Nat) (A : Option Addr) (n c : Nat) (B : Option Addr) (k d : Nat) (w : World) (hmn : mn < 65536) (hn : n ≤ 1000000) (hk : k ≤ 1000000) (hf : f = 1) (ho : o = 0) :
    Calls Try.prog 25 #[akV f t mn o A n c B k d] w fun e w' => e = .returned (.bool (rightN f mn o n k)) ∧ Below w.heap.size w w' := by
  have HU : Hid (rightN f mn o n k = decide ( k = 0 ∧ n = 0 ∧ 1 ≤ mn ∧ mn ≤ 2000 )) := by (show _ = _); subst hf ho; rw [Bool.eq_iff_iff]; simp [rightN, isFn, shp, wtn]; omega
  have HB := Lib.hid ((Below.refl _ w).alloc (Nat.le_refl _) (.cells #[.int .u8 (f : Int), .int .u16 (t : Int), .int .u16 (mn : Int), .int .u16 (o : Int), .slice A n c, .slice B k d] 41))
  have bx1 := Blk.new w 41 #[.int .u8 (f : Int), .int .u16 (t : Int), .int .u16 (mn : Int), .int .u16 (o : Int), .slice A n c, .slice B k d]
  obtain ⟨d0, d1, d2, d3, d4, d5⟩ := bx1.c6
  unfold akV
  have go : ((o : Int) != 0) = false := by simp; omega
  have g23 : ((f : Int) != 23) = true := by simp; omega
  have g1e : ((f : Int) == 1) = true := by simp; omega
  clear hf ho
  by_cases h0 : k = 0
  · have v0 : ((k : Int) == 0) = true := by simp; omega
    by_cases h1 : n = 0
    · have v1 : ((n : Int) == 0) = true := by simp; omega
      by_cases h2 : 1 ≤ mn
      · have v2 : decide ((1 : Int) ≤ (mn : Int)) = true := by simp; omega
        by_cases h3 : mn ≤ 2000
        · have v3 : decide ((mn : Int) ≤ 2000) = true := by simp; omega
          have HV : Hid (rightN f mn o n k = true) := by (show _ = _); rw [HU.out]; simp; omega
          clear h0 h1 h2 h3
          go_enter Try.func25, Try.ntmps25
          go_wp2_with fail
          go_quiet (fail)
          clear d0 d1 d2 d3 d4 d5
          obtain ⟨d0, d1, d2, d3, d4, d5⟩ := (bx1.drewN nq).c6
          go_wp2_with fail
          go_ret
          exact ⟨ret_bool HV.out.symm, below_drewN HB.out _⟩
        · have v3 : decide ((mn : Int) ≤ 2000) = false := by simp; omega
          have HV : Hid (rightN f mn o n k = false) := by (show _ = _); rw [HU.out]; simp; omega
          clear h0 h1 h2 h3
          go_enter Try.func25, Try.ntmps25
          go_wp2_with fail
          go_quiet (fail)
          clear d0 d1 d2 d3 d4 d5
          obtain ⟨d0, d1, d2, d3, d4, d5⟩ := (bx1.drewN nq).c6
          go_wp2_with fail
          go_ret
          exact ⟨ret_bool HV.out.symm, below_drewN HB.out _⟩
      · have v2 : decide ((1 : Int) ≤ (mn : Int)) = false := by simp; omega
        have HV : Hid (rightN f mn o n k = false) := by (show _ = _); rw [HU.out]; simp; omega
        clear h0 h1 h2
        go_enter Try.func25, Try.ntmps25
        go_wp2_with fail
        go_quiet (fail)
        clear d0 d1 d2 d3 d4 d5
        obtain ⟨d0, d1, d2, d3, d4, d5⟩ := (bx1.drewN nq).c6
        go_wp2_with fail
        go_ret
        exact ⟨ret_bool HV.out.symm, below_drewN HB.out _⟩
    · have v1 : ((n : Int) == 0) = false := by simp; omega
      have HV : Hid (rightN f mn o n k = false) := by (show _ = _); rw [HU.out]; simp; omega
      clear h0 h1
      go_enter Try.func25, Try.ntmps25
      go_wp2_with fail
      go_quiet (fail)
      clear d0 d1 d2 d3 d4 d5
      obtain ⟨d0, d1, d2, d3, d4, d5⟩ := (bx1.drewN nq).c6
      go_wp2_with fail
      go_ret
      exact ⟨ret_bool HV.out.symm, below_drewN HB.out _⟩
  · have v0 : ((k : Int) == 0) = false := by simp; omega
    have HV : Hid (rightN f mn o n k = false) := by (show _ = _); rw [HU.out]; simp; omega
    clear h0
    go_enter Try.func25, Try.ntmps25
    go_wp2_with fail
    go_quiet (fail)
    clear d0 d1 d2 d3 d4 d5
    obtain ⟨d0, d1, d2, d3, d4, d5⟩ := (bx1.drewN nq).c6
    go_wp2_with fail
    go_ret
    exact ⟨ret_bool HV.out.symm, below_drewN HB.out _⟩

set_option maxHeartbeats 4000000 in
theorem ref_Right2 (f t mn o : Nat) (A : Option Addr) (n c : Nat) (B : Option Addr) (k d : Nat) (w : World) (hmn : mn < 65536) (hn : n ≤ 1000000) (hk : k ≤ 1000000) (hf : f = 2) (ho : o = 0) :
    Calls Try.prog 25 #[akV f t mn o A n c B k d] w fun e w' => e = .returned (.bool (rightN f mn o n k)) ∧ Below w.heap.size w w' := by
  have HU : Hid (rightN f mn o n k = decide ( k = 0 ∧ n = 0 ∧ 1 ≤ mn ∧ mn ≤ 2000 )) := by (show _ = _); subst hf ho; rw [Bool.eq_iff_iff]; simp [rightN, isFn, shp, wtn]; omega
  have HB := Lib.hid ((Below.refl _ w).alloc (Nat.le_refl _) (.cells #[.int .u8 (f : Int), .int .u16 (t : Int), .int .u16 (mn : Int), .int .u16 (o : Int), .slice A n c, .slice B k d] 41))
  have bx1 := Blk.new w 41 #[.int .u8 (f : Int), .int .u16 (t : Int), .int .u16 (mn : Int), .int .u16 (o : Int), .slice A n c, .slice B k d]
  obtain ⟨d0, d1, d2, d3, d4, d5⟩ := bx1.c6
  unfold akV
  have go : ((o : Int) != 0) = false := by simp; omega
  have g23 : ((f : Int) != 23) = true := by simp; omega
  have g1e : ((f : Int) == 1) = false := by simp; omega
  have g2e : ((f : Int) == 2) = true := by simp; omega
  clear hf ho
  by_cases h0 : k = 0
  · have v0 : ((k : Int) == 0) = true := by simp; omega
    by_cases h1 : n = 0
    · have v1 : ((n : Int) == 0) = true := by simp; omega
      by_cases h2 : 1 ≤ mn
      · have v2 : decide ((1 : Int) ≤ (mn : Int)) = true := by simp; omega
        by_cases h3 : mn ≤ 2000
        · have v3 : decide ((mn : Int) ≤ 2000) = true := by simp; omega
          have HV : Hid (rightN f mn o n k = true) := by (show _ = _); rw [HU.out]; simp; omega
          clear h0 h1 h2 h3
          go_enter Try.func25, Try.ntmps25
          go_wp2_with fail
          go_quiet (fail)
          clear d0 d1 d2 d3 d4 d5
          obtain ⟨d0, d1, d2, d3, d4, d5⟩ := (bx1.drewN nq).c6
          go_wp2_with fail
          go_ret
          exact ⟨ret_bool HV.out.symm, below_drewN HB.out _⟩
        · have v3 : decide ((mn : Int) ≤ 2000) = false := by simp; omega
          have HV : Hid (rightN f mn o n k = false) := by (show _ = _); rw [HU.out]; simp; omega
          clear h0 h1 h2 h3
          go_enter Try.func25, Try.ntmps25
          go_wp2_with fail
          go_quiet (fail)
          clear d0 d1 d2 d3 d4 d5
          obtain ⟨d0, d1, d2, d3, d4, d5⟩ := (bx1.drewN nq).c6
          go_wp2_with fail
          go_ret
          exact ⟨ret_bool HV.out.symm, below_drewN HB.out _⟩
      · have v2 : decide ((1 : Int) ≤ (mn : Int)) = false := by simp; omega
        have HV : Hid (rightN f mn o n k = false) := by (show _ = _); rw [HU.out]; simp; omega
        clear h0 h1 h2
        go_enter Try.func25, Try.ntmps25
        go_wp2_with fail
        go_quiet (fail)
        clear d0 d1 d2 d3 d4 d5
        obtain ⟨d0, d1, d2, d3, d4, d5⟩ := (bx1.drewN nq).c6
        go_wp2_with fail
        go_ret
        exact ⟨ret_bool HV.out.symm, below_drewN HB.out _⟩
    · have v1 : ((n : Int) == 0) = false := by simp; omega
      have HV : Hid (rightN f mn o n k = false) := by (show _ = _); rw [HU.out]; simp; omega
      clear h0 h1
      go_enter Try.func25, Try.ntmps25
      go_wp2_with fail
      go_quiet (fail)
      clear d0 d1 d2 d3 d4 d5
      obtain ⟨d0, d1, d2, d3, d4, d5⟩ := (bx1.drewN nq).c6
      go_wp2_with fail
      go_ret
      exact ⟨ret_bool HV.out.symm, below_drewN HB.out _⟩
  · have v0 : ((k : Int) == 0) = false := by simp; omega
    have HV : Hid (rightN f mn o n k = false) := by (show _ = _); rw [HU.out]; simp; omega
    clear h0
    go_enter Try.func25, Try.ntmps25
    go_wp2_with fail
    go_quiet (fail)
    clear d0 d1 d2 d3 d4 d5
    obtain ⟨d0, d1, d2, d3, d4, d5⟩ := (bx1.drewN nq).c6
    go_wp2_with fail
    go_ret
    exact ⟨ret_bool HV.out.symm, below_drewN HB.out _⟩

set_option maxHeartbeats 4000000 in
theorem ref_Right3 (f t mn o : Nat) (A : Option Addr) (n c : Nat) (B : Option Addr) (k d : Nat) (w : World) (hmn : mn < 65536) (hn : n ≤ 1000000) (hk : k ≤ 1000000) (hf : f = 3) (ho : o = 0) :
    Calls Try.prog 25 #[akV f t mn o A n c B k d] w fun e w' => e = .returned (.bool (rightN f mn o n k)) ∧ Below w.heap.size w w' := by
  have HU : Hid (rightN f mn o n k = decide ( k = 0 ∧ n = 0 ∧ 1 ≤ mn ∧ mn ≤ 125 )) := by (show _ = _); subst hf ho; rw [Bool.eq_iff_iff]; simp [rightN, isFn, shp, wtn]; omega
  have HB := Lib.hid ((Below.refl _ w).alloc (Nat.le_refl _) (.cells #[.int .u8 (f : Int), .int .u16 (t : Int), .int .u16 (mn : Int), .int .u16 (o : Int), .slice A n c, .slice B k d] 41))
  have bx1 := Blk.new w 41 #[.int .u8 (f : Int), .int .u16 (t : Int), .int .u16 (mn : Int), .int .u16 (o : Int), .slice A n c, .slice B k d]
  obtain ⟨d0, d1, d2, d3, d4, d5⟩ := bx1.c6
  unfold akV
  have go : ((o : Int) != 0) = false := by simp; omega
  have g23 : ((f : Int) != 23) = true := by simp; omega
  have g1e : ((f : Int) == 1) = false := by simp; omega
  have g2e : ((f : Int) == 2) = false := by simp; omega
  have g3e : ((f : Int) == 3) = true := by simp; omega
  clear hf ho
  by_cases h0 : k = 0
  · have v0 : ((k : Int) == 0) = true := by simp; omega
    by_cases h1 : n = 0
    · have v1 : ((n : Int) == 0) = true := by simp; omega
      by_cases h2 : 1 ≤ mn
      · have v2 : decide ((1 : Int) ≤ (mn : Int)) = true := by simp; omega
        by_cases h3 : mn ≤ 125
        · have v3 : decide ((mn : Int) ≤ 125) = true := by simp; omega
          have HV : Hid (rightN f mn o n k = true) := by (show _ = _); rw [HU.out]; simp; omega
          clear h0 h1 h2 h3
          go_enter Try.func25, Try.ntmps25
          go_wp2_with fail
          go_quiet (fail)
          clear d0 d1 d2 d3 d4 d5
          obtain ⟨d0, d1, d2, d3, d4, d5⟩ := (bx1.drewN nq).c6
          go_wp2_with fail
          go_ret
          exact ⟨ret_bool HV.out.symm, below_drewN HB.out _⟩
        · have v3 : decide ((mn : Int) ≤ 125) = false := by simp; omega
          have HV : Hid (rightN f mn o n k = false) := by (show _ = _); rw [HU.out]; simp; omega
          clear h0 h1 h2 h3
          go_enter Try.func25, Try.ntmps25
          go_wp2_with fail
          go_quiet (fail)
          clear d0 d1 d2 d3 d4 d5
          obtain ⟨d0, d1, d2, d3, d4, d5⟩ := (bx1.drewN nq).c6
          go_wp2_with fail
          go_ret
          exact ⟨ret_bool HV.out.symm, below_drewN HB.out _⟩
      · have v2 : decide ((1 : Int) ≤ (mn : Int)) = false := by simp; omega
        have HV : Hid (rightN f mn o n k = false) := by (show _ = _); rw [HU.out]; simp; omega
        clear h0 h1 h2
        go_enter Try.func25, Try.ntmps25
        go_wp2_with fail
        go_quiet (fail)
        clear d0 d1 d2 d3 d4 d5
        obtain ⟨d0, d1, d2, d3, d4, d5⟩ := (bx1.drewN nq).c6
        go_wp2_with fail
        go_ret
        exact ⟨ret_bool HV.out.symm, below_drewN HB.out _⟩
    · have v1 : ((n : Int) == 0) = false := by simp; omega
      have HV : Hid (rightN f mn o n k = false) := by (show _ = _); rw [HU.out]; simp; omega
      clear h0 h1
      go_enter Try.func25, Try.ntmps25
      go_wp2_with fail
      go_quiet (fail)
      clear d0 d1 d2 d3 d4 d5
      obtain ⟨d0, d1, d2, d3, d4, d5⟩ := (bx1.drewN nq).c6
      go_wp2_with fail
      go_ret
      exact ⟨ret_bool HV.out.symm, below_drewN HB.out _⟩
  · have v0 : ((k : Int) == 0) = false := by simp; omega
    have HV : Hid (rightN f mn o n k = false) := by (show _ = _); rw [HU.out]; simp; omega
    clear h0
    go_enter Try.func25, Try.ntmps25
    go_wp2_with fail
    go_quiet (fail)
    clear d0 d1 d2 d3 d4 d5
    obtain ⟨d0, d1, d2, d3, d4, d5⟩ := (bx1.drewN nq).c6
    go_wp2_with fail
    go_ret
    exact ⟨ret_bool HV.out.symm, below_drewN HB.out _⟩

set_option maxHeartbeats 4000000 in
theorem ref_Right4 (f t mn o : Nat) (A : Option Addr) (n c : Nat) (B : Option Addr) (k d : Nat) (w : World) (hmn : mn < 65536) (hn : n ≤ 1000000) (hk : k ≤ 1000000) (hf : f = 4) (ho : o = 0) :
    Calls Try.prog 25 #[akV f t mn o A n c B k d] w fun e w' => e = .returned (.bool (rightN f mn o n k)) ∧ Below w.heap.size w w' := by
  have HU : Hid (rightN f mn o n k = decide ( k = 0 ∧ n = 0 ∧ 1 ≤ mn ∧ mn ≤ 125 )) := by (show _ = _); subst hf ho; rw [Bool.eq_iff_iff]; simp [rightN, isFn, shp, wtn]; omega
  have HB := Lib.hid ((Below.refl _ w).alloc (Nat.le_refl _) (.cells #[.int .u8 (f : Int), .int .u16 (t : Int), .int .u16 (mn : Int), .int .u16 (o : Int), .slice A n c, .slice B k d] 41))
  have bx1 := Blk.new w 41 #[.int .u8 (f : Int), .int .u16 (t : Int), .int .u16 (mn : Int), .int .u16 (o : Int), .slice A n c, .slice B k d]
  obtain ⟨d0, d1, d2, d3, d4, d5⟩ := bx1.c6
  unfold akV
  have go : ((o : Int) != 0) = false := by simp; omega
  have g23 : ((f : Int) != 23) = true := by simp; omega
  have g1e : ((f : Int) == 1) = false := by simp; omega
  have g2e : ((f : Int) == 2) = false := by simp; omega
  have g3e : ((f : Int) == 3) = false := by simp; omega
  have g4e : ((f : Int) == 4) = true := by simp; omega
  clear hf ho
  by_cases h0 : k = 0
  · have v0 : ((k : Int) == 0) = true := by simp; omega
    by_cases h1 : n = 0
    · have v1 : ((n : Int) == 0) = true := by simp; omega
      by_cases h2 : 1 ≤ mn
      · have v2 : decide ((1 : Int) ≤ (mn : Int)) = true := by simp; omega
        by_cases h3 : mn ≤ 125
        · have v3 : decide ((mn : Int) ≤ 125) = true := by simp; omega
          have HV : Hid (rightN f mn o n k = true) := by (show _ = _); rw [HU.out]; simp; omega
          clear h0 h1 h2 h3
          go_enter Try.func25, Try.ntmps25
          go_wp2_with fail
          go_quiet (fail)
          clear d0 d1 d2 d3 d4 d5
          obtain ⟨d0, d1, d2, d3, d4, d5⟩ := (bx1.drewN nq).c6
          go_wp2_with fail
          go_ret
          exact ⟨ret_bool HV.out.symm, below_drewN HB.out _⟩
        · have v3 : decide ((mn : Int) ≤ 125) = false := by simp; omega
          have HV : Hid (rightN f mn o n k = false) := by (show _ = _); rw [HU.out]; simp; omega
          clear h0 h1 h2 h3
          go_enter Try.func25, Try.ntmps25
          go_wp2_with fail
          go_quiet (fail)
          clear d0 d1 d2 d3 d4 d5
          obtain ⟨d0, d1, d2, d3, d4, d5⟩ := (bx1.drewN nq).c6
          go_wp2_with fail
          go_ret
          exact ⟨ret_bool HV.out.symm, below_drewN HB.out _⟩
      · have v2 : decide ((1 : Int) ≤ (mn : Int)) = false := by simp; omega
        have HV : Hid (rightN f mn o n k = false) := by (show _ = _); rw [HU.out]; simp; omega
        clear h0 h1 h2
        go_enter Try.func25, Try.ntmps25
        go_wp2_with fail
        go_quiet (fail)
        clear d0 d1 d2 d3 d4 d5
        obtain ⟨d0, d1, d2, d3, d4, d5⟩ := (bx1.drewN nq).c6
        go_wp2_with fail
        go_ret
        exact ⟨ret_bool HV.out.symm, below_drewN HB.out _⟩
    · have v1 : ((n : Int) == 0) = false := by simp; omega
      have HV : Hid (rightN f mn o n k = false) := by (show _ = _); rw [HU.out]; simp; omega
      clear h0 h1
      go_enter Try.func25, Try.ntmps25
      go_wp2_with fail
      go_quiet (fail)
      clear d0 d1 d2 d3 d4 d5
      obtain ⟨d0, d1, d2, d3, d4, d5⟩ := (bx1.drewN nq).c6
      go_wp2_with fail
      go_ret
      exact ⟨ret_bool HV.out.symm, below_drewN HB.out _⟩
  · have v0 : ((k : Int) == 0) = false := by simp; omega
    have HV : Hid (rightN f mn o n k = false) := by (show _ = _); rw [HU.out]; simp; omega
    clear h0
    go_enter Try.func25, Try.ntmps25
    go_wp2_with fail
    go_quiet (fail)
    clear d0 d1 d2 d3 d4 d5
    obtain ⟨d0, d1, d2, d3, d4, d5⟩ := (bx1.drewN nq).c6
    go_wp2_with fail
    go_ret
    exact ⟨ret_bool HV.out.symm, below_drewN HB.out _⟩

set_option maxHeartbeats 4000000 in
theorem ref_Right5 (f t mn o : Nat) (A : Option Addr) (n c : Nat) (B : Option Addr) (k d : Nat) (w : World) (hmn : mn < 65536) (hn : n ≤ 1000000) (hk : k ≤ 1000000) (hf : f = 5) (ho : o = 0) :
    Calls Try.prog 25 #[akV f t mn o A n c B k d] w fun e w' => e = .returned (.bool (rightN f mn o n k)) ∧ Below w.heap.size w w' := by
  have HU : Hid (rightN f mn o n k = decide ( k = 1 ∧ n = 0 ∧ mn = 0 )) := by (show _ = _); subst hf ho; rw [Bool.eq_iff_iff]; simp [rightN, isFn, shp, wtn]; omega
  have HB := Lib.hid ((Below.refl _ w).alloc (Nat.le_refl _) (.cells #[.int .u8 (f : Int), .int .u16 (t : Int), .int .u16 (mn : Int), .int .u16 (o : Int), .slice A n c, .slice B k d] 41))
  have bx1 := Blk.new w 41 #[.int .u8 (f : Int), .int .u16 (t : Int), .int .u16 (mn : Int), .int .u16 (o : Int), .slice A n c, .slice B k d]
  obtain ⟨d0, d1, d2, d3, d4, d5⟩ := bx1.c6
  unfold akV
  have go : ((o : Int) != 0) = false := by simp; omega
  have g23 : ((f : Int) != 23) = true := by simp; omega
  have g1e : ((f : Int) == 1) = false := by simp; omega
  have g2e : ((f : Int) == 2) = false := by simp; omega
  have g3e : ((f : Int) == 3) = false := by simp; omega
  have g4e : ((f : Int) == 4) = false := by simp; omega
  have g5e : ((f : Int) == 5) = true := by simp; omega
  clear hf ho
  by_cases h0 : k = 1
  · have v0 : ((k : Int) == 1) = true := by simp; omega
    by_cases h1 : n = 0
    · have v1 : ((n : Int) == 0) = true := by simp; omega
      by_cases h2 : mn = 0
      · have v2 : ((mn : Int) == 0) = true := by simp; omega
        have HV : Hid (rightN f mn o n k = true) := by (show _ = _); rw [HU.out]; simp; omega
        clear h0 h1 h2
        go_enter Try.func25, Try.ntmps25
        go_wp2_with fail
        go_quiet (fail)
        clear d0 d1 d2 d3 d4 d5
        obtain ⟨d0, d1, d2, d3, d4, d5⟩ := (bx1.drewN nq).c6
        go_wp2_with fail
        go_ret
        exact ⟨ret_bool HV.out.symm, below_drewN HB.out _⟩
      · have v2 : ((mn : Int) == 0) = false := by simp; omega
        have HV : Hid (rightN f mn o n k = false) := by (show _ = _); rw [HU.out]; simp; omega
        clear h0 h1 h2
        go_enter Try.func25, Try.ntmps25
        go_wp2_with fail
        go_quiet (fail)
        clear d0 d1 d2 d3 d4 d5
        obtain ⟨d0, d1, d2, d3, d4, d5⟩ := (bx1.drewN nq).c6
        go_wp2_with fail
        go_ret
        exact ⟨ret_bool HV.out.symm, below_drewN HB.out _⟩
    · have v1 : ((n : Int) == 0) = false := by simp; omega
      have HV : Hid (rightN f mn o n k = false) := by (show _ = _); rw [HU.out]; simp; omega
      clear h0 h1
      go_enter Try.func25, Try.ntmps25
      go_wp2_with fail
      go_quiet (fail)
      clear d0 d1 d2 d3 d4 d5
      obtain ⟨d0, d1, d2, d3, d4, d5⟩ := (bx1.drewN nq).c6
      go_wp2_with fail
      go_ret
      exact ⟨ret_bool HV.out.symm, below_drewN HB.out _⟩
  · have v0 : ((k : Int) == 1) = false := by simp; omega
    have HV : Hid (rightN f mn o n k = false) := by (show _ = _); rw [HU.out]; simp; omega
    clear h0
    go_enter Try.func25, Try.ntmps25
    go_wp2_with fail
    go_quiet (fail)
    clear d0 d1 d2 d3 d4 d5
    obtain ⟨d0, d1, d2, d3, d4, d5⟩ := (bx1.drewN nq).c6
    go_wp2_with fail
    go_ret
    exact ⟨ret_bool HV.out.symm, below_drewN HB.out _⟩

set_option maxHeartbeats 4000000 in
theorem ref_Right6 (f t mn o : Nat) (A : Option Addr) (n c : Nat) (B : Option Addr) (k d : Nat) (w : World) (hmn : mn < 65536) (hn : n ≤ 1000000) (hk : k ≤ 1000000) (hf : f = 6) (ho : o = 0) :
    Calls Try.prog 25 #[akV f t mn o A n c B k d] w fun e w' => e = .returned (.bool (rightN f mn o n k)) ∧ Below w.heap.size w w' := by
  have HU : Hid (rightN f mn o n k = decide ( k = 0 ∧ n = 1 ∧ mn = 0 )) := by (show _ = _); subst hf ho; rw [Bool.eq_iff_iff]; simp [rightN, isFn, shp, wtn]; omega
  have HB := Lib.hid ((Below.refl _ w).alloc (Nat.le_refl _) (.cells #[.int .u8 (f : Int), .int .u16 (t : Int), .int .u16 (mn : Int), .int .u16 (o : Int), .slice A n c, .slice B k d] 41))
  have bx1 := Blk.new w 41 #[.int .u8 (f : Int), .int .u16 (t : Int), .int .u16 (mn : Int), .int .u16 (o : Int), .slice A n c, .slice B k d]
  obtain ⟨d0, d1, d2, d3, d4, d5⟩ := bx1.c6
  unfold akV
  have go : ((o : Int) != 0) = false := by simp; omega
  have g23 : ((f : Int) != 23) = true := by simp; omega
  have g1e : ((f : Int) == 1) = false := by simp; omega
  have g2e : ((f : Int) == 2) = false := by simp; omega
  have g3e : ((f : Int) == 3) = false := by simp; omega
  have g4e : ((f : Int) == 4) = false := by simp; omega
  have g5e : ((f : Int) == 5) = false := by simp; omega
  have g6e : ((f : Int) == 6) = true := by simp; omega
  clear hf ho
  by_cases h0 : k = 0
  · have v0 : ((k : Int) == 0) = true := by simp; omega
    by_cases h1 : n = 1
    · have v1 : ((n : Int) == 1) = true := by simp; omega
      by_cases h2 : mn = 0
      · have v2 : ((mn : Int) == 0) = true := by simp; omega
        have HV : Hid (rightN f mn o n k = true) := by (show _ = _); rw [HU.out]; simp; omega
        clear h0 h1 h2
        go_enter Try.func25, Try.ntmps25
        go_wp2_with fail
        go_quiet (fail)
        clear d0 d1 d2 d3 d4 d5
        obtain ⟨d0, d1, d2, d3, d4, d5⟩ := (bx1.drewN nq).c6
        go_wp2_with fail
        go_ret
        exact ⟨ret_bool HV.out.symm, below_drewN HB.out _⟩
      · have v2 : ((mn : Int) == 0) = false := by simp; omega
        have HV : Hid (rightN f mn o n k = false) := by (show _ = _); rw [HU.out]; simp; omega
        clear h0 h1 h2
        go_enter Try.func25, Try.ntmps25
        go_wp2_with fail
        go_quiet (fail)
        clear d0 d1 d2 d3 d4 d5
        obtain ⟨d0, d1, d2, d3, d4, d5⟩ := (bx1.drewN nq).c6
        go_wp2_with fail
        go_ret
        exact ⟨ret_bool HV.out.symm, below_drewN HB.out _⟩
    · have v1 : ((n : Int) == 1) = false := by simp; omega
      have HV : Hid (rightN f mn o n k = false) := by (show _ = _); rw [HU.out]; simp; omega
      clear h0 h1
      go_enter Try.func25, Try.ntmps25
      go_wp2_with fail
      go_quiet (fail)
      clear d0 d1 d2 d3 d4 d5
      obtain ⟨d0, d1, d2, d3, d4, d5⟩ := (bx1.drewN nq).c6
      go_wp2_with fail
      go_ret
      exact ⟨ret_bool HV.out.symm, below_drewN HB.out _⟩
  · have v0 : ((k : Int) == 0) = false := by simp; omega
    have HV : Hid (rightN f mn o n k = false) := by (show _ = _); rw [HU.out]; simp; omega
    clear h0
    go_enter Try.func25, Try.ntmps25
    go_wp2_with fail
    go_quiet (fail)
    clear d0 d1 d2 d3 d4 d5
    obtain ⟨d0, d1, d2, d3, d4, d5⟩ := (bx1.drewN nq).c6
    go_wp2_with fail
    go_ret
    exact ⟨ret_bool HV.out.symm, below_drewN HB.out _⟩

set_option maxHeartbeats 4000000 in
theorem ref_Right15 (f t mn o : Nat) (A : Option Addr) (n c : Nat) (B : Option Addr) (k d : Nat) (w : World) (hmn : mn < 65536) (hn : n ≤ 1000000) (hk : k ≤ 1000000) (hf : f = 15) (ho : o = 0) :
    Calls Try.prog 25 #[akV f t mn o A n c B k d] w fun e w' => e = .returned (.bool (rightN f mn o n k)) ∧ Below w.heap.size w w' := by
  have HU : Hid (rightN f mn o n k = decide ( k = mn ∧ n = 0 ∧ 1 ≤ mn ∧ mn ≤ 1968 )) := by (show _ = _); subst hf ho; rw [Bool.eq_iff_iff]; simp [rightN, isFn, shp, wtn]; omega
  have HB := Lib.hid ((Below.refl _ w).alloc (Nat.le_refl _) (.cells #[.int .u8 (f : Int), .int .u16 (t : Int), .int .u16 (mn : Int), .int .u16 (o : Int), .slice A n c, .slice B k d] 41))
  have bx1 := Blk.new w 41 #[.int .u8 (f : Int), .int .u16 (t : Int), .int .u16 (mn : Int), .int .u16 (o : Int), .slice A n c, .slice B k d]
  obtain ⟨d0, d1, d2, d3, d4, d5⟩ := bx1.c6
  unfold akV
  have go : ((o : Int) != 0) = false := by simp; omega
  have g23 : ((f : Int) != 23) = true := by simp; omega
  have g1e : ((f : Int) == 1) = false := by simp; omega
  have g2e : ((f : Int) == 2) = false := by simp; omega
  have g3e : ((f : Int) == 3) = false := by simp; omega
  have g4e : ((f : Int) == 4) = false := by simp; omega
  have g5e : ((f : Int) == 5) = false := by simp; omega
  have g6e : ((f : Int) == 6) = false := by simp; omega
  have g15e : ((f : Int) == 15) = true := by simp; omega
  clear hf ho
  by_cases h0 : k = mn
  · have v0 : ((k : Int) == (mn : Int)) = true := by simp; omega
    have v0b : (k == mn) = true := by simp; omega
    have v0c : decide (k = mn) = true := by simp; omega
    by_cases h1 : n = 0
    · have v1 : ((n : Int) == 0) = true := by simp; omega
      by_cases h2 : 1 ≤ mn
      · have v2 : decide ((1 : Int) ≤ (mn : Int)) = true := by simp; omega
        by_cases h3 : mn ≤ 1968
        · have v3 : decide ((mn : Int) ≤ 1968) = true := by simp; omega
          have HV : Hid (rightN f mn o n k = true) := by (show _ = _); rw [HU.out]; simp; omega
          clear h0 h1 h2 h3
          go_enter Try.func25, Try.ntmps25
          go_wp2_with fail
          go_quiet (fail)
          clear d0 d1 d2 d3 d4 d5
          obtain ⟨d0, d1, d2, d3, d4, d5⟩ := (bx1.drewN nq).c6
          go_wp2_with fail
          go_ret
          exact ⟨ret_bool HV.out.symm, below_drewN HB.out _⟩
        · have v3 : decide ((mn : Int) ≤ 1968) = false := by simp; omega
          have HV : Hid (rightN f mn o n k = false) := by (show _ = _); rw [HU.out]; simp; omega
          clear h0 h1 h2 h3
          go_enter Try.func25, Try.ntmps25
          go_wp2_with fail
          go_quiet (fail)
          clear d0 d1 d2 d3 d4 d5
          obtain ⟨d0, d1, d2, d3, d4, d5⟩ := (bx1.drewN nq).c6
          go_wp2_with fail
          go_ret
          exact ⟨ret_bool HV.out.symm, below_drewN HB.out _⟩
      · have v2 : decide ((1 : Int) ≤ (mn : Int)) = false := by simp; omega
        have HV : Hid (rightN f mn o n k = false) := by (show _ = _); rw [HU.out]; simp; omega
        clear h0 h1 h2
        go_enter Try.func25, Try.ntmps25
        go_wp2_with fail
        go_quiet (fail)
        clear d0 d1 d2 d3 d4 d5
        obtain ⟨d0, d1, d2, d3, d4, d5⟩ := (bx1.drewN nq).c6
        go_wp2_with fail
        go_ret
        exact ⟨ret_bool HV.out.symm, below_drewN HB.out _⟩
    · have v1 : ((n : Int) == 0) = false := by simp; omega
      have HV : Hid (rightN f mn o n k = false) := by (show _ = _); rw [HU.out]; simp; omega
      clear h0 h1
      go_enter Try.func25, Try.ntmps25
      go_wp2_with fail
      go_quiet (fail)
      clear d0 d1 d2 d3 d4 d5
      obtain ⟨d0, d1, d2, d3, d4, d5⟩ := (bx1.drewN nq).c6
      go_wp2_with fail
      go_ret
      exact ⟨ret_bool HV.out.symm, below_drewN HB.out _⟩
  · have v0 : ((k : Int) == (mn : Int)) = false := by simp; omega
    have v0b : (k == mn) = false := by simp; omega
    have v0c : decide (k = mn) = false := by simp; omega
    have HV : Hid (rightN f mn o n k = false) := by (show _ = _); rw [HU.out]; simp; omega
    clear h0
    go_enter Try.func25, Try.ntmps25
    go_wp2_with fail
    go_quiet (fail)
    clear d0 d1 d2 d3 d4 d5
    obtain ⟨d0, d1, d2, d3, d4, d5⟩ := (bx1.drewN nq).c6
    go_wp2_with fail
    go_ret
    exact ⟨ret_bool HV.out.symm, below_drewN HB.out _⟩

set_option maxHeartbeats 4000000 in
theorem ref_Right16 (f t mn o : Nat) (A : Option Addr) (n c : Nat) (B : Option Addr) (k d : Nat) (w : World) (hmn : mn < 65536) (hn : n ≤ 1000000) (hk : k ≤ 1000000) (hf : f = 16) (ho : o = 0) :
    Calls Try.prog 25 #[akV f t mn o A n c B k d] w fun e w' => e = .returned (.bool (rightN f mn o n k)) ∧ Below w.heap.size w w' := by
  have HU : Hid (rightN f mn o n k = decide ( k = 0 ∧ n = mn ∧ 1 ≤ mn ∧ mn ≤ 123 )) := by (show _ = _); subst hf ho; rw [Bool.eq_iff_iff]; simp [rightN, isFn, shp, wtn]; omega
  have HB := Lib.hid ((Below.refl _ w).alloc (Nat.le_refl _) (.cells #[.int .u8 (f : Int), .int .u16 (t : Int), .int .u16 (mn : Int), .int .u16 (o : Int), .slice A n c, .slice B k d] 41))
  have bx1 := Blk.new w 41 #[.int .u8 (f : Int), .int .u16 (t : Int), .int .u16 (mn : Int), .int .u16 (o : Int), .slice A n c, .slice B k d]
  obtain ⟨d0, d1, d2, d3, d4, d5⟩ := bx1.c6
  unfold akV
  have go : ((o : Int) != 0) = false := by simp; omega
  have g23 : ((f : Int) != 23) = true := by simp; omega
  have g1e : ((f : Int) == 1) = false := by simp; omega
  have g2e : ((f : Int) == 2) = false := by simp; omega
  have g3e : ((f : Int) == 3) = false := by simp; omega
  have g4e : ((f : Int) == 4) = false := by simp; omega
  have g5e : ((f : Int) == 5) = false := by simp; omega
  have g6e : ((f : Int) == 6) = false := by simp; omega
  have g15e : ((f : Int) == 15) = false := by simp; omega
  have g16e : ((f : Int) == 16) = true := by simp; omega
  clear hf ho
  by_cases h0 : k = 0
  · have v0 : ((k : Int) == 0) = true := by simp; omega
    by_cases h1 : n = mn
    · have v1 : ((n : Int) == (mn : Int)) = true := by simp; omega
      have v1b : (n == mn) = true := by simp; omega
      have v1c : decide (n = mn) = true := by simp; omega
      by_cases h2 : 1 ≤ mn
      · have v2 : decide ((1 : Int) ≤ (mn : Int)) = true := by simp; omega
        by_cases h3 : mn ≤ 123
        · have v3 : decide ((mn : Int) ≤ 123) = true := by simp; omega
          have HV : Hid (rightN f mn o n k = true) := by (show _ = _); rw [HU.out]; simp; omega
          clear h0 h1 h2 h3
          go_enter Try.func25, Try.ntmps25
          go_wp2_with fail
          go_quiet (fail)
          clear d0 d1 d2 d3 d4 d5
          obtain ⟨d0, d1, d2, d3, d4, d5⟩ := (bx1.drewN nq).c6
          go_wp2_with fail
          go_ret
          exact ⟨ret_bool HV.out.symm, below_drewN HB.out _⟩
        · have v3 : decide ((mn : Int) ≤ 123) = false := by simp; omega
          have HV : Hid (rightN f mn o n k = false) := by (show _ = _); rw [HU.out]; simp; omega
          clear h0 h1 h2 h3
          go_enter Try.func25, Try.ntmps25
          go_wp2_with fail
          go_quiet (fail)
          clear d0 d1 d2 d3 d4 d5
          obtain ⟨d0, d1, d2, d3, d4, d5⟩ := (bx1.drewN nq).c6
          go_wp2_with fail
          go_ret
          exact ⟨ret_bool HV.out.symm, below_drewN HB.out _⟩
      · have v2 : decide ((1 : Int) ≤ (mn : Int)) = false := by simp; omega
        have HV : Hid (rightN f mn o n k = false) := by (show _ = _); rw [HU.out]; simp; omega
        clear h0 h1 h2
        go_enter Try.func25, Try.ntmps25
        go_wp2_with fail
        go_quiet (fail)
        clear d0 d1 d2 d3 d4 d5
        obtain ⟨d0, d1, d2, d3, d4, d5⟩ := (bx1.drewN nq).c6
        go_wp2_with fail
        go_ret
        exact ⟨ret_bool HV.out.symm, below_drewN HB.out _⟩
    · have v1 : ((n : Int) == (mn : Int)) = false := by simp; omega
      have v1b : (n == mn) = false := by simp; omega
      have v1c : decide (n = mn) = false := by simp; omega
      have HV : Hid (rightN f mn o n k = false) := by (show _ = _); rw [HU.out]; simp; omega
      clear h0 h1
      go_enter Try.func25, Try.ntmps25
      go_wp2_with fail
      go_quiet (fail)
      clear d0 d1 d2 d3 d4 d5
      obtain ⟨d0, d1, d2, d3, d4, d5⟩ := (bx1.drewN nq).c6
      go_wp2_with fail
      go_ret
      exact ⟨ret_bool HV.out.symm, below_drewN HB.out _⟩
  · have v0 : ((k : Int) == 0) = false := by simp; omega
    have HV : Hid (rightN f mn o n k = false) := by (show _ = _); rw [HU.out]; simp; omega
    clear h0
    go_enter Try.func25, Try.ntmps25
    go_wp2_with fail
    go_quiet (fail)
    clear d0 d1 d2 d3 d4 d5
    obtain ⟨d0, d1, d2, d3, d4, d5⟩ := (bx1.drewN nq).c6
    go_wp2_with fail
    go_ret
    exact ⟨ret_bool HV.out.symm, below_drewN HB.out _⟩

set_option maxHeartbeats 4000000 in
theorem ref_Right23 (f t mn o : Nat) (A : Option Addr) (n c : Nat) (B : Option Addr) (k d : Nat) (w : World) (hmn : mn < 65536) (hn : n ≤ 1000000) (hk : k ≤ 1000000) (hf : f = 23) :
    Calls Try.prog 25 #[akV f t mn o A n c B k d] w fun e w' => e = .returned (.bool (rightN f mn o n k)) ∧ Below w.heap.size w w' := by
  have HU : Hid (rightN f mn o n k = decide ( k = 0 ∧ 1 ≤ n ∧ n ≤ 121 ∧ 1 ≤ mn ∧ mn ≤ 125 )) := by (show _ = _); subst hf; rw [Bool.eq_iff_iff]; simp [rightN, isFn, shp, wtn]; omega
  have HB := Lib.hid ((Below.refl _ w).alloc (Nat.le_refl _) (.cells #[.int .u8 (f : Int), .int .u16 (t : Int), .int .u16 (mn : Int), .int .u16 (o : Int), .slice A n c, .slice B k d] 41))
  have bx1 := Blk.new w 41 #[.int .u8 (f : Int), .int .u16 (t : Int), .int .u16 (mn : Int), .int .u16 (o : Int), .slice A n c, .slice B k d]
  obtain ⟨d0, d1, d2, d3, d4, d5⟩ := bx1.c6
  unfold akV
  have g23 : ((f : Int) != 23) = false := by simp; omega
  have g1e : ((f : Int) == 1) = false := by simp; omega
  have g2e : ((f : Int) == 2) = false := by simp; omega
  have g3e : ((f : Int) == 3) = false := by simp; omega
  have g4e : ((f : Int) == 4) = false := by simp; omega
  have g5e : ((f : Int) == 5) = false := by simp; omega
  have g6e : ((f : Int) == 6) = false := by simp; omega
  have g15e : ((f : Int) == 15) = false := by simp; omega
  have g16e : ((f : Int) == 16) = false := by simp; omega
  have g23e : ((f : Int) == 23) = true := by simp; omega
  clear hf
  by_cases h0 : k = 0
  · have v0 : ((k : Int) == 0) = true := by simp; omega
    by_cases h1 : 1 ≤ n
    · have v1 : decide ((1 : Int) ≤ (n : Int)) = true := by simp; omega
      by_cases h2 : n ≤ 121
      · have v2 : decide ((n : Int) ≤ 121) = true := by simp; omega
        by_cases h3 : 1 ≤ mn
        · have v3 : decide ((1 : Int) ≤ (mn : Int)) = true := by simp; omega
          by_cases h4 : mn ≤ 125
          · have v4 : decide ((mn : Int) ≤ 125) = true := by simp; omega
            have HV : Hid (rightN f mn o n k = true) := by (show _ = _); rw [HU.out]; simp; omega
            clear h0 h1 h2 h3 h4
            go_enter Try.func25, Try.ntmps25
            go_wp2_with fail
            go_quiet (fail)
            clear d0 d1 d2 d3 d4 d5
            obtain ⟨d0, d1, d2, d3, d4, d5⟩ := (bx1.drewN nq).c6
            go_wp2_with fail
            go_ret
            exact ⟨ret_bool HV.out.symm, below_drewN HB.out _⟩
          · have v4 : decide ((mn : Int) ≤ 125) = false := by simp; omega
            have HV : Hid (rightN f mn o n k = false) := by (show _ = _); rw [HU.out]; simp; omega
            clear h0 h1 h2 h3 h4
            go_enter Try.func25, Try.ntmps25
            go_wp2_with fail
            go_quiet (fail)
            clear d0 d1 d2 d3 d4 d5
            obtain ⟨d0, d1, d2, d3, d4, d5⟩ := (bx1.drewN nq).c6
            go_wp2_with fail
            go_ret
            exact ⟨ret_bool HV.out.symm, below_drewN HB.out _⟩
        · have v3 : decide ((1 : Int) ≤ (mn : Int)) = false := by simp; omega
          have HV : Hid (rightN f mn o n k = false) := by (show _ = _); rw [HU.out]; simp; omega
          clear h0 h1 h2 h3
          go_enter Try.func25, Try.ntmps25
          go_wp2_with fail
          go_quiet (fail)
          clear d0 d1 d2 d3 d4 d5
          obtain ⟨d0, d1, d2, d3, d4, d5⟩ := (bx1.drewN nq).c6
          go_wp2_with fail
          go_ret
          exact ⟨ret_bool HV.out.symm, below_drewN HB.out _⟩
      · have v2 : decide ((n : Int) ≤ 121) = false := by simp; omega
        have HV : Hid (rightN f mn o n k = false) := by (show _ = _); rw [HU.out]; simp; omega
        clear h0 h1 h2
        go_enter Try.func25, Try.ntmps25
        go_wp2_with fail
        go_quiet (fail)
        clear d0 d1 d2 d3 d4 d5
        obtain ⟨d0, d1, d2, d3, d4, d5⟩ := (bx1.drewN nq).c6
        go_wp2_with fail
        go_ret
        exact ⟨ret_bool HV.out.symm, below_drewN HB.out _⟩
    · have v1 : decide ((1 : Int) ≤ (n : Int)) = false := by simp; omega
      have HV : Hid (rightN f mn o n k = false) := by (show _ = _); rw [HU.out]; simp; omega
      clear h0 h1
      go_enter Try.func25, Try.ntmps25
      go_wp2_with fail
      go_quiet (fail)
      clear d0 d1 d2 d3 d4 d5
      obtain ⟨d0, d1, d2, d3, d4, d5⟩ := (bx1.drewN nq).c6
      go_wp2_with fail
      go_ret
      exact ⟨ret_bool HV.out.symm, below_drewN HB.out _⟩
  · have v0 : ((k : Int) == 0) = false := by simp; omega
    have HV : Hid (rightN f mn o n k = false) := by (show _ = _); rw [HU.out]; simp; omega
    clear h0
    go_enter Try.func25, Try.ntmps25
    go_wp2_with fail
    go_quiet (fail)
    clear d0 d1 d2 d3 d4 d5
    obtain ⟨d0, d1, d2, d3, d4, d5⟩ := (bx1.drewN nq).c6
    go_wp2_with fail
    go_ret
    exact ⟨ret_bool HV.out.symm, below_drewN HB.out _⟩

set_option maxHeartbeats 1000000 in
theorem ref_Right_to (f t mn o : Nat) (A : Option Addr) (n c : Nat) (B : Option Addr) (k d : Nat) (w : World) (hmn : mn < 65536) (hn : n ≤ 1000000) (hk : k ≤ 1000000) (hf : f ≠ 23) (ho : o ≠ 0) :
    Calls Try.prog 25 #[akV f t mn o A n c B k d] w fun e w' => e = .returned (.bool (rightN f mn o n k)) ∧ Below w.heap.size w w' := by
  have HV : Hid (rightN f mn o n k = false) := by (show _ = _); unfold rightN; have h1 : decide (o = 0) = false := decide_eq_false ho; have h2 : (shp f).to_ = false := Bool.eq_false_iff.2 (fun h => hf (to_many h)); rw [h1, h2]; simp
  have HB := Lib.hid ((Below.refl _ w).alloc (Nat.le_refl _) (.cells #[.int .u8 (f : Int), .int .u16 (t : Int), .int .u16 (mn : Int), .int .u16 (o : Int), .slice A n c, .slice B k d] 41))
  have bx1 := Blk.new w 41 #[.int .u8 (f : Int), .int .u16 (t : Int), .int .u16 (mn : Int), .int .u16 (o : Int), .slice A n c, .slice B k d]
  obtain ⟨d0, d1, d2, d3, d4, d5⟩ := bx1.c6
  unfold akV
  have g23 : ((f : Int) != 23) = true := by simp; omega
  have go : ((o : Int) != 0) = true := by simp; omega
  clear hf ho
  go_enter Try.func25, Try.ntmps25
  go_wp2_with fail
  go_quiet (fail)
  clear d0 d1 d2 d3 d4 d5
  obtain ⟨d0, d1, d2, d3, d4, d5⟩ := (bx1.drewN nq).c6
  go_wp2_with fail
  go_ret
  exact ⟨ret_bool HV.out.symm, below_drewN HB.out _⟩

set_option maxHeartbeats 1000000 in
theorem ref_Right_none (f t mn o : Nat) (A : Option Addr) (n c : Nat) (B : Option Addr) (k d : Nat) (w : World) (hmn : mn < 65536) (hn : n ≤ 1000000) (hk : k ≤ 1000000) (hf : isFn f = false) (ho : o = 0) :
    Calls Try.prog 25 #[akV f t mn o A n c B k d] w fun e w' => e = .returned (.bool (rightN f mn o n k)) ∧ Below w.heap.size w w' := by
  have HV : Hid (rightN f mn o n k = false) := by (show _ = _); unfold rightN; rw [hf]; simp
  have hf2 : f ≠ 1 ∧ f ≠ 2 ∧ f ≠ 3 ∧ f ≠ 4 ∧ f ≠ 5 ∧ f ≠ 6 ∧ f ≠ 15 ∧ f ≠ 16 ∧ f ≠ 23 := by unfold isFn at hf; rw [decide_eq_false_iff_not] at hf; omega
  have HB := Lib.hid ((Below.refl _ w).alloc (Nat.le_refl _) (.cells #[.int .u8 (f : Int), .int .u16 (t : Int), .int .u16 (mn : Int), .int .u16 (o : Int), .slice A n c, .slice B k d] 41))
  have bx1 := Blk.new w 41 #[.int .u8 (f : Int), .int .u16 (t : Int), .int .u16 (mn : Int), .int .u16 (o : Int), .slice A n c, .slice B k d]
  obtain ⟨d0, d1, d2, d3, d4, d5⟩ := bx1.c6
  unfold akV
  have go : ((o : Int) != 0) = false := by simp; omega
  have g23 : ((f : Int) != 23) = true := by simp; omega
  have g1e : ((f : Int) == 1) = false := by simp; omega
  have g2e : ((f : Int) == 2) = false := by simp; omega
  have g3e : ((f : Int) == 3) = false := by simp; omega
  have g4e : ((f : Int) == 4) = false := by simp; omega
  have g5e : ((f : Int) == 5) = false := by simp; omega
  have g6e : ((f : Int) == 6) = false := by simp; omega
  have g15e : ((f : Int) == 15) = false := by simp; omega
  have g16e : ((f : Int) == 16) = false := by simp; omega
  have g23e : ((f : Int) == 23) = false := by simp; omega
  clear hf hf2 ho
  go_enter Try.func25, Try.ntmps25
  go_wp2_with fail
  go_quiet (fail)
  clear d0 d1 d2 d3 d4 d5
  obtain ⟨d0, d1, d2, d3, d4, d5⟩ := (bx1.drewN nq).c6
  go_wp2_with fail
  go_ret
  exact ⟨ret_bool HV.out.symm, below_drewN HB.out _⟩

theorem ref_Right (f t mn o : Nat) (A : Option Addr) (n c : Nat) (B : Option Addr) (k d : Nat) (w : World) (hmn : mn < 65536) (hn : n ≤ 1000000) (hk : k ≤ 1000000) :
    Calls Try.prog 25 #[akV f t mn o A n c B k d] w fun e w' => e = .returned (.bool (rightN f mn o n k)) ∧ Below w.heap.size w w' := by
  by_cases hf : isFn f = true
  · have hf2 := hf
    unfold isFn at hf2
    rw [decide_eq_true_iff] at hf2
    by_cases ho : o = 0
    · rcases hf2 with h | h | h | h | h | h | h | h | h
      · exact ref_Right1 f t mn o A n c B k d w hmn hn hk h ho
      · exact ref_Right2 f t mn o A n c B k d w hmn hn hk h ho
      · exact ref_Right3 f t mn o A n c B k d w hmn hn hk h ho
      · exact ref_Right4 f t mn o A n c B k d w hmn hn hk h ho
      · exact ref_Right5 f t mn o A n c B k d w hmn hn hk h ho
      · exact ref_Right6 f t mn o A n c B k d w hmn hn hk h ho
      · exact ref_Right15 f t mn o A n c B k d w hmn hn hk h ho
      · exact ref_Right16 f t mn o A n c B k d w hmn hn hk h ho
      · exact ref_Right23 f t mn o A n c B k d w hmn hn hk h
    · by_cases h : f = 23
      · exact ref_Right23 f t mn o A n c B k d w hmn hn hk h
      · exact ref_Right_to f t mn o A n c B k d w hmn hn hk h ho
  · have hf := Bool.eq_false_iff.2 hf
    by_cases ho : o = 0
    · exact ref_Right_none f t mn o A n c B k d w hmn hn hk hf ho
    · exact ref_Right_to f t mn o A n c B k d w hmn hn hk (by intro e; subst e; exact absurd hf (by decide)) ho
end Go.Proofs.Ytechhidfgheejaa
