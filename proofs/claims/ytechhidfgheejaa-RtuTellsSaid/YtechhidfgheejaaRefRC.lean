/- The reference of chapter 3: Right (written by gen_rrefb.py). -/
import Derived.Test.YtechhidfgheejaaRefRB
import Derived.Test.YtechhidfgheejaaRefA
namespace Go.Proofs.Ytechhidfgheejaa
open Go.RowKit
set_option linter.unusedSimpArgs false
set_option linter.unusedVariables false

set_option maxHeartbeats 4000000 in
theorem rref_Right_3 (f x : Nat) (B : Option Addr) (k d : Nat) (A : Option Addr) (n c : Nat) (t m : Nat) (w : World) (hn : n ≤ 1000000) (hk : k ≤ 1000000) (hf : f = 3) (hx : x = 0) :
    Calls Try.prog 44 #[rpV f x B k d A n c t m] w fun e w' => e = .returned (.bool (rightRN f x k n t m)) ∧ Below w.heap.size w w' := by
  have HU0 : Hid (rightRN f x k n t m = decide ( k = 0 ∧ 1 ≤ n ∧ n ≤ 125 ∧ t = 0 ∧ m = 0 )) := by (show _ = _); subst hf hx; simp [rightRN]
  have HU := HU0
  clear HU0
  have HB := Lib.hid ((Below.refl _ w).alloc (Nat.le_refl _) (.cells #[.int .u8 (f : Int), .int .u8 (x : Int), .slice B k d, .slice A n c, .int .u16 (t : Int), .int .u16 (m : Int)] 36))
  have bx1 := Blk.new w 36 #[.int .u8 (f : Int), .int .u8 (x : Int), .slice B k d, .slice A n c, .int .u16 (t : Int), .int .u16 (m : Int)]
  obtain ⟨d0, d1, d2, d3, d4, d5⟩ := bx1.c6
  unfold rpV
  have gx : ((x : Int) != 0) = false := by simp; omega
  have g1e : ((f : Int) == 1) = false := by simp; omega
  have g2e : ((f : Int) == 2) = false := by simp; omega
  have g3e : ((f : Int) == 3) = true := by simp; omega
  clear hf hx
  by_cases h0 : k = 0
  · have v0 : ((k : Int) == 0) = true := by simp; omega
    by_cases h1 : 1 ≤ n
    · have v1 : decide ((1 : Int) ≤ (n : Int)) = true := by simp; omega
      by_cases h2 : n ≤ 125
      · have v2 : decide ((n : Int) ≤ 125) = true := by simp; omega
        by_cases h3 : t = 0
        · have v3 : ((t : Int) == 0) = true := by simp; omega
          by_cases h4 : m = 0
          · have v4 : ((m : Int) == 0) = true := by simp; omega
            have HV : Hid (rightRN f x k n t m = true) := by (show _ = _); rw [HU.out]; simp; omega
            clear h0 h1 h2 h3 h4
            go_enter Try.func44, Try.ntmps44
            go_wp2_with fail
            go_quiet (fail)
            clear d0 d1 d2 d3 d4 d5
            obtain ⟨d0, d1, d2, d3, d4, d5⟩ := (bx1.drewN nq).c6
            go_wp2_with fail
            go_ret
            exact ⟨ret_bool HV.out.symm, below_drewN HB.out _⟩
          · have v4 : ((m : Int) == 0) = false := by simp; omega
            have HV : Hid (rightRN f x k n t m = false) := by (show _ = _); rw [HU.out]; simp; omega
            clear h0 h1 h2 h3 h4
            go_enter Try.func44, Try.ntmps44
            go_wp2_with fail
            go_quiet (fail)
            clear d0 d1 d2 d3 d4 d5
            obtain ⟨d0, d1, d2, d3, d4, d5⟩ := (bx1.drewN nq).c6
            go_wp2_with fail
            go_ret
            exact ⟨ret_bool HV.out.symm, below_drewN HB.out _⟩
        · have v3 : ((t : Int) == 0) = false := by simp; omega
          have HV : Hid (rightRN f x k n t m = false) := by (show _ = _); rw [HU.out]; simp; omega
          clear h0 h1 h2 h3
          go_enter Try.func44, Try.ntmps44
          go_wp2_with fail
          go_quiet (fail)
          clear d0 d1 d2 d3 d4 d5
          obtain ⟨d0, d1, d2, d3, d4, d5⟩ := (bx1.drewN nq).c6
          go_wp2_with fail
          go_ret
          exact ⟨ret_bool HV.out.symm, below_drewN HB.out _⟩
      · have v2 : decide ((n : Int) ≤ 125) = false := by simp; omega
        have HV : Hid (rightRN f x k n t m = false) := by (show _ = _); rw [HU.out]; simp; omega
        clear h0 h1 h2
        go_enter Try.func44, Try.ntmps44
        go_wp2_with fail
        go_quiet (fail)
        clear d0 d1 d2 d3 d4 d5
        obtain ⟨d0, d1, d2, d3, d4, d5⟩ := (bx1.drewN nq).c6
        go_wp2_with fail
        go_ret
        exact ⟨ret_bool HV.out.symm, below_drewN HB.out _⟩
    · have v1 : decide ((1 : Int) ≤ (n : Int)) = false := by simp; omega
      have HV : Hid (rightRN f x k n t m = false) := by (show _ = _); rw [HU.out]; simp; omega
      clear h0 h1
      go_enter Try.func44, Try.ntmps44
      go_wp2_with fail
      go_quiet (fail)
      clear d0 d1 d2 d3 d4 d5
      obtain ⟨d0, d1, d2, d3, d4, d5⟩ := (bx1.drewN nq).c6
      go_wp2_with fail
      go_ret
      exact ⟨ret_bool HV.out.symm, below_drewN HB.out _⟩
  · have v0 : ((k : Int) == 0) = false := by simp; omega
    have HV : Hid (rightRN f x k n t m = false) := by (show _ = _); rw [HU.out]; simp; omega
    clear h0
    go_enter Try.func44, Try.ntmps44
    go_wp2_with fail
    go_quiet (fail)
    clear d0 d1 d2 d3 d4 d5
    obtain ⟨d0, d1, d2, d3, d4, d5⟩ := (bx1.drewN nq).c6
    go_wp2_with fail
    go_ret
    exact ⟨ret_bool HV.out.symm, below_drewN HB.out _⟩

set_option maxHeartbeats 4000000 in
theorem rref_Right_4 (f x : Nat) (B : Option Addr) (k d : Nat) (A : Option Addr) (n c : Nat) (t m : Nat) (w : World) (hn : n ≤ 1000000) (hk : k ≤ 1000000) (hf : f = 4) (hx : x = 0) :
    Calls Try.prog 44 #[rpV f x B k d A n c t m] w fun e w' => e = .returned (.bool (rightRN f x k n t m)) ∧ Below w.heap.size w w' := by
  have HU0 : Hid (rightRN f x k n t m = decide ( k = 0 ∧ 1 ≤ n ∧ n ≤ 125 ∧ t = 0 ∧ m = 0 )) := by (show _ = _); subst hf hx; simp [rightRN]
  have HU := HU0
  clear HU0
  have HB := Lib.hid ((Below.refl _ w).alloc (Nat.le_refl _) (.cells #[.int .u8 (f : Int), .int .u8 (x : Int), .slice B k d, .slice A n c, .int .u16 (t : Int), .int .u16 (m : Int)] 36))
  have bx1 := Blk.new w 36 #[.int .u8 (f : Int), .int .u8 (x : Int), .slice B k d, .slice A n c, .int .u16 (t : Int), .int .u16 (m : Int)]
  obtain ⟨d0, d1, d2, d3, d4, d5⟩ := bx1.c6
  unfold rpV
  have gx : ((x : Int) != 0) = false := by simp; omega
  have g1e : ((f : Int) == 1) = false := by simp; omega
  have g2e : ((f : Int) == 2) = false := by simp; omega
  have g3e : ((f : Int) == 3) = false := by simp; omega
  have g4e : ((f : Int) == 4) = true := by simp; omega
  clear hf hx
  by_cases h0 : k = 0
  · have v0 : ((k : Int) == 0) = true := by simp; omega
    by_cases h1 : 1 ≤ n
    · have v1 : decide ((1 : Int) ≤ (n : Int)) = true := by simp; omega
      by_cases h2 : n ≤ 125
      · have v2 : decide ((n : Int) ≤ 125) = true := by simp; omega
        by_cases h3 : t = 0
        · have v3 : ((t : Int) == 0) = true := by simp; omega
          by_cases h4 : m = 0
          · have v4 : ((m : Int) == 0) = true := by simp; omega
            have HV : Hid (rightRN f x k n t m = true) := by (show _ = _); rw [HU.out]; simp; omega
            clear h0 h1 h2 h3 h4
            go_enter Try.func44, Try.ntmps44
            go_wp2_with fail
            go_quiet (fail)
            clear d0 d1 d2 d3 d4 d5
            obtain ⟨d0, d1, d2, d3, d4, d5⟩ := (bx1.drewN nq).c6
            go_wp2_with fail
            go_ret
            exact ⟨ret_bool HV.out.symm, below_drewN HB.out _⟩
          · have v4 : ((m : Int) == 0) = false := by simp; omega
            have HV : Hid (rightRN f x k n t m = false) := by (show _ = _); rw [HU.out]; simp; omega
            clear h0 h1 h2 h3 h4
            go_enter Try.func44, Try.ntmps44
            go_wp2_with fail
            go_quiet (fail)
            clear d0 d1 d2 d3 d4 d5
            obtain ⟨d0, d1, d2, d3, d4, d5⟩ := (bx1.drewN nq).c6
            go_wp2_with fail
            go_ret
            exact ⟨ret_bool HV.out.symm, below_drewN HB.out _⟩
        · have v3 : ((t : Int) == 0) = false := by simp; omega
          have HV : Hid (rightRN f x k n t m = false) := by (show _ = _); rw [HU.out]; simp; omega
          clear h0 h1 h2 h3
          go_enter Try.func44, Try.ntmps44
          go_wp2_with fail
          go_quiet (fail)
          clear d0 d1 d2 d3 d4 d5
          obtain ⟨d0, d1, d2, d3, d4, d5⟩ := (bx1.drewN nq).c6
          go_wp2_with fail
          go_ret
          exact ⟨ret_bool HV.out.symm, below_drewN HB.out _⟩
      · have v2 : decide ((n : Int) ≤ 125) = false := by simp; omega
        have HV : Hid (rightRN f x k n t m = false) := by (show _ = _); rw [HU.out]; simp; omega
        clear h0 h1 h2
        go_enter Try.func44, Try.ntmps44
        go_wp2_with fail
        go_quiet (fail)
        clear d0 d1 d2 d3 d4 d5
        obtain ⟨d0, d1, d2, d3, d4, d5⟩ := (bx1.drewN nq).c6
        go_wp2_with fail
        go_ret
        exact ⟨ret_bool HV.out.symm, below_drewN HB.out _⟩
    · have v1 : decide ((1 : Int) ≤ (n : Int)) = false := by simp; omega
      have HV : Hid (rightRN f x k n t m = false) := by (show _ = _); rw [HU.out]; simp; omega
      clear h0 h1
      go_enter Try.func44, Try.ntmps44
      go_wp2_with fail
      go_quiet (fail)
      clear d0 d1 d2 d3 d4 d5
      obtain ⟨d0, d1, d2, d3, d4, d5⟩ := (bx1.drewN nq).c6
      go_wp2_with fail
      go_ret
      exact ⟨ret_bool HV.out.symm, below_drewN HB.out _⟩
  · have v0 : ((k : Int) == 0) = false := by simp; omega
    have HV : Hid (rightRN f x k n t m = false) := by (show _ = _); rw [HU.out]; simp; omega
    clear h0
    go_enter Try.func44, Try.ntmps44
    go_wp2_with fail
    go_quiet (fail)
    clear d0 d1 d2 d3 d4 d5
    obtain ⟨d0, d1, d2, d3, d4, d5⟩ := (bx1.drewN nq).c6
    go_wp2_with fail
    go_ret
    exact ⟨ret_bool HV.out.symm, below_drewN HB.out _⟩

set_option maxHeartbeats 4000000 in
theorem rref_Right_23 (f x : Nat) (B : Option Addr) (k d : Nat) (A : Option Addr) (n c : Nat) (t m : Nat) (w : World) (hn : n ≤ 1000000) (hk : k ≤ 1000000) (hf : f = 23) (hx : x = 0) :
    Calls Try.prog 44 #[rpV f x B k d A n c t m] w fun e w' => e = .returned (.bool (rightRN f x k n t m)) ∧ Below w.heap.size w w' := by
  have HU0 : Hid (rightRN f x k n t m = decide ( k = 0 ∧ 1 ≤ n ∧ n ≤ 125 ∧ t = 0 ∧ m = 0 )) := by (show _ = _); subst hf hx; simp [rightRN]
  have HU := HU0
  clear HU0
  have HB := Lib.hid ((Below.refl _ w).alloc (Nat.le_refl _) (.cells #[.int .u8 (f : Int), .int .u8 (x : Int), .slice B k d, .slice A n c, .int .u16 (t : Int), .int .u16 (m : Int)] 36))
  have bx1 := Blk.new w 36 #[.int .u8 (f : Int), .int .u8 (x : Int), .slice B k d, .slice A n c, .int .u16 (t : Int), .int .u16 (m : Int)]
  obtain ⟨d0, d1, d2, d3, d4, d5⟩ := bx1.c6
  unfold rpV
  have gx : ((x : Int) != 0) = false := by simp; omega
  have g1e : ((f : Int) == 1) = false := by simp; omega
  have g2e : ((f : Int) == 2) = false := by simp; omega
  have g3e : ((f : Int) == 3) = false := by simp; omega
  have g4e : ((f : Int) == 4) = false := by simp; omega
  have g23e : ((f : Int) == 23) = true := by simp; omega
  clear hf hx
  by_cases h0 : k = 0
  · have v0 : ((k : Int) == 0) = true := by simp; omega
    by_cases h1 : 1 ≤ n
    · have v1 : decide ((1 : Int) ≤ (n : Int)) = true := by simp; omega
      by_cases h2 : n ≤ 125
      · have v2 : decide ((n : Int) ≤ 125) = true := by simp; omega
        by_cases h3 : t = 0
        · have v3 : ((t : Int) == 0) = true := by simp; omega
          by_cases h4 : m = 0
          · have v4 : ((m : Int) == 0) = true := by simp; omega
            have HV : Hid (rightRN f x k n t m = true) := by (show _ = _); rw [HU.out]; simp; omega
            clear h0 h1 h2 h3 h4
            go_enter Try.func44, Try.ntmps44
            go_wp2_with fail
            go_quiet (fail)
            clear d0 d1 d2 d3 d4 d5
            obtain ⟨d0, d1, d2, d3, d4, d5⟩ := (bx1.drewN nq).c6
            go_wp2_with fail
            go_ret
            exact ⟨ret_bool HV.out.symm, below_drewN HB.out _⟩
          · have v4 : ((m : Int) == 0) = false := by simp; omega
            have HV : Hid (rightRN f x k n t m = false) := by (show _ = _); rw [HU.out]; simp; omega
            clear h0 h1 h2 h3 h4
            go_enter Try.func44, Try.ntmps44
            go_wp2_with fail
            go_quiet (fail)
            clear d0 d1 d2 d3 d4 d5
            obtain ⟨d0, d1, d2, d3, d4, d5⟩ := (bx1.drewN nq).c6
            go_wp2_with fail
            go_ret
            exact ⟨ret_bool HV.out.symm, below_drewN HB.out _⟩
        · have v3 : ((t : Int) == 0) = false := by simp; omega
          have HV : Hid (rightRN f x k n t m = false) := by (show _ = _); rw [HU.out]; simp; omega
          clear h0 h1 h2 h3
          go_enter Try.func44, Try.ntmps44
          go_wp2_with fail
          go_quiet (fail)
          clear d0 d1 d2 d3 d4 d5
          obtain ⟨d0, d1, d2, d3, d4, d5⟩ := (bx1.drewN nq).c6
          go_wp2_with fail
          go_ret
          exact ⟨ret_bool HV.out.symm, below_drewN HB.out _⟩
      · have v2 : decide ((n : Int) ≤ 125) = false := by simp; omega
        have HV : Hid (rightRN f x k n t m = false) := by (show _ = _); rw [HU.out]; simp; omega
        clear h0 h1 h2
        go_enter Try.func44, Try.ntmps44
        go_wp2_with fail
        go_quiet (fail)
        clear d0 d1 d2 d3 d4 d5
        obtain ⟨d0, d1, d2, d3, d4, d5⟩ := (bx1.drewN nq).c6
        go_wp2_with fail
        go_ret
        exact ⟨ret_bool HV.out.symm, below_drewN HB.out _⟩
    · have v1 : decide ((1 : Int) ≤ (n : Int)) = false := by simp; omega
      have HV : Hid (rightRN f x k n t m = false) := by (show _ = _); rw [HU.out]; simp; omega
      clear h0 h1
      go_enter Try.func44, Try.ntmps44
      go_wp2_with fail
      go_quiet (fail)
      clear d0 d1 d2 d3 d4 d5
      obtain ⟨d0, d1, d2, d3, d4, d5⟩ := (bx1.drewN nq).c6
      go_wp2_with fail
      go_ret
      exact ⟨ret_bool HV.out.symm, below_drewN HB.out _⟩
  · have v0 : ((k : Int) == 0) = false := by simp; omega
    have HV : Hid (rightRN f x k n t m = false) := by (show _ = _); rw [HU.out]; simp; omega
    clear h0
    go_enter Try.func44, Try.ntmps44
    go_wp2_with fail
    go_quiet (fail)
    clear d0 d1 d2 d3 d4 d5
    obtain ⟨d0, d1, d2, d3, d4, d5⟩ := (bx1.drewN nq).c6
    go_wp2_with fail
    go_ret
    exact ⟨ret_bool HV.out.symm, below_drewN HB.out _⟩

set_option maxHeartbeats 4000000 in
theorem rref_Right_5 (f x : Nat) (B : Option Addr) (k d : Nat) (A : Option Addr) (n c : Nat) (t m : Nat) (w : World) (hn : n ≤ 1000000) (hk : k ≤ 1000000) (hf : f = 5) (hx : x = 0) :
    Calls Try.prog 44 #[rpV f x B k d A n c t m] w fun e w' => e = .returned (.bool (rightRN f x k n t m)) ∧ Below w.heap.size w w' := by
  have HU0 : Hid (rightRN f x k n t m = decide ( k = 1 ∧ n = 0 ∧ m = 0 )) := by (show _ = _); subst hf hx; simp [rightRN]
  have HU := HU0
  clear HU0
  have HB := Lib.hid ((Below.refl _ w).alloc (Nat.le_refl _) (.cells #[.int .u8 (f : Int), .int .u8 (x : Int), .slice B k d, .slice A n c, .int .u16 (t : Int), .int .u16 (m : Int)] 36))
  have bx1 := Blk.new w 36 #[.int .u8 (f : Int), .int .u8 (x : Int), .slice B k d, .slice A n c, .int .u16 (t : Int), .int .u16 (m : Int)]
  obtain ⟨d0, d1, d2, d3, d4, d5⟩ := bx1.c6
  unfold rpV
  have gx : ((x : Int) != 0) = false := by simp; omega
  have g1e : ((f : Int) == 1) = false := by simp; omega
  have g2e : ((f : Int) == 2) = false := by simp; omega
  have g3e : ((f : Int) == 3) = false := by simp; omega
  have g4e : ((f : Int) == 4) = false := by simp; omega
  have g23e : ((f : Int) == 23) = false := by simp; omega
  have g5e : ((f : Int) == 5) = true := by simp; omega
  clear hf hx
  by_cases h0 : k = 1
  · have v0 : ((k : Int) == 1) = true := by simp; omega
    by_cases h1 : n = 0
    · have v1 : ((n : Int) == 0) = true := by simp; omega
      by_cases h2 : m = 0
      · have v2 : ((m : Int) == 0) = true := by simp; omega
        have HV : Hid (rightRN f x k n t m = true) := by (show _ = _); rw [HU.out]; simp; omega
        clear h0 h1 h2
        go_enter Try.func44, Try.ntmps44
        go_wp2_with fail
        go_quiet (fail)
        clear d0 d1 d2 d3 d4 d5
        obtain ⟨d0, d1, d2, d3, d4, d5⟩ := (bx1.drewN nq).c6
        go_wp2_with fail
        go_ret
        exact ⟨ret_bool HV.out.symm, below_drewN HB.out _⟩
      · have v2 : ((m : Int) == 0) = false := by simp; omega
        have HV : Hid (rightRN f x k n t m = false) := by (show _ = _); rw [HU.out]; simp; omega
        clear h0 h1 h2
        go_enter Try.func44, Try.ntmps44
        go_wp2_with fail
        go_quiet (fail)
        clear d0 d1 d2 d3 d4 d5
        obtain ⟨d0, d1, d2, d3, d4, d5⟩ := (bx1.drewN nq).c6
        go_wp2_with fail
        go_ret
        exact ⟨ret_bool HV.out.symm, below_drewN HB.out _⟩
    · have v1 : ((n : Int) == 0) = false := by simp; omega
      have HV : Hid (rightRN f x k n t m = false) := by (show _ = _); rw [HU.out]; simp; omega
      clear h0 h1
      go_enter Try.func44, Try.ntmps44
      go_wp2_with fail
      go_quiet (fail)
      clear d0 d1 d2 d3 d4 d5
      obtain ⟨d0, d1, d2, d3, d4, d5⟩ := (bx1.drewN nq).c6
      go_wp2_with fail
      go_ret
      exact ⟨ret_bool HV.out.symm, below_drewN HB.out _⟩
  · have v0 : ((k : Int) == 1) = false := by simp; omega
    have HV : Hid (rightRN f x k n t m = false) := by (show _ = _); rw [HU.out]; simp; omega
    clear h0
    go_enter Try.func44, Try.ntmps44
    go_wp2_with fail
    go_quiet (fail)
    clear d0 d1 d2 d3 d4 d5
    obtain ⟨d0, d1, d2, d3, d4, d5⟩ := (bx1.drewN nq).c6
    go_wp2_with fail
    go_ret
    exact ⟨ret_bool HV.out.symm, below_drewN HB.out _⟩

set_option maxHeartbeats 4000000 in
theorem rref_Right_6 (f x : Nat) (B : Option Addr) (k d : Nat) (A : Option Addr) (n c : Nat) (t m : Nat) (w : World) (hn : n ≤ 1000000) (hk : k ≤ 1000000) (hf : f = 6) (hx : x = 0) :
    Calls Try.prog 44 #[rpV f x B k d A n c t m] w fun e w' => e = .returned (.bool (rightRN f x k n t m)) ∧ Below w.heap.size w w' := by
  have HU0 : Hid (rightRN f x k n t m = decide ( k = 0 ∧ n = 1 ∧ m = 0 )) := by (show _ = _); subst hf hx; simp [rightRN]
  have HU := HU0
  clear HU0
  have HB := Lib.hid ((Below.refl _ w).alloc (Nat.le_refl _) (.cells #[.int .u8 (f : Int), .int .u8 (x : Int), .slice B k d, .slice A n c, .int .u16 (t : Int), .int .u16 (m : Int)] 36))
  have bx1 := Blk.new w 36 #[.int .u8 (f : Int), .int .u8 (x : Int), .slice B k d, .slice A n c, .int .u16 (t : Int), .int .u16 (m : Int)]
  obtain ⟨d0, d1, d2, d3, d4, d5⟩ := bx1.c6
  unfold rpV
  have gx : ((x : Int) != 0) = false := by simp; omega
  have g1e : ((f : Int) == 1) = false := by simp; omega
  have g2e : ((f : Int) == 2) = false := by simp; omega
  have g3e : ((f : Int) == 3) = false := by simp; omega
  have g4e : ((f : Int) == 4) = false := by simp; omega
  have g23e : ((f : Int) == 23) = false := by simp; omega
  have g5e : ((f : Int) == 5) = false := by simp; omega
  have g6e : ((f : Int) == 6) = true := by simp; omega
  clear hf hx
  by_cases h0 : k = 0
  · have v0 : ((k : Int) == 0) = true := by simp; omega
    by_cases h1 : n = 1
    · have v1 : ((n : Int) == 1) = true := by simp; omega
      by_cases h2 : m = 0
      · have v2 : ((m : Int) == 0) = true := by simp; omega
        have HV : Hid (rightRN f x k n t m = true) := by (show _ = _); rw [HU.out]; simp; omega
        clear h0 h1 h2
        go_enter Try.func44, Try.ntmps44
        go_wp2_with fail
        go_quiet (fail)
        clear d0 d1 d2 d3 d4 d5
        obtain ⟨d0, d1, d2, d3, d4, d5⟩ := (bx1.drewN nq).c6
        go_wp2_with fail
        go_ret
        exact ⟨ret_bool HV.out.symm, below_drewN HB.out _⟩
      · have v2 : ((m : Int) == 0) = false := by simp; omega
        have HV : Hid (rightRN f x k n t m = false) := by (show _ = _); rw [HU.out]; simp; omega
        clear h0 h1 h2
        go_enter Try.func44, Try.ntmps44
        go_wp2_with fail
        go_quiet (fail)
        clear d0 d1 d2 d3 d4 d5
        obtain ⟨d0, d1, d2, d3, d4, d5⟩ := (bx1.drewN nq).c6
        go_wp2_with fail
        go_ret
        exact ⟨ret_bool HV.out.symm, below_drewN HB.out _⟩
    · have v1 : ((n : Int) == 1) = false := by simp; omega
      have HV : Hid (rightRN f x k n t m = false) := by (show _ = _); rw [HU.out]; simp; omega
      clear h0 h1
      go_enter Try.func44, Try.ntmps44
      go_wp2_with fail
      go_quiet (fail)
      clear d0 d1 d2 d3 d4 d5
      obtain ⟨d0, d1, d2, d3, d4, d5⟩ := (bx1.drewN nq).c6
      go_wp2_with fail
      go_ret
      exact ⟨ret_bool HV.out.symm, below_drewN HB.out _⟩
  · have v0 : ((k : Int) == 0) = false := by simp; omega
    have HV : Hid (rightRN f x k n t m = false) := by (show _ = _); rw [HU.out]; simp; omega
    clear h0
    go_enter Try.func44, Try.ntmps44
    go_wp2_with fail
    go_quiet (fail)
    clear d0 d1 d2 d3 d4 d5
    obtain ⟨d0, d1, d2, d3, d4, d5⟩ := (bx1.drewN nq).c6
    go_wp2_with fail
    go_ret
    exact ⟨ret_bool HV.out.symm, below_drewN HB.out _⟩

set_option maxHeartbeats 4000000 in
theorem rref_Right_15 (f x : Nat) (B : Option Addr) (k d : Nat) (A : Option Addr) (n c : Nat) (t m : Nat) (w : World) (hn : n ≤ 1000000) (hk : k ≤ 1000000) (hf : f = 15) (hx : x = 0) :
    Calls Try.prog 44 #[rpV f x B k d A n c t m] w fun e w' => e = .returned (.bool (rightRN f x k n t m)) ∧ Below w.heap.size w w' := by
  have HU0 : Hid (rightRN f x k n t m = decide ( k = 0 ∧ n = 0 ∧ 1 ≤ m ∧ m ≤ 1968 )) := by (show _ = _); subst hf hx; simp [rightRN]
  have HU := HU0
  clear HU0
  have HB := Lib.hid ((Below.refl _ w).alloc (Nat.le_refl _) (.cells #[.int .u8 (f : Int), .int .u8 (x : Int), .slice B k d, .slice A n c, .int .u16 (t : Int), .int .u16 (m : Int)] 36))
  have bx1 := Blk.new w 36 #[.int .u8 (f : Int), .int .u8 (x : Int), .slice B k d, .slice A n c, .int .u16 (t : Int), .int .u16 (m : Int)]
  obtain ⟨d0, d1, d2, d3, d4, d5⟩ := bx1.c6
  unfold rpV
  have gx : ((x : Int) != 0) = false := by simp; omega
  have g1e : ((f : Int) == 1) = false := by simp; omega
  have g2e : ((f : Int) == 2) = false := by simp; omega
  have g3e : ((f : Int) == 3) = false := by simp; omega
  have g4e : ((f : Int) == 4) = false := by simp; omega
  have g23e : ((f : Int) == 23) = false := by simp; omega
  have g5e : ((f : Int) == 5) = false := by simp; omega
  have g6e : ((f : Int) == 6) = false := by simp; omega
  have g15e : ((f : Int) == 15) = true := by simp; omega
  clear hf hx
  by_cases h0 : k = 0
  · have v0 : ((k : Int) == 0) = true := by simp; omega
    by_cases h1 : n = 0
    · have v1 : ((n : Int) == 0) = true := by simp; omega
      by_cases h2 : 1 ≤ m
      · have v2 : decide ((1 : Int) ≤ (m : Int)) = true := by simp; omega
        by_cases h3 : m ≤ 1968
        · have v3 : decide ((m : Int) ≤ 1968) = true := by simp; omega
          have HV : Hid (rightRN f x k n t m = true) := by (show _ = _); rw [HU.out]; simp; omega
          clear h0 h1 h2 h3
          go_enter Try.func44, Try.ntmps44
          go_wp2_with fail
          go_quiet (fail)
          clear d0 d1 d2 d3 d4 d5
          obtain ⟨d0, d1, d2, d3, d4, d5⟩ := (bx1.drewN nq).c6
          go_wp2_with fail
          go_ret
          exact ⟨ret_bool HV.out.symm, below_drewN HB.out _⟩
        · have v3 : decide ((m : Int) ≤ 1968) = false := by simp; omega
          have HV : Hid (rightRN f x k n t m = false) := by (show _ = _); rw [HU.out]; simp; omega
          clear h0 h1 h2 h3
          go_enter Try.func44, Try.ntmps44
          go_wp2_with fail
          go_quiet (fail)
          clear d0 d1 d2 d3 d4 d5
          obtain ⟨d0, d1, d2, d3, d4, d5⟩ := (bx1.drewN nq).c6
          go_wp2_with fail
          go_ret
          exact ⟨ret_bool HV.out.symm, below_drewN HB.out _⟩
      · have v2 : decide ((1 : Int) ≤ (m : Int)) = false := by simp; omega
        have HV : Hid (rightRN f x k n t m = false) := by (show _ = _); rw [HU.out]; simp; omega
        clear h0 h1 h2
        go_enter Try.func44, Try.ntmps44
        go_wp2_with fail
        go_quiet (fail)
        clear d0 d1 d2 d3 d4 d5
        obtain ⟨d0, d1, d2, d3, d4, d5⟩ := (bx1.drewN nq).c6
        go_wp2_with fail
        go_ret
        exact ⟨ret_bool HV.out.symm, below_drewN HB.out _⟩
    · have v1 : ((n : Int) == 0) = false := by simp; omega
      have HV : Hid (rightRN f x k n t m = false) := by (show _ = _); rw [HU.out]; simp; omega
      clear h0 h1
      go_enter Try.func44, Try.ntmps44
      go_wp2_with fail
      go_quiet (fail)
      clear d0 d1 d2 d3 d4 d5
      obtain ⟨d0, d1, d2, d3, d4, d5⟩ := (bx1.drewN nq).c6
      go_wp2_with fail
      go_ret
      exact ⟨ret_bool HV.out.symm, below_drewN HB.out _⟩
  · have v0 : ((k : Int) == 0) = false := by simp; omega
    have HV : Hid (rightRN f x k n t m = false) := by (show _ = _); rw [HU.out]; simp; omega
    clear h0
    go_enter Try.func44, Try.ntmps44
    go_wp2_with fail
    go_quiet (fail)
    clear d0 d1 d2 d3 d4 d5
    obtain ⟨d0, d1, d2, d3, d4, d5⟩ := (bx1.drewN nq).c6
    go_wp2_with fail
    go_ret
    exact ⟨ret_bool HV.out.symm, below_drewN HB.out _⟩

set_option maxHeartbeats 4000000 in
theorem rref_Right_16 (f x : Nat) (B : Option Addr) (k d : Nat) (A : Option Addr) (n c : Nat) (t m : Nat) (w : World) (hn : n ≤ 1000000) (hk : k ≤ 1000000) (hf : f = 16) (hx : x = 0) :
    Calls Try.prog 44 #[rpV f x B k d A n c t m] w fun e w' => e = .returned (.bool (rightRN f x k n t m)) ∧ Below w.heap.size w w' := by
  have HU0 : Hid (rightRN f x k n t m = decide ( k = 0 ∧ n = 0 ∧ 1 ≤ m ∧ m ≤ 123 )) := by (show _ = _); subst hf hx; simp [rightRN]
  have HU := HU0
  clear HU0
  have HB := Lib.hid ((Below.refl _ w).alloc (Nat.le_refl _) (.cells #[.int .u8 (f : Int), .int .u8 (x : Int), .slice B k d, .slice A n c, .int .u16 (t : Int), .int .u16 (m : Int)] 36))
  have bx1 := Blk.new w 36 #[.int .u8 (f : Int), .int .u8 (x : Int), .slice B k d, .slice A n c, .int .u16 (t : Int), .int .u16 (m : Int)]
  obtain ⟨d0, d1, d2, d3, d4, d5⟩ := bx1.c6
  unfold rpV
  have gx : ((x : Int) != 0) = false := by simp; omega
  have g1e : ((f : Int) == 1) = false := by simp; omega
  have g2e : ((f : Int) == 2) = false := by simp; omega
  have g3e : ((f : Int) == 3) = false := by simp; omega
  have g4e : ((f : Int) == 4) = false := by simp; omega
  have g23e : ((f : Int) == 23) = false := by simp; omega
  have g5e : ((f : Int) == 5) = false := by simp; omega
  have g6e : ((f : Int) == 6) = false := by simp; omega
  have g15e : ((f : Int) == 15) = false := by simp; omega
  have g16e : ((f : Int) == 16) = true := by simp; omega
  clear hf hx
  by_cases h0 : k = 0
  · have v0 : ((k : Int) == 0) = true := by simp; omega
    by_cases h1 : n = 0
    · have v1 : ((n : Int) == 0) = true := by simp; omega
      by_cases h2 : 1 ≤ m
      · have v2 : decide ((1 : Int) ≤ (m : Int)) = true := by simp; omega
        by_cases h3 : m ≤ 123
        · have v3 : decide ((m : Int) ≤ 123) = true := by simp; omega
          have HV : Hid (rightRN f x k n t m = true) := by (show _ = _); rw [HU.out]; simp; omega
          clear h0 h1 h2 h3
          go_enter Try.func44, Try.ntmps44
          go_wp2_with fail
          go_quiet (fail)
          clear d0 d1 d2 d3 d4 d5
          obtain ⟨d0, d1, d2, d3, d4, d5⟩ := (bx1.drewN nq).c6
          go_wp2_with fail
          go_ret
          exact ⟨ret_bool HV.out.symm, below_drewN HB.out _⟩
        · have v3 : decide ((m : Int) ≤ 123) = false := by simp; omega
          have HV : Hid (rightRN f x k n t m = false) := by (show _ = _); rw [HU.out]; simp; omega
          clear h0 h1 h2 h3
          go_enter Try.func44, Try.ntmps44
          go_wp2_with fail
          go_quiet (fail)
          clear d0 d1 d2 d3 d4 d5
          obtain ⟨d0, d1, d2, d3, d4, d5⟩ := (bx1.drewN nq).c6
          go_wp2_with fail
          go_ret
          exact ⟨ret_bool HV.out.symm, below_drewN HB.out _⟩
      · have v2 : decide ((1 : Int) ≤ (m : Int)) = false := by simp; omega
        have HV : Hid (rightRN f x k n t m = false) := by (show _ = _); rw [HU.out]; simp; omega
        clear h0 h1 h2
        go_enter Try.func44, Try.ntmps44
        go_wp2_with fail
        go_quiet (fail)
        clear d0 d1 d2 d3 d4 d5
        obtain ⟨d0, d1, d2, d3, d4, d5⟩ := (bx1.drewN nq).c6
        go_wp2_with fail
        go_ret
        exact ⟨ret_bool HV.out.symm, below_drewN HB.out _⟩
    · have v1 : ((n : Int) == 0) = false := by simp; omega
      have HV : Hid (rightRN f x k n t m = false) := by (show _ = _); rw [HU.out]; simp; omega
      clear h0 h1
      go_enter Try.func44, Try.ntmps44
      go_wp2_with fail
      go_quiet (fail)
      clear d0 d1 d2 d3 d4 d5
      obtain ⟨d0, d1, d2, d3, d4, d5⟩ := (bx1.drewN nq).c6
      go_wp2_with fail
      go_ret
      exact ⟨ret_bool HV.out.symm, below_drewN HB.out _⟩
  · have v0 : ((k : Int) == 0) = false := by simp; omega
    have HV : Hid (rightRN f x k n t m = false) := by (show _ = _); rw [HU.out]; simp; omega
    clear h0
    go_enter Try.func44, Try.ntmps44
    go_wp2_with fail
    go_quiet (fail)
    clear d0 d1 d2 d3 d4 d5
    obtain ⟨d0, d1, d2, d3, d4, d5⟩ := (bx1.drewN nq).c6
    go_wp2_with fail
    go_ret
    exact ⟨ret_bool HV.out.symm, below_drewN HB.out _⟩

set_option maxHeartbeats 1000000 in
theorem rref_Right_none (f x : Nat) (B : Option Addr) (k d : Nat) (A : Option Addr) (n c : Nat) (t m : Nat) (w : World) (hn : n ≤ 1000000) (hk : k ≤ 1000000) (hf : findK f = none) (hx : x = 0) :
    Calls Try.prog 44 #[rpV f x B k d A n c t m] w fun e w' => e = .returned (.bool (rightRN f x k n t m)) ∧ Below w.heap.size w w' := by
  have hf2 : f ≠ 1 ∧ f ≠ 2 ∧ f ≠ 3 ∧ f ≠ 4 ∧ f ≠ 5 ∧ f ≠ 6 ∧ f ≠ 15 ∧ f ≠ 16 ∧ f ≠ 23 := by refine ⟨?_, ?_, ?_, ?_, ?_, ?_, ?_, ?_, ?_⟩ <;> (intro e; subst e; revert hf; decide)
  have HV : Hid (rightRN f x k n t m = false) := by (show _ = _); obtain ⟨a1, a2, a3, a4, a5, a6, a7, a8, a9⟩ := hf2; subst hx; simp [rightRN, a1, a2, a3, a4, a5, a6, a7, a8, a9]
  have HB := Lib.hid ((Below.refl _ w).alloc (Nat.le_refl _) (.cells #[.int .u8 (f : Int), .int .u8 (x : Int), .slice B k d, .slice A n c, .int .u16 (t : Int), .int .u16 (m : Int)] 36))
  have bx1 := Blk.new w 36 #[.int .u8 (f : Int), .int .u8 (x : Int), .slice B k d, .slice A n c, .int .u16 (t : Int), .int .u16 (m : Int)]
  obtain ⟨d0, d1, d2, d3, d4, d5⟩ := bx1.c6
  unfold rpV
  have gx : ((x : Int) != 0) = false := by simp; omega
  have g1e : ((f : Int) == 1) = false := by simp; omega
  have g2e : ((f : Int) == 2) = false := by simp; omega
  have g3e : ((f : Int) == 3) = false := by simp; omega
  have g4e : ((f : Int) == 4) = false := by simp; omega
  have g23e : ((f : Int) == 23) = false := by simp; omega
  have g5e : ((f : Int) == 5) = false := by simp; omega
  have g6e : ((f : Int) == 6) = false := by simp; omega
  have g15e : ((f : Int) == 15) = false := by simp; omega
  have g16e : ((f : Int) == 16) = false := by simp; omega
  clear hf hf2 hx
  go_enter Try.func44, Try.ntmps44
  go_wp2_with fail
  go_quiet (fail)
  clear d0 d1 d2 d3 d4 d5
  obtain ⟨d0, d1, d2, d3, d4, d5⟩ := (bx1.drewN nq).c6
  go_wp2_with fail
  go_ret
  exact ⟨ret_bool HV.out.symm, below_drewN HB.out _⟩

theorem rref_RightN (f x : Nat) (B : Option Addr) (k d : Nat) (A : Option Addr) (n c : Nat) (t m : Nat) (w : World) (hn : n ≤ 1000000) (hk : k ≤ 1000000) :
    Calls Try.prog 44 #[rpV f x B k d A n c t m] w fun e w' => e = .returned (.bool (rightRN f x k n t m)) ∧ Below w.heap.size w w' := by
  by_cases hx : x = 0
  · by_cases hf : findK f = none
    · exact rref_Right_none f x B k d A n c t m w hn hk hf hx
    · have h9 : f = 1 ∨ f = 2 ∨ f = 3 ∨ f = 4 ∨ f = 23 ∨ f = 5 ∨ f = 6 ∨ f = 15 ∨ f = 16 := by
        by_cases h1 : f = 1 ∨ f = 2
        · omega
        by_cases h2 : f = 3 ∨ f = 4 ∨ f = 23
        · omega
        by_cases h3 : f = 5
        · omega
        by_cases h4 : f = 6
        · omega
        by_cases h5 : f = 15
        · omega
        by_cases h6 : f = 16
        · omega
        exact absurd (by unfold findK; rw [if_neg h1, if_neg h2, if_neg h3, if_neg h4, if_neg h5, if_neg h6]) hf
      rcases h9 with h | h | h | h | h | h | h | h | h
      · exact rref_Right_1 f x B k d A n c t m w hn hk h hx
      · exact rref_Right_2 f x B k d A n c t m w hn hk h hx
      · exact rref_Right_3 f x B k d A n c t m w hn hk h hx
      · exact rref_Right_4 f x B k d A n c t m w hn hk h hx
      · exact rref_Right_23 f x B k d A n c t m w hn hk h hx
      · exact rref_Right_5 f x B k d A n c t m w hn hk h hx
      · exact rref_Right_6 f x B k d A n c t m w hn hk h hx
      · exact rref_Right_15 f x B k d A n c t m w hn hk h hx
      · exact rref_Right_16 f x B k d A n c t m w hn hk h hx
  · exact rref_Right_ex f x B k d A n c t m w hn hk hx
theorem rref_Right (r : Rp) (A : Option Addr) (c : Nat) (B : Option Addr) (d : Nat) (w : World) (hw : r.words.length ≤ 1000000) (hk : r.bits.length ≤ 1000000) :
    Calls Try.prog 44 #[r.v A c B d] w fun e w' => e = .returned (.bool (rightR r)) ∧ Below w.heap.size w w' := by
  rw [rightR_N]
  exact rref_RightN r.fn r.ex B r.bits.length d A r.words.length c r.at_ r.many w hw hk
end Go.Proofs.Ytechhidfgheejaa
