/- The reference of chapter 3: Right (written by gen_rrefb.py). -/
import Derived.Test.YtechhidfgheejaaRpA
import Derived.Test.YtechhidfgheejaaRefA
namespace Go.Proofs.Ytechhidfgheejaa
open Go.RowKit
set_option linter.unusedSimpArgs false
set_option linter.unusedVariables false

/-- which replies are right, by the lengths of their rows -/
def rightRN (f x k n t m : Nat) : Bool :=
  if x ≠ 0 then decide (f ≤ 127 ∧ x ≤ 4 ∧ k = 0 ∧ n = 0 ∧ t = 0 ∧ m = 0)
  else if f = 1 ∨ f = 2 then decide (8 ≤ k ∧ k ≤ 2000 ∧ k % 8 = 0 ∧ n = 0 ∧ t = 0 ∧ m = 0)
  else if f = 3 ∨ f = 4 ∨ f = 23 then decide (k = 0 ∧ 1 ≤ n ∧ n ≤ 125 ∧ t = 0 ∧ m = 0)
  else if f = 5 then decide (k = 1 ∧ n = 0 ∧ m = 0)
  else if f = 6 then decide (k = 0 ∧ n = 1 ∧ m = 0)
  else if f = 15 then decide (k = 0 ∧ n = 0 ∧ 1 ≤ m ∧ m ≤ 1968)
  else if f = 16 then decide (k = 0 ∧ n = 0 ∧ 1 ≤ m ∧ m ≤ 123)
  else false
theorem rightR_N (r : Rp) : rightR r = rightRN r.fn r.ex r.bits.length r.words.length r.at_ r.many := by
  obtain ⟨f, x, b, l, t, m⟩ := r
  unfold rightR kindR rightRN findK
  simp only
  by_cases hx : x = 0
  · subst hx
    simp only [ne_eq, not_true_eq_false, if_false]
    by_cases h1 : f = 1 ∨ f = 2
    · simp only [if_pos h1]
      rw [Bool.eq_iff_iff]
      simp only [rightK, Bool.and_eq_true, decide_eq_true_eq, sameR_iff, Rp.mk.injEq, List.length_eq_zero_iff, true_and, and_true]
      constructor
      · rintro ⟨⟨⟨a1, a2⟩, a3⟩, a4, a5, a6⟩; exact ⟨a1, a2, a3, a4, a5, a6⟩
      · rintro ⟨a1, a2, a3, a4, a5, a6⟩; exact ⟨⟨⟨a1, a2⟩, a3⟩, a4, a5, a6⟩
    simp only [if_neg h1]
    by_cases h2 : f = 3 ∨ f = 4 ∨ f = 23
    · simp only [if_pos h2]
      rw [Bool.eq_iff_iff]
      simp only [rightK, Bool.and_eq_true, decide_eq_true_eq, sameR_iff, Rp.mk.injEq, List.length_eq_zero_iff, true_and, and_true]
      constructor
      · rintro ⟨⟨a1, a2⟩, a3, a4, a5⟩; exact ⟨a3, a1, a2, a4, a5⟩
      · rintro ⟨a3, a1, a2, a4, a5⟩; exact ⟨⟨a1, a2⟩, a3, a4, a5⟩
    simp only [if_neg h2]
    by_cases h3 : f = 5
    · simp only [if_pos h3]
      rw [Bool.eq_iff_iff]
      simp only [rightK, Bool.and_eq_true, decide_eq_true_eq, sameR_iff, Rp.mk.injEq, List.length_eq_zero_iff, true_and, and_true]
    simp only [if_neg h3]
    by_cases h4 : f = 6
    · simp only [if_pos h4]
      rw [Bool.eq_iff_iff]
      simp only [rightK, Bool.and_eq_true, decide_eq_true_eq, sameR_iff, Rp.mk.injEq, List.length_eq_zero_iff, true_and, and_true]
      constructor
      · rintro ⟨a1, a2, a3⟩; exact ⟨a2, a1, a3⟩
      · rintro ⟨a2, a1, a3⟩; exact ⟨a1, a2, a3⟩
    simp only [if_neg h4]
    by_cases h5 : f = 15
    · simp only [if_pos h5]
      rw [Bool.eq_iff_iff]
      simp only [rightK, Bool.and_eq_true, decide_eq_true_eq, sameR_iff, Rp.mk.injEq, List.length_eq_zero_iff, true_and, and_true]
      constructor
      · rintro ⟨⟨a1, a2⟩, a3, a4⟩; exact ⟨a3, a4, a1, a2⟩
      · rintro ⟨a3, a4, a1, a2⟩; exact ⟨⟨a1, a2⟩, a3, a4⟩
    simp only [if_neg h5]
    by_cases h6 : f = 16
    · simp only [if_pos h6]
      rw [Bool.eq_iff_iff]
      simp only [rightK, Bool.and_eq_true, decide_eq_true_eq, sameR_iff, Rp.mk.injEq, List.length_eq_zero_iff, true_and, and_true]
      constructor
      · rintro ⟨⟨a1, a2⟩, a3, a4⟩; exact ⟨a3, a4, a1, a2⟩
      · rintro ⟨a3, a4, a1, a2⟩; exact ⟨⟨a1, a2⟩, a3, a4⟩
    simp only [if_neg h6]
  · simp only [ne_eq, hx, not_false_eq_true, if_true]
    rw [Bool.eq_iff_iff]
    simp only [rightK, Bool.and_eq_true, decide_eq_true_eq, sameR_iff, wrongR, Rp.mk.injEq, List.length_eq_zero_iff, true_and, and_true]
    constructor
    · rintro ⟨⟨⟨a1, a2⟩, a3⟩, -, a4, a5, a6, a7⟩; exact ⟨by omega, a3, a4, a5, a6, a7⟩
    · rintro ⟨a1, a3, a4, a5, a6, a7⟩; exact ⟨⟨⟨by omega, by omega⟩, a3⟩, by omega, a4, a5, a6, a7⟩

set_option maxHeartbeats 4000000 in
theorem rref_Right_ex (f x : Nat) (B : Option Addr) (k d : Nat) (A : Option Addr) (n c : Nat) (t m : Nat) (w : World) (hn : n ≤ 1000000) (hk : k ≤ 1000000) (hx : x ≠ 0) :
    Calls Try.prog 44 #[rpV f x B k d A n c t m] w fun e w' => e = .returned (.bool (rightRN f x k n t m)) ∧ Below w.heap.size w w' := by
  have HU0 : Hid (rightRN f x k n t m = decide ( f ≤ 127 ∧ x ≤ 4 ∧ k = 0 ∧ n = 0 ∧ t = 0 ∧ m = 0 )) := by (show _ = _); unfold rightRN; rw [if_pos hx]
  have HU := HU0
  clear HU0
  have HB := Lib.hid ((Below.refl _ w).alloc (Nat.le_refl _) (.cells #[.int .u8 (f : Int), .int .u8 (x : Int), .slice B k d, .slice A n c, .int .u16 (t : Int), .int .u16 (m : Int)] 36))
  have bx1 := Blk.new w 36 #[.int .u8 (f : Int), .int .u8 (x : Int), .slice B k d, .slice A n c, .int .u16 (t : Int), .int .u16 (m : Int)]
  obtain ⟨d0, d1, d2, d3, d4, d5⟩ := bx1.c6
  unfold rpV
  have gx : ((x : Int) != 0) = true := by simp; omega
  clear hx
  by_cases h0 : f ≤ 127
  · have v0 : decide ((f : Int) ≤ 127) = true := by simp; omega
    by_cases h1 : x ≤ 4
    · have v1 : decide ((x : Int) ≤ 4) = true := by simp; omega
      by_cases h2 : k = 0
      · have v2 : ((k : Int) == 0) = true := by simp; omega
        by_cases h3 : n = 0
        · have v3 : ((n : Int) == 0) = true := by simp; omega
          by_cases h4 : t = 0
          · have v4 : ((t : Int) == 0) = true := by simp; omega
            by_cases h5 : m = 0
            · have v5 : ((m : Int) == 0) = true := by simp; omega
              have HV : Hid (rightRN f x k n t m = true) := by (show _ = _); rw [HU.out]; simp; omega
              clear h0 h1 h2 h3 h4 h5
              go_enter Try.func44, Try.ntmps44
              go_wp2_with fail
              go_quiet (fail)
              clear d0 d1 d2 d3 d4 d5
              obtain ⟨d0, d1, d2, d3, d4, d5⟩ := (bx1.drewN nq).c6
              go_wp2_with fail
              go_ret
              exact ⟨ret_bool HV.out.symm, below_drewN HB.out _⟩
            · have v5 : ((m : Int) == 0) = false := by simp; omega
              have HV : Hid (rightRN f x k n t m = false) := by (show _ = _); rw [HU.out]; simp; omega
              clear h0 h1 h2 h3 h4 h5
              go_enter Try.func44, Try.ntmps44
              go_wp2_with fail
              go_quiet (fail)
              clear d0 d1 d2 d3 d4 d5
              obtain ⟨d0, d1, d2, d3, d4, d5⟩ := (bx1.drewN nq).c6
              go_wp2_with fail
              go_ret
              exact ⟨ret_bool HV.out.symm, below_drewN HB.out _⟩
          · have v4 : ((t : Int) == 0) = false := by simp; omega
            have HV : Hid (rightRN f x k n t m = false) := by (show _ = _); rw [HU.out]; simp; omega
            clear h0 h1 h2 h3 h4
            go_enter Try.func44, Try.ntmps44
            go_wp2_with fail
            go_quiet (fail)
            clear d0 d1 d2 d3 d4 d5
            obtain ⟨d0, d1, d2, d3, d4, d5⟩ := (bx1.drewN nq).c6
            go_wp2_with fail
            go_ret
            exact ⟨ret_bool HV.out.symm, below_drewN HB.out _⟩
        · have v3 : ((n : Int) == 0) = false := by simp; omega
          have HV : Hid (rightRN f x k n t m = false) := by (show _ = _); rw [HU.out]; simp; omega
          clear h0 h1 h2 h3
          go_enter Try.func44, Try.ntmps44
          go_wp2_with fail
          go_quiet (fail)
          clear d0 d1 d2 d3 d4 d5
          obtain ⟨d0, d1, d2, d3, d4, d5⟩ := (bx1.drewN nq).c6
          go_wp2_with fail
          go_ret
          exact ⟨ret_bool HV.out.symm, below_drewN HB.out _⟩
      · have v2 : ((k : Int) == 0) = false := by simp; omega
        have HV : Hid (rightRN f x k n t m = false) := by (show _ = _); rw [HU.out]; simp; omega
        clear h0 h1 h2
        go_enter Try.func44, Try.ntmps44
        go_wp2_with fail
        go_quiet (fail)
        clear d0 d1 d2 d3 d4 d5
        obtain ⟨d0, d1, d2, d3, d4, d5⟩ := (bx1.drewN nq).c6
        go_wp2_with fail
        go_ret
        exact ⟨ret_bool HV.out.symm, below_drewN HB.out _⟩
    · have v1 : decide ((x : Int) ≤ 4) = false := by simp; omega
      have HV : Hid (rightRN f x k n t m = false) := by (show _ = _); rw [HU.out]; simp; omega
      clear h0 h1
      go_enter Try.func44, Try.ntmps44
      go_wp2_with fail
      go_quiet (fail)
      clear d0 d1 d2 d3 d4 d5
      obtain ⟨d0, d1, d2, d3, d4, d5⟩ := (bx1.drewN nq).c6
      go_wp2_with fail
      go_ret
      exact ⟨ret_bool HV.out.symm, below_drewN HB.out _⟩
  · have v0 : decide ((f : Int) ≤ 127) = false := by simp; omega
    have HV : Hid (rightRN f x k n t m = false) := by (show _ = _); rw [HU.out]; simp; omega
    clear h0
    go_enter Try.func44, Try.ntmps44
    go_wp2_with fail
    go_quiet (fail)
    clear d0 d1 d2 d3 d4 d5
    obtain ⟨d0, d1, d2, d3, d4, d5⟩ := (bx1.drewN nq).c6
    go_wp2_with fail
    go_ret
    exact ⟨ret_bool HV.out.symm, below_drewN HB.out _⟩

set_option maxHeartbeats 4000000 in
theorem rref_Right_1 (f x : Nat) (B : Option Addr) (k d : Nat) (A : Option Addr) (n c : Nat) (t m : Nat) (w : World) (hn : n ≤ 1000000) (hk : k ≤ 1000000) (hf : f = 1) (hx : x = 0) :
    Calls Try.prog 44 #[rpV f x B k d A n c t m] w fun e w' => e = .returned (.bool (rightRN f x k n t m)) ∧ Below w.heap.size w w' := by
  have HU0 : Hid (rightRN f x k n t m = decide ( 8 ≤ k ∧ k ≤ 2000 ∧ k % 8 = 0 ∧ n = 0 ∧ t = 0 ∧ m = 0 )) := by (show _ = _); subst hf hx; simp [rightRN]
  obtain ⟨q, hq⟩ : ∃ q, k % 8 = q := ⟨_, rfl⟩
  have eq1 : (k : Int) % 8 = (q : Int) := by omega
  have eq2 : (k : Int).tmod 8 = (q : Int) := by rw [Int.tmod_eq_emod_of_nonneg (by omega)]; exact eq1
  have HU := HU0
  rw [hq] at HU
  clear hq
  clear HU0
  have HB := Lib.hid ((Below.refl _ w).alloc (Nat.le_refl _) (.cells #[.int .u8 (f : Int), .int .u8 (x : Int), .slice B k d, .slice A n c, .int .u16 (t : Int), .int .u16 (m : Int)] 36))
  have bx1 := Blk.new w 36 #[.int .u8 (f : Int), .int .u8 (x : Int), .slice B k d, .slice A n c, .int .u16 (t : Int), .int .u16 (m : Int)]
  obtain ⟨d0, d1, d2, d3, d4, d5⟩ := bx1.c6
  unfold rpV
  have gx : ((x : Int) != 0) = false := by simp; omega
  have g1e : ((f : Int) == 1) = true := by simp; omega
  clear hf hx
  by_cases h0 : 8 ≤ k
  · have v0 : decide ((8 : Int) ≤ (k : Int)) = true := by simp; omega
    by_cases h1 : k ≤ 2000
    · have v1 : decide ((k : Int) ≤ 2000) = true := by simp; omega
      by_cases h2 : q = 0
      · have v2 : ((q : Int) == 0) = true := by simp; omega
        by_cases h3 : n = 0
        · have v3 : ((n : Int) == 0) = true := by simp; omega
          by_cases h4 : t = 0
          · have v4 : ((t : Int) == 0) = true := by simp; omega
            by_cases h5 : m = 0
            · have v5 : ((m : Int) == 0) = true := by simp; omega
              have HV : Hid (rightRN f x k n t m = true) := by (show _ = _); rw [HU.out]; simp; omega
              clear h0 h1 h2 h3 h4 h5
              go_enter Try.func44, Try.ntmps44
              go_wp2_with fail
              go_quiet (fail)
              clear d0 d1 d2 d3 d4 d5
              obtain ⟨d0, d1, d2, d3, d4, d5⟩ := (bx1.drewN nq).c6
              go_wp2_with fail
              go_ret
              exact ⟨ret_bool HV.out.symm, below_drewN HB.out _⟩
            · have v5 : ((m : Int) == 0) = false := by simp; omega
              have HV : Hid (rightRN f x k n t m = false) := by (show _ = _); rw [HU.out]; simp; omega
              clear h0 h1 h2 h3 h4 h5
              go_enter Try.func44, Try.ntmps44
              go_wp2_with fail
              go_quiet (fail)
              clear d0 d1 d2 d3 d4 d5
              obtain ⟨d0, d1, d2, d3, d4, d5⟩ := (bx1.drewN nq).c6
              go_wp2_with fail
              go_ret
              exact ⟨ret_bool HV.out.symm, below_drewN HB.out _⟩
          · have v4 : ((t : Int) == 0) = false := by simp; omega
            have HV : Hid (rightRN f x k n t m = false) := by (show _ = _); rw [HU.out]; simp; omega
            clear h0 h1 h2 h3 h4
            go_enter Try.func44, Try.ntmps44
            go_wp2_with fail
            go_quiet (fail)
            clear d0 d1 d2 d3 d4 d5
            obtain ⟨d0, d1, d2, d3, d4, d5⟩ := (bx1.drewN nq).c6
            go_wp2_with fail
            go_ret
            exact ⟨ret_bool HV.out.symm, below_drewN HB.out _⟩
        · have v3 : ((n : Int) == 0) = false := by simp; omega
          have HV : Hid (rightRN f x k n t m = false) := by (show _ = _); rw [HU.out]; simp; omega
          clear h0 h1 h2 h3
          go_enter Try.func44, Try.ntmps44
          go_wp2_with fail
          go_quiet (fail)
          clear d0 d1 d2 d3 d4 d5
          obtain ⟨d0, d1, d2, d3, d4, d5⟩ := (bx1.drewN nq).c6
          go_wp2_with fail
          go_ret
          exact ⟨ret_bool HV.out.symm, below_drewN HB.out _⟩
      · have v2 : ((q : Int) == 0) = false := by simp; omega
        have HV : Hid (rightRN f x k n t m = false) := by (show _ = _); rw [HU.out]; simp; omega
        clear h0 h1 h2
        go_enter Try.func44, Try.ntmps44
        go_wp2_with fail
        go_quiet (fail)
        clear d0 d1 d2 d3 d4 d5
        obtain ⟨d0, d1, d2, d3, d4, d5⟩ := (bx1.drewN nq).c6
        go_wp2_with fail
        go_ret
        exact ⟨ret_bool HV.out.symm, below_drewN HB.out _⟩
    · have v1 : decide ((k : Int) ≤ 2000) = false := by simp; omega
      have HV : Hid (rightRN f x k n t m = false) := by (show _ = _); rw [HU.out]; simp; omega
      clear h0 h1
      go_enter Try.func44, Try.ntmps44
      go_wp2_with fail
      go_quiet (fail)
      clear d0 d1 d2 d3 d4 d5
      obtain ⟨d0, d1, d2, d3, d4, d5⟩ := (bx1.drewN nq).c6
      go_wp2_with fail
      go_ret
      exact ⟨ret_bool HV.out.symm, below_drewN HB.out _⟩
  · have v0 : decide ((8 : Int) ≤ (k : Int)) = false := by simp; omega
    have HV : Hid (rightRN f x k n t m = false) := by (show _ = _); rw [HU.out]; simp; omega
    clear h0
    go_enter Try.func44, Try.ntmps44
    go_wp2_with fail
    go_quiet (fail)
    clear d0 d1 d2 d3 d4 d5
    obtain ⟨d0, d1, d2, d3, d4, d5⟩ := (bx1.drewN nq).c6
    go_wp2_with fail
    go_ret
    exact ⟨ret_bool HV.out.symm, below_drewN HB.out _⟩

set_option maxHeartbeats 4000000 in
theorem rref_Right_2 (f x : Nat) (B : Option Addr) (k d : Nat) (A : Option Addr) (n c : Nat) (t m : Nat) (w : World) (hn : n ≤ 1000000) (hk : k ≤ 1000000) (hf : f = 2) (hx : x = 0) :
    Calls Try.prog 44 #[rpV f x B k d A n c t m] w fun e w' => e = .returned (.bool (rightRN f x k n t m)) ∧ Below w.heap.size w w' := by
  have HU0 : Hid (rightRN f x k n t m = decide ( 8 ≤ k ∧ k ≤ 2000 ∧ k % 8 = 0 ∧ n = 0 ∧ t = 0 ∧ m = 0 )) := by (show _ = _); subst hf hx; simp [rightRN]
  obtain ⟨q, hq⟩ : ∃ q, k % 8 = q := ⟨_, rfl⟩
  have eq1 : (k : Int) % 8 = (q : Int) := by omega
  have eq2 : (k : Int).tmod 8 = (q : Int) := by rw [Int.tmod_eq_emod_of_nonneg (by omega)]; exact eq1
  have HU := HU0
  rw [hq] at HU
  clear hq
  clear HU0
  have HB := Lib.hid ((Below.refl _ w).alloc (Nat.le_refl _) (.cells #[.int .u8 (f : Int), .int .u8 (x : Int), .slice B k d, .slice A n c, .int .u16 (t : Int), .int .u16 (m : Int)] 36))
  have bx1 := Blk.new w 36 #[.int .u8 (f : Int), .int .u8 (x : Int), .slice B k d, .slice A n c, .int .u16 (t : Int), .int .u16 (m : Int)]
  obtain ⟨d0, d1, d2, d3, d4, d5⟩ := bx1.c6
  unfold rpV
  have gx : ((x : Int) != 0) = false := by simp; omega
  have g1e : ((f : Int) == 1) = false := by simp; omega
  have g2e : ((f : Int) == 2) = true := by simp; omega
  clear hf hx
  by_cases h0 : 8 ≤ k
  · have v0 : decide ((8 : Int) ≤ (k : Int)) = true := by simp; omega
    by_cases h1 : k ≤ 2000
    · have v1 : decide ((k : Int) ≤ 2000) = true := by simp; omega
      by_cases h2 : q = 0
      · have v2 : ((q : Int) == 0) = true := by simp; omega
        by_cases h3 : n = 0
        · have v3 : ((n : Int) == 0) = true := by simp; omega
          by_cases h4 : t = 0
          · have v4 : ((t : Int) == 0) = true := by simp; omega
            by_cases h5 : m = 0
            · have v5 : ((m : Int) == 0) = true := by simp; omega
              have HV : Hid (rightRN f x k n t m = true) := by (show _ = _); rw [HU.out]; simp; omega
              clear h0 h1 h2 h3 h4 h5
              go_enter Try.func44, Try.ntmps44
              go_wp2_with fail
              go_quiet (fail)
              clear d0 d1 d2 d3 d4 d5
              obtain ⟨d0, d1, d2, d3, d4, d5⟩ := (bx1.drewN nq).c6
              go_wp2_with fail
              go_ret
              exact ⟨ret_bool HV.out.symm, below_drewN HB.out _⟩
            · have v5 : ((m : Int) == 0) = false := by simp; omega
              have HV : Hid (rightRN f x k n t m = false) := by (show _ = _); rw [HU.out]; simp; omega
              clear h0 h1 h2 h3 h4 h5
              go_enter Try.func44, Try.ntmps44
              go_wp2_with fail
              go_quiet (fail)
              clear d0 d1 d2 d3 d4 d5
              obtain ⟨d0, d1, d2, d3, d4, d5⟩ := (bx1.drewN nq).c6
              go_wp2_with fail
              go_ret
              exact ⟨ret_bool HV.out.symm, below_drewN HB.out _⟩
          · have v4 : ((t : Int) == 0) = false := by simp; omega
            have HV : Hid (rightRN f x k n t m = false) := by (show _ = _); rw [HU.out]; simp; omega
            clear h0 h1 h2 h3 h4
            go_enter Try.func44, Try.ntmps44
            go_wp2_with fail
            go_quiet (fail)
            clear d0 d1 d2 d3 d4 d5
            obtain ⟨d0, d1, d2, d3, d4, d5⟩ := (bx1.drewN nq).c6
            go_wp2_with fail
            go_ret
            exact ⟨ret_bool HV.out.symm, below_drewN HB.out _⟩
        · have v3 : ((n : Int) == 0) = false := by simp; omega
          have HV : Hid (rightRN f x k n t m = false) := by (show _ = _); rw [HU.out]; simp; omega
          clear h0 h1 h2 h3
          go_enter Try.func44, Try.ntmps44
          go_wp2_with fail
          go_quiet (fail)
          clear d0 d1 d2 d3 d4 d5
          obtain ⟨d0, d1, d2, d3, d4, d5⟩ := (bx1.drewN nq).c6
          go_wp2_with fail
          go_ret
          exact ⟨ret_bool HV.out.symm, below_drewN HB.out _⟩
      · have v2 : ((q : Int) == 0) = false := by simp; omega
        have HV : Hid (rightRN f x k n t m = false) := by (show _ = _); rw [HU.out]; simp; omega
        clear h0 h1 h2
        go_enter Try.func44, Try.ntmps44
        go_wp2_with fail
        go_quiet (fail)
        clear d0 d1 d2 d3 d4 d5
        obtain ⟨d0, d1, d2, d3, d4, d5⟩ := (bx1.drewN nq).c6
        go_wp2_with fail
        go_ret
        exact ⟨ret_bool HV.out.symm, below_drewN HB.out _⟩
    · have v1 : decide ((k : Int) ≤ 2000) = false := by simp; omega
      have HV : Hid (rightRN f x k n t m = false) := by (show _ = _); rw [HU.out]; simp; omega
      clear h0 h1
      go_enter Try.func44, Try.ntmps44
      go_wp2_with fail
      go_quiet (fail)
      clear d0 d1 d2 d3 d4 d5
      obtain ⟨d0, d1, d2, d3, d4, d5⟩ := (bx1.drewN nq).c6
      go_wp2_with fail
      go_ret
      exact ⟨ret_bool HV.out.symm, below_drewN HB.out _⟩
  · have v0 : decide ((8 : Int) ≤ (k : Int)) = false := by simp; omega
    have HV : Hid (rightRN f x k n t m = false) := by (show _ = _); rw [HU.out]; simp; omega
    clear h0
    go_enter Try.func44, Try.ntmps44
    go_wp2_with fail
    go_quiet (fail)
    clear d0 d1 d2 d3 d4 d5
    obtain ⟨d0, d1, d2, d3, d4, d5⟩ := (bx1.drewN nq).c6
    go_wp2_with fail
    go_ret
    exact ⟨ret_bool HV.out.symm, below_drewN HB.out _⟩

end Go.Proofs.Ytechhidfgheejaa
