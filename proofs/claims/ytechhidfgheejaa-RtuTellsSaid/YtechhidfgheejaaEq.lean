/- Walks of functions that hold two rows against one another (written by gen_eq.py). -/
import Derived.Test.YtechhidfgheejaaTyB
import Derived.Deep.QuietTactic
import Derived.BigQuiet
namespace Go.Proofs.Ytechhidfgheejaa
open Go.RowKit
set_option linter.unusedSimpArgs false
set_option linter.unusedVariables false

theorem ret_b {a b : Bool} (h : b = a) : Ending.returned (.bool a) = .returned (.bool b) := by rw [h]
theorem take_next {α : Type} {l k : List α} {j : Nat} {x : α} (h : l.take j = k.take j) (hx : l[j]? = some x) (hy : k[j]? = some x) : l.take (j + 1) = k.take (j + 1) := by
  rw [take_snoc hx, take_snoc hy, h]
theorem ne_at {α : Type} {l k : List α} {j : Nat} {x y : α} (hx : l[j]? = some x) (hy : k[j]? = some y) (h : x ≠ y) : ¬ l = k := by
  intro e
  rw [e, hy] at hx
  injection hx with hx
  exact h hx.symm

set_option maxHeartbeats 1000000 in
theorem equal_w (A B : Option Addr) (n c m d : Nat) (l k : List Nat) (w : World) (hA : Rd w A (ws l)) (hB : Rd w B (ws k)) (hn : l.length = n) (hm : k.length = m) (hn5 : n ≤ 1000000000) :
    Calls Try.prog 65 #[.slice A n c, .slice B m d] w fun e w' => e = .returned (.bool (sameB l k)) ∧ ∃ dn, w' = w.drewN dn := by
  have HN := Lib.hid hn
  have HM := Lib.hid hm
  clear hn hm
  by_cases hlen : n = m
  · subst hlen
    go_enter Try.func65, Try.ntmps65
    go_wp2_with fail
    go_loopw [13] (fun i wr => ∃ j : Nat, j ≤ n ∧ i = .int .i64 j ∧ l.take j = k.take j ∧ ∃ dn, wr = w.drewN dn) (fun i _ => n - (intOf i).toNat)
    case atStart => exact ⟨0, by omega, rfl, by simp, 0, rfl⟩
    case round =>
      obtain ⟨j, hj, rfl, hsame, dn, hw⟩ := hrel
      have HW := Lib.hid hw
      have hA' : Rd wr A (ws l) := by rw [hw]; exact hA
      have hB' : Rd wr B (ws k) := by rw [hw]; exact hB
      clear hw
      by_cases hlt : j < n
      · obtain ⟨b1, o1, x, rfl, hx, cx⟩ := hA'.word (k := j) (by rw [HN.out]; exact hlt)
        obtain ⟨b2, o2, y, rfl, hy, cy⟩ := hB'.word (k := j) (by rw [HM.out]; exact hlt)
        have HX := Lib.hid hx
        have HY := Lib.hid hy
        have HS := Lib.hid hsame
        clear hx hy hsame
        have f1 : (0 : Int) ≤ (j : Int) := by omega
        have f2 : (j : Int) < (n : Int) := by omega
        by_cases hxy : x = y
        · subst hxy
          go_wp2_with fail
          go_quiet (fail)
          go_wp2_with fail
          go_roundw
          case rel => exact ⟨j + 1, by omega, by go_num, take_next HS.out HX.out HY.out, dn + nq, by rw [HW.out]; exact World.drewN_drewN _ _ _⟩
          case measure => simp [intOf]; omega
        ·
          have hxy' : ((x : Int) != (y : Int)) = true := by simp; omega
          have HNE := Lib.hid hxy
          clear hxy
          go_wp2_with fail
          go_quiet (fail)
          go_wp2_with fail
          go_ret
          exact ⟨ret_b (by rw [Bool.eq_false_iff]; intro e; exact ne_at HX.out HY.out HNE.out (sameB_iff.1 e)), dn + nq, by rw [HW.out]; exact World.drewN_drewN _ _ _⟩
      · obtain rfl : j = n := by omega
        go_wp2_with fail
        go_ret
        refine ⟨ret_b ?_, dn, HW.out⟩
        rw [List.take_of_length_le (by rw [HN.out]; exact Nat.le_refl _), List.take_of_length_le (by rw [HM.out]; exact Nat.le_refl _)] at hsame
        exact sameB_iff.2 hsame
  · have hne : ¬ ((n : Int) = (m : Int)) := by omega
    go_enter Try.func65, Try.ntmps65
    go_wp2_with fail
    go_ret
    exact ⟨ret_b (by rw [Bool.eq_false_iff]; intro e; apply hlen; rw [← HN.out, ← HM.out, sameB_iff.1 e]), 0, rfl⟩

set_option maxHeartbeats 1000000 in
theorem equal_o (A B : Option Addr) (n c m d : Nat) (l k : List Bool) (w : World) (hA : Rd w A (os l)) (hB : Rd w B (os k)) (hn : l.length = n) (hm : k.length = m) (hn5 : n ≤ 1000000000) :
    Calls Try.prog 64 #[.slice A n c, .slice B m d] w fun e w' => e = .returned (.bool (sameO l k)) ∧ ∃ dn, w' = w.drewN dn := by
  have HN := Lib.hid hn
  have HM := Lib.hid hm
  clear hn hm
  by_cases hlen : n = m
  · subst hlen
    go_enter Try.func64, Try.ntmps64
    go_wp2_with fail
    go_loopw [13] (fun i wr => ∃ j : Nat, j ≤ n ∧ i = .int .i64 j ∧ l.take j = k.take j ∧ ∃ dn, wr = w.drewN dn) (fun i _ => n - (intOf i).toNat)
    case atStart => exact ⟨0, by omega, rfl, by simp, 0, rfl⟩
    case round =>
      obtain ⟨j, hj, rfl, hsame, dn, hw⟩ := hrel
      have HW := Lib.hid hw
      have hA' : Rd wr A (os l) := by rw [hw]; exact hA
      have hB' : Rd wr B (os k) := by rw [hw]; exact hB
      clear hw
      by_cases hlt : j < n
      · obtain ⟨b1, o1, x, rfl, hx, cx⟩ := hA'.bit (k := j) (by rw [HN.out]; exact hlt)
        obtain ⟨b2, o2, y, rfl, hy, cy⟩ := hB'.bit (k := j) (by rw [HM.out]; exact hlt)
        have HX := Lib.hid hx
        have HY := Lib.hid hy
        have HS := Lib.hid hsame
        clear hx hy hsame
        have f1 : (0 : Int) ≤ (j : Int) := by omega
        have f2 : (j : Int) < (n : Int) := by omega
        by_cases hxy : x = y
        · subst hxy
          cases x
          all_goals
            go_wp2_with fail
            go_quiet (fail)
            go_wp2_with fail
            go_roundw
            case rel => exact ⟨j + 1, by omega, by go_num, take_next HS.out HX.out HY.out, dn + nq, by rw [HW.out]; exact World.drewN_drewN _ _ _⟩
            case measure => simp [intOf]; omega
        ·
          cases x <;> cases y <;> first | exact absurd rfl hxy | skip
          all_goals
            have HNE := Lib.hid hxy
            clear hxy
            go_wp2_with fail
            go_quiet (fail)
            go_wp2_with fail
            go_ret
            exact ⟨ret_b (by rw [Bool.eq_false_iff]; intro e; exact ne_at HX.out HY.out HNE.out (sameO_iff.1 e)), dn + nq, by rw [HW.out]; exact World.drewN_drewN _ _ _⟩
      · obtain rfl : j = n := by omega
        go_wp2_with fail
        go_ret
        refine ⟨ret_b ?_, dn, HW.out⟩
        rw [List.take_of_length_le (by rw [HN.out]; exact Nat.le_refl _), List.take_of_length_le (by rw [HM.out]; exact Nat.le_refl _)] at hsame
        exact sameO_iff.2 hsame
  · have hne : ¬ ((n : Int) = (m : Int)) := by omega
    go_enter Try.func64, Try.ntmps64
    go_wp2_with fail
    go_ret
    exact ⟨ret_b (by rw [Bool.eq_false_iff]; intro e; apply hlen; rw [← HN.out, ← HM.out, sameO_iff.1 e]), 0, rfl⟩

set_option maxHeartbeats 1000000 in
theorem low_Bits (A B : Option Addr) (n c m d : Nat) (l k : List Bool) (w : World) (hA : Rd w A (os l)) (hB : Rd w B (os k)) (hn : l.length = n) (hm : k.length = m) (hn5 : n ≤ 1000000000) :
    Calls Try.prog 34 #[.slice A n c, .slice B m d] w fun e w' => e = .returned (.bool (sameO l k)) ∧ ∃ dn, w' = w.drewN dn := by
  have HN := Lib.hid hn
  have HM := Lib.hid hm
  clear hn hm
  by_cases hlen : n = m
  · subst hlen
    go_enter Try.func34, Try.ntmps34
    go_wp2_with fail
    go_loopw [13] (fun i wr => ∃ j : Nat, j ≤ n ∧ i = .int .i64 j ∧ l.take j = k.take j ∧ ∃ dn, wr = w.drewN dn) (fun i _ => n - (intOf i).toNat)
    case atStart => exact ⟨0, by omega, rfl, by simp, 0, rfl⟩
    case round =>
      obtain ⟨j, hj, rfl, hsame, dn, hw⟩ := hrel
      have HW := Lib.hid hw
      have hA' : Rd wr A (os l) := by rw [hw]; exact hA
      have hB' : Rd wr B (os k) := by rw [hw]; exact hB
      clear hw
      by_cases hlt : j < n
      · obtain ⟨b1, o1, x, rfl, hx, cx⟩ := hA'.bit (k := j) (by rw [HN.out]; exact hlt)
        obtain ⟨b2, o2, y, rfl, hy, cy⟩ := hB'.bit (k := j) (by rw [HM.out]; exact hlt)
        have HX := Lib.hid hx
        have HY := Lib.hid hy
        have HS := Lib.hid hsame
        clear hx hy hsame
        have f1 : (0 : Int) ≤ (j : Int) := by omega
        have f2 : (j : Int) < (n : Int) := by omega
        by_cases hxy : x = y
        · subst hxy
          cases x
          all_goals
            go_wp2_with fail
            go_quiet (fail)
            go_wp2_with fail
            go_roundw
            case rel => exact ⟨j + 1, by omega, by go_num, take_next HS.out HX.out HY.out, dn + nq, by rw [HW.out]; exact World.drewN_drewN _ _ _⟩
            case measure => simp [intOf]; omega
        ·
          cases x <;> cases y <;> first | exact absurd rfl hxy | skip
          all_goals
            have HNE := Lib.hid hxy
            clear hxy
            go_wp2_with fail
            go_quiet (fail)
            go_wp2_with fail
            go_ret
            exact ⟨ret_b (by rw [Bool.eq_false_iff]; intro e; exact ne_at HX.out HY.out HNE.out (sameO_iff.1 e)), dn + nq, by rw [HW.out]; exact World.drewN_drewN _ _ _⟩
      · obtain rfl : j = n := by omega
        go_wp2_with fail
        go_ret
        refine ⟨ret_b ?_, dn, HW.out⟩
        rw [List.take_of_length_le (by rw [HN.out]; exact Nat.le_refl _), List.take_of_length_le (by rw [HM.out]; exact Nat.le_refl _)] at hsame
        exact sameO_iff.2 hsame
  · have hne : ¬ ((n : Int) = (m : Int)) := by omega
    go_enter Try.func34, Try.ntmps34
    go_wp2_with fail
    go_ret
    exact ⟨ret_b (by rw [Bool.eq_false_iff]; intro e; apply hlen; rw [← HN.out, ← HM.out, sameO_iff.1 e]), 0, rfl⟩
end Go.Proofs.Ytechhidfgheejaa
