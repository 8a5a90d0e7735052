/- The walks of mbap.begins and mbap.first. -/
import Derived.Test.YtheepgfafjinoaaMbapMath
import Derived.Test.YtheepgfafjinoaaTyB
import Derived.Deep.RegionHeld3
import Derived.Laws.BitsAllLaws
import Derived.Laws.BitsLemmas
namespace Go.Proofs.Ytheepgfafjinoaa
open Go.RowKit
set_option linter.unusedSimpArgs false
set_option linter.unusedVariables false

theorem ret_bool {a b : Bool} (h : a = b) : Ending.returned (.bool a) = .returned (.bool b) := by rw [h]
def okTo (l : List Nat) (j : Nat) : Prop := ∀ t, 2 ≤ t → t < j → okAt l t = true
theorem okTo.zero (l : List Nat) : okTo l 2 := fun t h1 h2 => by omega
theorem okTo.succ {l : List Nat} {j : Nat} (h : okTo l j) (ho : okAt l j = true) : okTo l (j + 1) := fun t h1 h2 => by
  rcases Nat.lt_or_ge t j with h3 | h3
  · exact h t h1 h3
  · obtain rfl : t = j := by omega
    exact ho
theorem okAt_far {l : List Nat} {t : Nat} (h : l.length ≤ t) : okAt l t = true := by
  unfold okAt; rw [List.getElem?_eq_none h]
theorem okTo.beg {l : List Nat} {j : Nat} (h : okTo l j) (hj : 6 ≤ j ∨ l.length ≤ j) : begF l = true := by
  have key : ∀ t, 2 ≤ t → t < 6 → okAt l t = true := by
    intro t h1 h2
    rcases Nat.lt_or_ge t j with h3 | h3
    · exact h t h1 h3
    · exact okAt_far (by omega)
  unfold begF
  rw [key 2 (by omega) (by omega), key 3 (by omega) (by omega), key 4 (by omega) (by omega), key 5 (by omega) (by omega)]
  rfl
theorem begF_bad {l : List Nat} {j : Nat} (h : okAt l j = false) (h1 : 2 ≤ j) (h2 : j < 6) : begF l = false := by
  unfold begF
  have : j = 2 ∨ j = 3 ∨ j = 4 ∨ j = 5 := by omega
  rcases this with rfl | rfl | rfl | rfl <;> simp [h]

set_option maxHeartbeats 1000000 in
theorem mb_begins (A : Option Addr) (n c : Nat) (l : List Nat) (w : World) (hA : Rd w A (bs l)) (hn : l.length = n) (hl : Bs l) (hm : n ≤ 1000000000) :
    Calls Try.prog 52 #[.slice A n c] w fun e w' => e = .returned (.bool (begF l)) ∧ w = w' := by
  have HN := Lib.hid hn
  clear hn
  go_enter Try.func52, Try.ntmps52
  go_wp2_with fail
  go_loop [3] (fun i => ∃ j : Nat, 2 ≤ j ∧ j ≤ 6 ∧ i = .int .i64 j ∧ okTo l j) (fun i => 6 - (intOf i).toNat)
  case atStart => exact ⟨2, by omega, by omega, rfl, okTo.zero l⟩
  case round =>
    obtain ⟨j, hj2, hj6, rfl, hok⟩ := hrel
    by_cases h6 : j < 6
    · by_cases hjn : j < n
      · obtain ⟨b, off, x, rfl, hx, hcell⟩ := hA.byte (k := j) (by rw [HN.out]; exact hjn)
        have hxb := hl.get hx
        have HO : Hid (okAt l j = if j = 5 then decide (2 ≤ x ∧ x ≤ 254) else decide (x = 0)) := by (show _ = _); unfold okAt; rw [hx]
        clear hx
        by_cases h5 : j < 5
        · by_cases hx0 : x = 0
          · have HY : Hid (okAt l j = true) := by (show _ = _); rw [HO.out, if_neg (by omega)]; simp [hx0]
            have t1 : ((x : Int) != 0) = false := by simp [hx0]
            have t2 : ((j : Int) == 5) = false := by simp; omega
            clear hx0
            go_wp2_with fail
            go_round
            case rel => exact ⟨j + 1, by omega, by omega, by go_num, hok.succ HY.out⟩
            case measure => simp [intOf]; omega
          · have HY : Hid (okAt l j = false) := by (show _ = _); rw [HO.out, if_neg (by omega)]; simp [hx0]
            have t1 : ((x : Int) != 0) = true := by simp; omega
            clear hx0
            go_wp2_with fail
            go_ret
            exact ⟨ret_bool (begF_bad HY.out hj2 h6).symm, rfl⟩
        · obtain rfl : j = 5 := by omega
          by_cases hlo : x < 2
          · have HY : Hid (okAt l 5 = false) := by (show _ = _); rw [HO.out, if_pos rfl]; simp; omega
            go_wp2_with fail
            go_ret
            exact ⟨ret_bool (begF_bad HY.out hj2 h6).symm, rfl⟩
          · by_cases hhi : 254 < x
            · have HY : Hid (okAt l 5 = false) := by (show _ = _); rw [HO.out, if_pos rfl]; simp; omega
              go_wp2_with fail
              go_ret
              exact ⟨ret_bool (begF_bad HY.out hj2 h6).symm, rfl⟩
            · have HY : Hid (okAt l 5 = true) := by (show _ = _); rw [HO.out, if_pos rfl]; simp; omega
              go_wp2_with fail
              go_round
              case rel => exact ⟨5 + 1, by omega, by omega, by go_num, hok.succ HY.out⟩
              case measure => simp [intOf]
      · go_wp2_with fail
        go_ret
        exact ⟨ret_bool (hok.beg (.inr (by rw [HN.out]; omega))).symm, rfl⟩
    · obtain rfl : j = 6 := by omega
      go_wp2_with fail
      go_ret
      exact ⟨ret_bool (hok.beg (.inl (by omega))).symm, rfl⟩
end Go.Proofs.Ytheepgfafjinoaa
