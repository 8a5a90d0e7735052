/- The walk of saucierlow.Few. -/
import Derived.Test.YtechhidfgheejaaAskAwake
import Derived.Test.YtechhidfgheejaaAskLaw
namespace Go.Proofs.Ytechhidfgheejaa
open Go.RowKit
set_option linter.unusedSimpArgs false
set_option linter.unusedVariables false

theorem undrew {a w' : World} (h : Below a.drew.heap.size a.drew w') : Below a.heap.size a w' := ⟨h.os, h.tape, h.output, h.size, h.block⟩
theorem undrewN {a w' : World} {n : Nat} (h : Below (a.drewN n).heap.size (a.drewN n) w') : Below a.heap.size a w' := ⟨h.os, h.tape, h.output, h.size, h.block⟩
def fewN (n m : Nat) : Bool := decide (n ≤ 200) && decide (m ≤ 2100)
theorem fewN_le {n m : Nat} (h : fewN n m = true) : n ≤ 200 ∧ m ≤ 2100 := by simpa [fewN] using h
set_option maxHeartbeats 400000 in
theorem low_Few (A : Option Addr) (n c : Nat) (B : Option Addr) (m d : Nat) (w : World) :
    Calls Try.prog 20 #[.slice A n c, .slice B m d] w fun e w' => e = .returned (.bool (fewN n m)) ∧ w = w' := by
  by_cases h1 : n ≤ 200
  · have t1 : decide ((n : Int) ≤ 200) = true := decide_eq_true (by omega)
    by_cases h2 : m ≤ 2100
    · have t2 : decide ((m : Int) ≤ 2100) = true := decide_eq_true (by omega)
      have HV : Hid (fewN n m = true) := by (show _ = _); simp [fewN, h1, h2]
      go_enter Try.func20, Try.ntmps20
      go_wp2_with fail
      go_ret
      exact ⟨ret_bool HV.out.symm, rfl⟩
    · have t2 : decide ((m : Int) ≤ 2100) = false := decide_eq_false (by omega)
      have HV : Hid (fewN n m = false) := by (show _ = _); simp [fewN, h1, h2]
      clear h2
      go_enter Try.func20, Try.ntmps20
      go_wp2_with fail
      go_ret
      exact ⟨ret_bool HV.out.symm, rfl⟩
  · have t1 : decide ((n : Int) ≤ 200) = false := decide_eq_false (by omega)
    have HV : Hid (fewN n m = false) := by (show _ = _); simp [fewN, h1]
    clear h1
    go_enter Try.func20, Try.ntmps20
    go_wp2_with fail
    go_ret
    exact ⟨ret_bool HV.out.symm, rfl⟩
end Go.Proofs.Ytechhidfgheejaa
