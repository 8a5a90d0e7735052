/- saucierlaw01.CrcOne returns true: two sums that are unlike stay so; two unlike bytes lead to unlike sums. -/
import Derived.Test.YtheepgfafjinoaaCrcAwake
namespace Go.Proofs.Ytheepgfafjinoaa
open Go.RowKit
set_option linter.unusedSimpArgs false
set_option linter.unusedVariables false

theorem beq_cast (a b : Nat) : ((a : Int) == (b : Int)) = decide (a = b) := by
  rw [Bool.eq_iff_iff, beq_iff_eq, decide_eq_true_iff]; omega

set_option maxHeartbeats 1000000 in
theorem CrcOne_walk (s t c d : Nat) (w : World) (hs : s < 65536) (ht : t < 65536) (hc : c < 256) (hd : d < 256) :
    Calls Try.prog 6 #[.int .u16 s, .int .u16 t, .int .u8 c, .int .u8 d] w fun e w' => e = .returned (.bool true) ∧ Below w.heap.size w w' := by
  obtain ⟨p, hp⟩ : ∃ p, decide (s = t) = p := ⟨_, rfl⟩
  obtain ⟨q, hq⟩ : ∃ q, decide (c = d) = q := ⟨_, rfl⟩
  have b1 : ((Crc.nxt s c : Int) == (Crc.nxt t c : Int)) = p := by rw [beq_cast, ← hp]; exact decide_eq_decide.2 (Crc.nxt_left hs ht hc)
  have b2 : ((s : Int) == (t : Int)) = p := by rw [beq_cast, hp]
  have b3 : ((Crc.nxt s c : Int) == (Crc.nxt s d : Int)) = q := by rw [beq_cast, ← hq]; exact decide_eq_decide.2 (Crc.nxt_right hs hc hd)
  have b4 : ((c : Int) == (d : Int)) = q := by rw [beq_cast, hq]
  clear hp hq
  go_enter Try.func6, Try.ntmps6
  go_wp2_with fail
  refine (crc_Next s c _ hs hc).mono ?_
  rintro e w1 ⟨rfl, hb1⟩
  go_wp2_with fail
  refine (crc_Next t c _ ht hc).mono ?_
  rintro e w2 ⟨rfl, hb2⟩
  replace hb2 := bthen hb1 hb2
  go_wp2_with fail
  refine (crc_Next s c _ hs hc).mono ?_
  rintro e w3 ⟨rfl, hb3⟩
  replace hb3 := bthen hb2 hb3
  go_wp2_with fail
  refine (crc_Next s d _ hs hd).mono ?_
  rintro e w4 ⟨rfl, hb4⟩
  replace hb4 := bthen hb3 hb4
  go_wp2_with fail
  refine (crc_awake _).mono ?_
  rintro e w5 ⟨rfl, hb5⟩
  replace hb5 := bthen hb4 hb5
  go_wp2_with fail
  go_ret
  exact ⟨rfl, hb5⟩
end Go.Proofs.Ytheepgfafjinoaa
