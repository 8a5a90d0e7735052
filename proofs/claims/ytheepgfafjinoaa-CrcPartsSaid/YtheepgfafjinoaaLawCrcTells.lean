/- saucierlaw01.CrcTells returns true: the program's sums, what is put and what is cut are the reference's. -/
import Derived.Test.YtheepgfafjinoaaCrcAwake
namespace Go.Proofs.Ytheepgfafjinoaa
open Go.RowKit
set_option linter.unusedSimpArgs false
set_option linter.unusedVariables false

theorem cutL_Bs {l : List Nat} (h : Bs l) : Bs (cutL l) := by
  unfold cutL
  split
  · exact h.take _
  · intro x hx; cases hx
theorem putL_Bs {l : List Nat} (h : Bs l) : Bs (putL l) := by
  have := Crc.sum_lt h
  refine h.append fun x hx => ?_
  simp only [List.mem_cons, List.not_mem_nil, or_false] at hx
  omega
theorem putL_length (l : List Nat) : (putL l).length = l.length + 2 := by simp [putL]

set_option maxHeartbeats 1000000 in
theorem CrcTells_walk (A : Option Addr) (n c : Nat) (l : List Nat) (s d : Nat) (w : World) (hA : Rd w A (bs l)) (hn : l.length = n) (hl : Bs l) (hc : n ≤ c) (hs : s < 65536) (hd : d < 256) :
    Calls Try.prog 4 #[.slice A n c, .int .u16 s, .int .u8 d] w fun e w' => e = .returned (.bool true) ∧ Below w.heap.size w w' := by
  have HN := Lib.hid hn
  clear hn
  by_cases hbig : 600 < n
  · go_enter Try.func4, Try.ntmps4
    go_wp2_with fail
    refine (crc_awake _).mono ?_
    rintro e w5 ⟨rfl, hb5⟩
    go_wp2_with fail
    go_ret
    exact ⟨rfl, hb5⟩
  · go_enter Try.func4, Try.ntmps4
    go_wp2_with (at_builtin; refine app_b rfl _ _ rfl w ((Below.refl _ w).alloc (Nat.le_refl _) _) _ _ _ [] rfl (Ow.lit _ _ _ [] (Nat.le_refl _) (Nat.zero_le _) rfl rfl) rfl A n c l rfl (hA.alloc _) HN.out (by omega) ?_; intro A1 c1 w1 ho1 hb1 hg1)
    rw [List.nil_append] at ho1
    clear hg1
    have hle : n ≤ c1 := by have := ho1.le.1; rw [bs_length, HN.out] at this; exact this
    refine (crc_Cut A1 n c1 l _ ho1.rd HN.out hl (by omega) hle).mono ?_
    rintro e w2 ⟨A2, c2, rfl, ho2, hb2⟩
    replace ho1 := ho1.below hb2
    replace hb2 := bthen hb1 hb2
    go_wp2_with fail
    refine (ref1_Cut A n c l _ (hA.below hb2) HN.out hl (by omega) hc).mono ?_
    rintro e w3 ⟨A3, c3, rfl, ho3, hb3⟩
    replace ho1 := ho1.below hb3
    replace ho2 := ho2.below hb3
    replace hb3 := bthen hb2 hb3
    go_wp2_with fail
    refine (crc_Next s d _ hs hd).mono ?_
    rintro e w4 ⟨rfl, hb4⟩
    replace ho1 := ho1.below hb4
    replace ho2 := ho2.below hb4
    replace ho3 := ho3.below hb4
    replace hb4 := bthen hb3 hb4
    go_wp2_with fail
    refine (ref1_Next s d _ hs hd).mono ?_
    rintro e w5 ⟨rfl, rfl⟩
    go_wp2_with fail
    refine (crc_Sum A1 n c1 l _ ho1.rd HN.out hl (by omega)).mono ?_
    rintro e w5 ⟨rfl, hb5⟩
    replace ho1 := ho1.below hb5
    replace ho2 := ho2.below hb5
    replace ho3 := ho3.below hb5
    replace hb5 := bthen hb4 hb5
    go_wp2_with fail
    refine (ref1_Sum A n c l _ (hA.below hb5) HN.out hl (by omega)).mono ?_
    rintro e w6 ⟨rfl, rfl⟩
    go_wp2_with fail
    refine (crc_Put A1 n c1 l _ ho1.rd HN.out hl (by omega)).mono ?_
    rintro e w6 ⟨A6, c6, rfl, ho6, hb6⟩
    replace ho1 := ho1.below hb6
    replace ho2 := ho2.below hb6
    replace ho3 := ho3.below hb6
    replace hb6 := bthen hb5 hb6
    go_wp2_with fail
    refine (ref1_Put A n c l _ (hA.below hb6) HN.out hl (by omega)).mono ?_
    rintro e w7 ⟨A7, c7, rfl, ho7, hb7⟩
    replace ho1 := ho1.below hb7
    replace ho2 := ho2.below hb7
    replace ho3 := ho3.below hb7
    replace ho6 := ho6.below hb7
    replace hb7 := bthen hb6 hb7
    go_wp2_with fail
    refine (low_Same A6 A7 (n + 2) c6 (n + 2) c7 (putL l) (putL l) _ ho6.rd ho7.rd (putL_Bs hl) (putL_Bs hl) (by rw [putL_length, HN.out]) (by rw [putL_length, HN.out])).mono ?_
    rintro e w8 ⟨rfl, rfl⟩
    rw [sameB_self]
    go_wp2_with fail
    refine (low_Same A2 A3 _ c2 _ c3 (cutL l) (cutL l) _ ho2.rd ho3.rd (cutL_Bs hl) (cutL_Bs hl) rfl rfl).mono ?_
    rintro e w8 ⟨rfl, rfl⟩
    rw [sameB_self]
    go_wp2_with fail
    refine (low_Same A1 A n c1 n c l l _ ho1.rd (hA.below hb7) hl hl HN.out HN.out).mono ?_
    rintro e w8 ⟨rfl, rfl⟩
    rw [sameB_self]
    go_wp2_with fail
    refine (crc_awake _).mono ?_
    rintro e w9 ⟨rfl, hb9⟩
    go_wp2_with fail
    go_ret
    exact ⟨rfl, bthen hb7 hb9⟩
end Go.Proofs.Ytheepgfafjinoaa
