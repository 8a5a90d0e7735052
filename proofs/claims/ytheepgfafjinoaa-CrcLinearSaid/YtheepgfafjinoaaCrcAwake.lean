/- The walk of saucierlaw01.awake: the chapter's examples hold. -/
import Derived.Test.YtheepgfafjinoaaRef01
import Derived.Test.YtheepgfafjinoaaLow
import Derived.Lib.SlBytesConst
namespace Go.Proofs.Ytheepgfafjinoaa
open Go.RowKit
set_option linter.unusedSimpArgs false
set_option linter.unusedVariables false

theorem CutPost.at_ {w w' : World} {l L : List Nat} {E n : Nat} {e : Ending} (h : CutPost w l e w') (hE : cutE l = E) (hL : cutL l = L) (hn : L.length = n) :
    ∃ A' c', e = .returned (.tuple #[.slice A' n c', .int .i64 (E : Nat)]) ∧ Ow w' w.heap.size 5 A' c' (bs L) ∧ Below w.heap.size w w' := by
  obtain ⟨A', c', h1, h2, h3⟩ := h
  rw [hL, hn, hE] at h1
  rw [hL] at h2
  exact ⟨A', c', h1, h2, h3⟩

set_option maxHeartbeats 1000000 in
theorem crc_awake (w : World) : Calls Try.prog 16 #[] w fun e w' => e = .returned (.bool true) ∧ Below w.heap.size w w' := by
  have kc := fun (w : World) (C : Array Value) (n c : Nat) => Lib.run_convert_bytes_const (P := Try.prog) w 22 5 C n c Try.underlying22 Try.underlying5
  go_enter Try.func16, Try.ntmps16
  go_wp2_with fail
  refine (crc_Cut _ 4 4 [2, 7, 65, 18] _ (Rd.lit _ _ _ rfl) rfl (by decide) (by omega) (by omega)).mono ?_
  rintro e w1 hp1
  obtain ⟨A1, c1, rfl, ho1, hb1⟩ := hp1.at_ (E := 0) (L := [2, 7]) (n := 2) (by decide) (by decide) rfl
  replace hb1 := bthen ((Below.refl _ w).alloc (Nat.le_refl _) _) hb1
  clear hp1
  go_wp2_with fail
  refine (crc_Cut _ 4 4 [2, 7, 65, 19] _ (Rd.lit _ _ _ rfl) rfl (by decide) (by omega) (by omega)).mono ?_
  rintro e w2 hp2
  obtain ⟨A2, c2, rfl, ho2, hb2⟩ := hp2.at_ (E := 11) (L := []) (n := 0) (by decide) (by decide) rfl
  replace ho1 := (ho1.alloc _).below hb2
  replace hb2 := bthen (hb1.alloc hb1.size _) hb2
  clear hp2 ho2
  go_wp2_with fail
  refine (crc_Cut _ 1 1 [2] _ (Rd.lit _ _ _ rfl) rfl (by decide) (by omega) (by omega)).mono ?_
  rintro e w3 hp3
  obtain ⟨A3, c3, rfl, ho3, hb3⟩ := hp3.at_ (E := 10) (L := []) (n := 0) (by decide) (by decide) rfl
  replace ho1 := (ho1.alloc _).below hb3
  replace hb3 := bthen (hb2.alloc hb2.size _) hb3
  clear hp3 ho3
  go_wp2_with fail
  refine (crc_Sum _ 0 0 [] _ Rd.nil rfl (by decide) (by omega)).mono ?_
  rintro e w4 ⟨rfl, hb4⟩
  replace ho1 := ho1.below hb4
  replace hb4 := bthen hb3 hb4
  rw [show Crc.sum [] = 65535 from by decide]
  go_wp2_with fail
  refine (crc_Sum _ 2 2 [2, 7] _ (Rd.lit _ _ _ rfl) rfl (by decide) (by omega)).mono ?_
  rintro e w5 ⟨rfl, hb5⟩
  replace ho1 := (ho1.alloc _).below hb5
  replace hb5 := bthen (hb4.alloc hb4.size _) hb5
  rw [show Crc.sum [2, 7] = 4673 from by decide]
  go_wp2_with fail
  refine (crc_Put _ 2 2 [2, 7] _ (Rd.lit _ _ _ rfl) rfl (by decide) (by omega)).mono ?_
  rintro e w6 ⟨A6, c6, rfl, ho6, hb6⟩
  replace ho1 := (ho1.alloc _).below hb6
  replace hb6 := bthen (hb5.alloc hb5.size _) hb6
  rw [show putL [2, 7] = [2, 7, 65, 18] from by decide] at ho6
  go_wp2_with fail
  refine (low_Same _ _ 4 _ 4 4 [2, 7, 65, 18] [2, 7, 65, 18] _ (ho6.rd.alloc _) (Rd.lit _ _ _ rfl) (by decide) (by decide) rfl rfl).mono ?_
  rintro e w7 ⟨rfl, rfl⟩
  replace ho1 := ho1.alloc (.cells (bs [2, 7, 65, 18]).toArray 5)
  replace hb6 := hb6.alloc hb6.size (.cells (bs [2, 7, 65, 18]).toArray 5)
  generalize w6.alloc (.cells (bs [2, 7, 65, 18]).toArray 5) = w7 at *
  rw [sameB_self]
  go_wp2_with fail
  refine (crc_Sum _ 9 9 [49, 50, 51, 52, 53, 54, 55, 56, 57] _ (Rd.litm _ _ _ _ rfl) rfl (by decide) (by omega)).mono ?_
  rintro e w8 ⟨rfl, hb8⟩
  replace ho1 := (ho1.alloc _).below hb8
  replace hb8 := bthen (hb6.alloc hb6.size _) hb8
  rw [show Crc.sum [49, 50, 51, 52, 53, 54, 55, 56, 57] = 19255 from by decide +kernel]
  go_wp2_with fail
  refine (low_Same _ _ 2 _ 2 2 [2, 7] [2, 7] _ (ho1.rd.alloc _) (Rd.lit _ _ _ rfl) (by decide) (by decide) rfl rfl).mono ?_
  rintro e w9 ⟨rfl, rfl⟩
  rw [sameB_self]
  go_wp2_with fail
  go_ret
  exact ⟨rfl, hb8.alloc hb8.size _⟩
end Go.Proofs.Ytheepgfafjinoaa
