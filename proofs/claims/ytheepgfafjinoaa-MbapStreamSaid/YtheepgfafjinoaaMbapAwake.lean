/- The walk of saucierlaw05.awake: the chapter's examples hold. -/
import Derived.Test.YtheepgfafjinoaaRef05C
namespace Go.Proofs.Ytheepgfafjinoaa
open Go.RowKit
set_option linter.unusedSimpArgs false
set_option linter.unusedVariables false

def fr0 : Fr := ⟨258, 7, [3, 0, 1, 0, 2]⟩
theorem fr0_ok : fr0.ok := ⟨by decide, by decide, by decide⟩
theorem fr0_right : fr0.right = true := by decide
theorem fr0_pack : packF fr0 = [1, 2, 0, 0, 0, 6, 7, 3, 0, 1, 0, 2] := by decide
theorem cut_a : (cutF [1, 2, 0, 0, 0, 6, 7, 3, 0, 1, 0, 2, 9]).1 = [fr0] ∧ (cutF [1, 2, 0, 0, 0, 6, 7, 3, 0, 1, 0, 2, 9]).2 = 12 ∧ cutErr [1, 2, 0, 0, 0, 6, 7, 3, 0, 1, 0, 2, 9] = 0 := ⟨by rfl, by rfl, by rfl⟩
theorem cut_b : cutErr [1, 2, 0, 0, 0, 6, 7, 3, 0, 1, 0, 2, 9, 9, 1] = 10 := by rfl
theorem par_c : parF [0, 0, 0, 0, 0, 1, 7] = false := by decide

set_option maxRecDepth 100000 in
set_option maxHeartbeats 4000000 in
theorem mbap_awake (w : World) : Calls Try.prog 25 #[] w fun e w' => e = .returned (.bool true) ∧ Below w.heap.size w w' := by
  have HB5 : Hid (bs [3, 0, 1, 0, 2] = [.int .u8 3, .int .u8 0, .int .u8 1, .int .u8 0, .int .u8 2]) := rfl
  go_enter Try.func25, Try.ntmps25
  go_wp2_with fail
  have rd1 := (Rd.lit w 5 _ HB5.out).alloc (.cells #[.int .u16 258, .int .u8 7, .slice (some ⟨w.heap.size, 0, none⟩) 5 5] 37)
  have bx1 := Blk.newAt (w.alloc (.cells #[.int .u8 3, .int .u8 0, .int .u8 1, .int .u8 0, .int .u8 2] 5)) 37 #[.int .u16 258, .int .u8 7, .slice (some ⟨w.heap.size, 0, none⟩) 5 5] _ (World.size_alloc _ _)
  have hb1 := ((Below.refl _ w).alloc (Nat.le_refl _) (.cells #[.int .u8 3, .int .u8 0, .int .u8 1, .int .u8 0, .int .u8 2] 5)).alloc (by simp) (.cells #[.int .u16 258, .int .u8 7, .slice (some ⟨w.heap.size, 0, none⟩) 5 5] 37)
  have hs1 : ((w.alloc (.cells #[.int .u8 3, .int .u8 0, .int .u8 1, .int .u8 0, .int .u8 2] 5)).alloc (.cells #[.int .u16 258, .int .u8 7, .slice (some ⟨w.heap.size, 0, none⟩) 5 5] 37)).heap.size = w.heap.size + 2 := by simp
  generalize (w.alloc (.cells #[.int .u8 3, .int .u8 0, .int .u8 1, .int .u8 0, .int .u8 2] 5)).alloc (.cells #[.int .u16 258, .int .u8 7, .slice (some ⟨w.heap.size, 0, none⟩) 5 5] 37) = w1 at *
  have rd1' : Rd w1 (some ⟨w.heap.size, 0, none⟩) (bs fr0.pdu) := rd1
  have hpk : Calls Try.prog 26 #[.agg #[.int .u16 258, .int .u8 7, .slice (some ⟨w.heap.size, 0, none⟩) 5 5]] w1 fun e w' => ∃ A' c', e = .returned (.tuple #[.slice A' 12 c', .int .i64 0]) ∧ Ow w' w1.heap.size 5 A' c' (bs [1, 2, 0, 0, 0, 6, 7, 3, 0, 1, 0, 2]) ∧ Below w1.heap.size w1 w' := by
    have := mb_Pack_ok fr0 (some ⟨w.heap.size, 0, none⟩) 5 5 w1 rd1' rfl fr0_ok fr0_right
    rw [fr0_pack] at this
    exact this
  have HPK := Lib.hid hpk
  clear hpk rd1 HB5
  refine HPK.out.mono ?_
  rintro e w2 ⟨A2, c2, rfl, ho2, hb2⟩
  have hb2' := bthen hb1 hb2
  have bx2 := bx1.all hb2
  have rd2 := rd1'.below hb2
  clear bx1 rd1' hb1
  have HL : Hid (bs [1, 2, 0, 0, 0, 6, 7, 3, 0, 1, 0, 2] = [.int .u8 1, .int .u8 2, .int .u8 0, .int .u8 0, .int .u8 0, .int .u8 6, .int .u8 7, .int .u8 3, .int .u8 0, .int .u8 1, .int .u8 0, .int .u8 2]) := rfl
  have hBL : Bs [1, 2, 0, 0, 0, 6, 7, 3, 0, 1, 0, 2] := by decide
  go_wp2_with fail
  have hbA := hb2'.alloc hb2'.size (.cells #[.int .u8 1, .int .u8 2, .int .u8 0, .int .u8 0, .int .u8 0, .int .u8 6, .int .u8 7, .int .u8 3, .int .u8 0, .int .u8 1, .int .u8 0, .int .u8 2] 5)
  refine (l06_Same A2 _ 12 c2 12 12 _ _ _ (ho2.rd.alloc _) (Rd.lit _ _ _ HL.out) hBL hBL rfl rfl).mono ?_
  rintro e w3 ⟨rfl, rfl⟩
  rw [sameB_self]
  have ho3 := ho2.alloc (.cells #[.int .u8 1, .int .u8 2, .int .u8 0, .int .u8 0, .int .u8 0, .int .u8 6, .int .u8 7, .int .u8 3, .int .u8 0, .int .u8 1, .int .u8 0, .int .u8 2] 5)
  have bx3 := bx2.alloc (.cells #[.int .u8 1, .int .u8 2, .int .u8 0, .int .u8 0, .int .u8 0, .int .u8 6, .int .u8 7, .int .u8 3, .int .u8 0, .int .u8 1, .int .u8 0, .int .u8 2] 5)
  have rd3 := rd2.alloc (.cells #[.int .u8 1, .int .u8 2, .int .u8 0, .int .u8 0, .int .u8 0, .int .u8 6, .int .u8 7, .int .u8 3, .int .u8 0, .int .u8 1, .int .u8 0, .int .u8 2] 5)
  generalize w2.alloc (.cells #[.int .u8 1, .int .u8 2, .int .u8 0, .int .u8 0, .int .u8 0, .int .u8 6, .int .u8 7, .int .u8 3, .int .u8 0, .int .u8 1, .int .u8 0, .int .u8 2] 5) = w3 at *
  clear hb2 hb2' ho2 bx2 rd2 HL
  have HE : Hid (bs [] = []) := rfl
  have H9 : Hid (bs [9] = [.int .u8 9]) := rfl
  have H991 : Hid (bs [9, 9, 1] = [.int .u8 9, .int .u8 9, .int .u8 1]) := rfl
  have r0 := Below.refl w3.heap.size w3
  go_wp2_with (at_builtin; refine app_b rfl _ _ rfl w3 (r0.alloc (Nat.le_refl _) _) _ _ _ [] rfl (Ow.lit _ _ _ [] (Nat.le_refl _) (Nat.zero_le _) HE.out rfl) rfl A2 12 c2 _ rfl (ho3.rd.alloc _) rfl (by omega) ?_)
  intro A4 c4 w4 ho4 hb4 hg4
  go_wp2_with (at_builtin; refine app_b rfl _ _ rfl w3 (hb4.alloc hb4.size _) _ _ _ _ rfl (ho4.alloc _) rfl _ 1 1 [9] rfl (Rd.lit _ _ _ H9.out) rfl (by omega) ?_)
  intro A5 c5 w5 ho5 hb5 hg5
  have hle5 := ho5.le
  go_wp2_with fail
  refine (mb_Cut A5 13 c5 [1, 2, 0, 0, 0, 6, 7, 3, 0, 1, 0, 2, 9] _ ho5.rd rfl (by decide) (by omega) (by simpa [bs] using hle5.1) (by simpa [maxLen] using hle5.2)).mono ?_
  rintro e w6 ⟨A6, c6, xs, hxs, rfl, ho6, hG6, hb6⟩
  obtain ⟨k1, k2, k3⟩ := cut_a
  rw [k2, k3]
  rw [k1] at hxs
  have hx1 : xs.length = 1 := by have := congrArg List.length hxs; simpa using this
  rw [hx1] at ho6 ⊢
  have HXS := Lib.hid hxs
  have HX1 := Lib.hid hx1
  have HG6 := Lib.hid hG6
  have hb36 := bthen hb5 hb6
  have hbw6 := bthen hbA hb36
  have rd6 := ho3.rd.below hb36
  have bx6 := bx3.all hb36
  have rdp6 := rd3.below hb36
  clear hxs hx1 hG6 k1 k2 k3 hb4 hb5 hb6 hg4 hg5 ho4 ho5 hle5 hb36 r0 ho3 rd3 bx3 hbA
  have r0 := Below.refl w6.heap.size w6
  go_wp2_with (at_builtin; refine app_b rfl _ _ rfl w6 (r0.alloc (Nat.le_refl _) _) _ _ _ [] rfl (Ow.lit _ _ _ [] (Nat.le_refl _) (Nat.zero_le _) HE.out rfl) rfl A2 12 c2 _ rfl (rd6.alloc _) rfl (by omega) ?_)
  intro A7 c7 w7 ho7 hb7 hg7
  go_wp2_with (at_builtin; refine app_b rfl _ _ rfl w6 (hb7.alloc hb7.size _) _ _ _ _ rfl (ho7.alloc _) rfl _ 3 3 [9, 9, 1] rfl (Rd.lit _ _ _ H991.out) rfl (by omega) ?_)
  intro A8 c8 w8 ho8 hb8 hg8
  have hle8 := ho8.le
  go_wp2_with fail
  refine (mb_Cut A8 15 c8 [1, 2, 0, 0, 0, 6, 7, 3, 0, 1, 0, 2, 9, 9, 1] _ ho8.rd rfl (by decide) (by omega) (by simpa [bs] using hle8.1) (by simpa [maxLen] using hle8.2)).mono ?_
  rintro e w9 ⟨A9, c9, ys, -, rfl, -, -, hb9⟩
  rw [cut_b]
  have hb69 := bthen hb8 hb9
  have hbw9 := bthen hbw6 hb69
  have ho9 := ho6.below hb69
  have bx9 := bx6.all hb69
  have rdp9 := rdp6.below hb69
  have HG9 : Hid (∀ x ∈ xs, x.R w9) := by (show ∀ _, _); intro x hx; exact (HG6.out x hx).r.below hb69
  clear hb7 hb8 hb9 hg7 hg8 ho7 ho8 hle8 hb69 r0 ho6 rdp6 bx6 rd6 HG6 hbw6 H9 H991 HE
  have HC : Hid (bs [0, 0, 0, 0, 0, 1, 7] = [.int .u8 0, .int .u8 0, .int .u8 0, .int .u8 0, .int .u8 0, .int .u8 1, .int .u8 7]) := rfl
  go_wp2_with fail
  refine (mb_Parse_no _ 7 7 [0, 0, 0, 0, 0, 1, 7] _ (Rd.lit _ _ _ HC.out) rfl (by decide) (by omega) (Nat.le_refl _) par_c).mono ?_
  rintro e w10 ⟨rfl, hb10⟩
  have hbB := (Below.refl _ w9).alloc (Nat.le_refl _) (.cells #[.int .u8 0, .int .u8 0, .int .u8 0, .int .u8 0, .int .u8 0, .int .u8 1, .int .u8 7] 5)
  have hb910 := bthen hbB hb10
  have hbw10 := bthen hbw9 hb910
  have ho10 := ho9.below hb910
  have bx10 := bx9.all hb910
  have rdp10 := rdp9.below hb910
  have HG10 : Hid (∀ x ∈ xs, x.R w10) := by (show ∀ _, _); intro x hx; exact (HG9.out x hx).below hb910
  clear hb10 hbB hb910 ho9 bx9 rdp9 HG9 hbw9 HC
  unfold frV
  obtain ⟨d0, d1, d2⟩ := bx10.c3
  have hlt := bx10.lt
  go_wp2_with fail
  have hbC := ((Below.refl _ w10).alloc (Nat.le_refl _) (.cells #[.int .u16 0, .int .u8 0, .slice none 0 0] 37)).alloc (by simp) (.cells #[.int .u16 258, .int .u8 7, .slice (some ⟨w.heap.size, 0, none⟩) 5 5] 37)
  have HF : Hid (fxs [⟨fr0, some ⟨w.heap.size, 0, none⟩, 5⟩] = [.int .u16 258, .int .u8 7, .slice (some ⟨w.heap.size, 0, none⟩) 5 5]) := rfl
  refine (l05_same A6 _ 1 c6 1 xs [⟨fr0, some ⟨w.heap.size, 0, none⟩, 5⟩] _ (ho10.rd.below hbC) (Rd.litAt _ _ _ _ (World.size_alloc _ _) HF.out) HX1.out rfl (fun x hx => (HG10.out x hx).below hbC) (fun x hx => ?_) (by rw [HXS.out]; rfl) (by omega)).mono ?_
  · simp only [List.mem_singleton] at hx
    subst hx
    exact ⟨rdp10.below hbC, fr0_ok.2.2⟩
  rintro e w11 ⟨rfl, k, rfl⟩
  go_wp2_with fail
  go_ret
  exact ⟨rfl, below_drewN (bthen hbw10 hbC) k⟩
end Go.Proofs.Ytheepgfafjinoaa
