/- The walks of mbap.Pack and mbap.Parse. -/
import Derived.Test.YtheepgfafjinoaaMbapC
namespace Go.Proofs.Ytheepgfafjinoaa
open Go.RowKit
set_option linter.unusedSimpArgs false
set_option linter.unusedVariables false

set_option maxHeartbeats 1000000 in
theorem mb_Pack_no (f : Fr) (A : Option Addr) (n c : Nat) (w : World) (hn : f.pdu.length = n) (hno : f.right = false) (hm : n ≤ 1000000000) :
    Calls Try.prog 26 #[frV f.tx f.unit A n c] w fun e w' => e = .returned (.tuple #[.slice none 0 0, .int .i64 2]) ∧ Below w.heap.size w w' := by
  have hr : n < 1 ∨ 253 < n := by
    simp only [Fr.right, decide_eq_false_iff_not] at hno
    omega
  clear hn hno
  unfold frV
  rcases hr with h | h
  · go_enter Try.func26, Try.ntmps26
    go_wp2_with fail
    go_ret2
    exact ⟨rfl, (Below.refl _ _).alloc (Nat.le_refl _) _⟩
  · go_enter Try.func26, Try.ntmps26
    go_wp2_with fail
    go_ret2
    exact ⟨rfl, (Below.refl _ _).alloc (Nat.le_refl _) _⟩

set_option maxHeartbeats 1000000 in
theorem mb_Pack_ok (f : Fr) (A : Option Addr) (n c : Nat) (w : World) (hA : Rd w A (bs f.pdu)) (hn : f.pdu.length = n) (hok : f.ok) (hri : f.right = true) :
    Calls Try.prog 26 #[frV f.tx f.unit A n c] w fun e w' => ∃ A' c', e = .returned (.tuple #[.slice A' (7 + n) c', .int .i64 0]) ∧ Ow w' w.heap.size 5 A' c' (bs (packF f)) ∧ Below w.heap.size w w' := by
  have hr : 1 ≤ n ∧ n ≤ 253 := by
    simp only [Fr.right, decide_eq_true_eq] at hri
    omega
  obtain ⟨hr1, hr2⟩ := hr
  obtain ⟨ht, hu, hp⟩ := hok
  obtain ⟨tx, un, pdu⟩ := f
  simp only at hA hn ht hu hp
  have HN := Lib.hid hn
  have HB : Hid (bs [tx / 256, tx % 256, 0, 0, 0, n + 1, un] = [.int .u8 ((tx : Int) / 256), .int .u8 ((tx : Int) % 256), .int .u8 0, .int .u8 0, .int .u8 0, .int .u8 ((n : Int) + 1), .int .u8 (un : Int)]) := by (show _ = _); simp [bs]
  clear hn hri
  unfold frV
  have hb1 := (Below.refl _ w).alloc (Nat.le_refl _) (.cells #[.int .u16 (tx : Int), .int .u8 (un : Int), .slice A n c] 37)
  have bx := Blk.new w 37 #[.int .u16 (tx : Int), .int .u8 (un : Int), .slice A n c]
  go_enter Try.func26, Try.ntmps26
  go_wp2_with (at_make; refine mk0_b rfl _ _ rfl w hb1 _ _ _ (n + 7) rfl rfl (by omega) (by omega) ?_)
  intro w2 ho2 hb2 hg2
  have bx2 := bx.grown hg2 (by simp)
  obtain ⟨d0, d1, d2⟩ := bx2.c3
  go_wp2_with (at_builtin; refine app_b rfl _ _ rfl w (hb2.alloc hb2.size _) _ _ _ _ rfl (ho2.alloc _) rfl _ 7 7 [tx / 256, tx % 256, 0, 0, 0, n + 1, un] rfl (Rd.lit _ _ _ HB.out) rfl (by omega) ?_)
  intro A4 c4 w4 ho4 hb4 hg4
  have bx4 := bx2.pass ho2 (by decide) hg4
  obtain ⟨e0, e1, e2⟩ := bx4.c3
  have hA4 := hA.below hb4
  go_wp2_with (at_builtin; refine app_b rfl _ _ rfl w hb4 _ _ _ _ rfl ho4 rfl A n c pdu rfl hA4 HN.out (by omega) ?_)
  intro A5 c5 w5 ho5 hb5 hg5
  go_wp2_with fail
  go_ret2
  refine ⟨A5, c5, rfl, ?_, hb5⟩
  unfold packF
  rw [HN.out]
  exact ho5
end Go.Proofs.Ytheepgfafjinoaa
