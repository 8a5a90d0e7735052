/- The walks of the reference's check sums (saucierref01). -/
import Derived.Test.YtheepgfafjinoaaCrcB
import Derived.Deep.QuietTactic
import Derived.BigQuiet
namespace Go.Proofs.Ytheepgfafjinoaa
open Go.RowKit
set_option linter.unusedSimpArgs false
set_option linter.unusedVariables false

theorem nxt_shN (s c : Nat) : Crc.nxt s c = shN 8 (s ^^^ c) := rfl

set_option maxHeartbeats 400000 in
theorem ref1_Next (s c : Nat) (w : World) (hs : s < 65536) (hc : c < 256) :
    Calls Try.prog 20 #[.int .u16 s, .int .u8 c] w fun e w' => e = .returned (.int .u16 (Crc.nxt s c : Nat)) ∧ w = w' := by
  obtain ⟨x0, hx0⟩ : ∃ x, x = s ^^^ c := ⟨_, rfl⟩
  have e1 : bits .xor .u16 (s : Int) (c : Int) = (x0 : Int) := by rw [hx0]; exact u16_xor_nat s c hs (by omega)
  have hx : x0 < 65536 := by rw [hx0]; exact Crc.xor_lt16 hs (by omega)
  have HE : Hid (Crc.nxt s c = shN 8 x0) := by (show _ = _); rw [hx0]; rfl
  clear hx0
  go_enter Try.func20, Try.ntmps20
  go_wp2
  go_loop [0, 5] (fun x k => ∃ m : Nat, m ≤ 8 ∧ k = .int .i64 m ∧ x = .int .u16 (shN m x0 : Nat)) (fun _ k => 8 - (intOf k).toNat)
  case atStart => exact ⟨0, by omega, rfl, rfl⟩
  case round =>
    obtain ⟨m, hm, rfl, rfl⟩ := hrel
    have hxm := shN_lt m x0 hx
    have HS : Hid (shN (m + 1) x0 = Crc.sh (shN m x0)) := rfl
    obtain ⟨x, hxe⟩ : ∃ x, shN m x0 = x := ⟨_, rfl⟩
    have HX := Lib.hid hxe
    rw [hxe] at hxm ⊢
    clear hxe
    by_cases hlt : m < 8
    · by_cases hodd : x % 2 = 1
      · have o1 : (x : Int) % 2 = 1 := by omega
        have e2 := u16_sh1 x hxm hodd
        clear hodd
        go_wp2
        go_round
        case rel => exact ⟨m + 1, by omega, by go_num, by rw [HS.out, HX.out]⟩
        case measure => simp [intOf]; omega
      · have o1 : (x : Int) % 2 = 0 := by omega
        have HZ : Hid (Crc.sh x = x / 2) := by show Crc.sh x = _; unfold Crc.sh; rw [if_neg hodd]
        clear hodd
        go_wp2
        go_round
        case rel => exact ⟨m + 1, by omega, by go_num, by rw [HS.out, HX.out, HZ.out]; simp⟩
        case measure => simp [intOf]; omega
    · obtain rfl : m = 8 := by omega
      go_wp2
      go_ret
      exact ⟨ret_int (by rw [HE.out, HX.out]), rfl⟩

set_option maxHeartbeats 1000000 in
theorem ref1_Sum (A : Option Addr) (n c : Nat) (l : List Nat) (w : World) (hA : Rd w A (bs l)) (hn : l.length = n) (hl : Bs l) (hm : n ≤ 1000000000) :
    Calls Try.prog 21 #[.slice A n c] w fun e w' => e = .returned (.int .u16 (Crc.sum l : Nat)) ∧ w = w' := by
  have HN := Lib.hid hn
  clear hn
  go_enter Try.func21, Try.ntmps21
  go_wp2
  go_loopw [3, 4] (fun s i wr => ∃ k : Nat, k ≤ n ∧ i = .int .i64 k ∧ s = .int .u16 (Crc.sum (l.take k) : Nat) ∧ w = wr) (fun _ i _ => n - (intOf i).toNat)
  case atStart => exact ⟨0, by omega, rfl, rfl, rfl⟩
  case round =>
    obtain ⟨k, hk, rfl, rfl, rfl⟩ := hrel
    by_cases hlt : k < n
    · obtain ⟨b, off, x, rfl, hx, hcell⟩ := hA.byte (k := k) (by rw [HN.out]; exact hlt)
      have hxb := hl.get hx
      have HT := Lib.hid (take_snoc hx)
      have hs := Crc.sum_lt (hl.take k)
      clear hx hA
      go_wp2_with fail
      refine (ref1_Next _ x _ hs hxb).mono ?_
      rintro e w3 ⟨rfl, rfl⟩
      go_wp2_with fail
      go_roundw
      case rel => exact ⟨k + 1, by omega, by go_num, by rw [HT.out, Crc.sum_snoc], trivial⟩
      case measure => simp [intOf]; omega
    · go_wp2_with fail
      go_ret
      exact ⟨ret_int (by rw [List.take_of_length_le (by rw [HN.out]; omega)]), rfl⟩

set_option maxHeartbeats 400000 in
theorem ref1_Put (A : Option Addr) (n c : Nat) (l : List Nat) (w : World) (hA : Rd w A (bs l)) (hn : l.length = n) (hl : Bs l) (hm : n ≤ 1000000000) :
    Calls Try.prog 24 #[.slice A n c] w fun e w' => ∃ A' c', e = .returned (.slice A' (n + 2) c') ∧ Ow w' w.heap.size 5 A' c' (bs (putL l)) ∧ Below w.heap.size w w' := by
  have HN := Lib.hid hn
  clear hn
  have hs := Crc.sum_lt hl
  obtain ⟨s, hse⟩ : ∃ s, Crc.sum l = s := ⟨_, rfl⟩
  have HS := Lib.hid hse
  rw [hse] at hs
  clear hse
  have HB1 : Hid (bs [s % 256] = [.int .u8 ((s : Int) % 256)]) := by (show _ = _); simp [bs]
  have HB2 : Hid (bs [s / 256] = [.int .u8 ((s : Int) / 256)]) := by (show _ = _); simp [bs]
  go_enter Try.func24, Try.ntmps24
  go_wp2_with (at_builtin; refine app_b rfl _ _ rfl w (Below.refl _ _) _ _ _ [] rfl Ow.nil rfl A n c l rfl hA HN.out (by omega) ?_; intro A3 c3 w3 ho3 hb3 hg3; have HL3 : Hid (([] ++ l).length = n) := (by (show _ = _); simpa using HN.out))
  refine (ref1_Sum A n c l w3 (hA.below hb3) HN.out hl hm).mono ?_
  rintro e w4 ⟨rfl, rfl⟩
  rw [HS.out]
  go_wp2_with (first
    | (at_builtin; refine app_b rfl _ _ rfl w (hb5.alloc hb5.size _) _ _ _ _ rfl (ho5.alloc _) HL5.out _ 1 1 [s / 256] rfl (Rd.lit _ _ _ HB2.out) rfl (by omega) ?_; intro A6 c6 w6 ho6 hb6 hg6)
    | (at_builtin; refine app_b rfl _ _ rfl w (hb3.alloc hb3.size _) _ _ _ _ rfl (ho3.alloc _) HL3.out _ 1 1 [s % 256] rfl (Rd.lit _ _ _ HB1.out) rfl (by omega) ?_; intro A5 c5 w5 ho5 hb5 hg5; have HL5 : Hid (([] ++ l ++ [s % 256]).length = n + 1) := (by (show _ = _); simpa using HN.out)))
  go_ret
  exact ⟨A6, c6, rfl, by unfold putL; rw [HS.out]; simpa using ho6, hb6⟩

set_option maxHeartbeats 400000 in
theorem ref1_Cut_short (A : Option Addr) (n c : Nat) (w : World) (hm : n < 2) :
    Calls Try.prog 18 #[.slice A n c] w fun e w' => e = .returned (.tuple #[.slice none 0 0, .int .i64 10]) ∧ w = w' := by
  go_enter Try.func18, Try.ntmps18
  go_wp2
  go_ret2
  exact ⟨rfl, rfl⟩

set_option maxHeartbeats 1000000 in
theorem ref1_Cut_ok (b off m c : Nat) (x y : Nat) (l : List Nat) (w : World) (hA : Rd w (some ⟨b, off, none⟩) (bs l)) (hn : l.length = m) (hl : Bs l) (hm : m ≤ 1000000000)
    (hx : x < 256) (hy : y < 256) (h1 : w.cell? ⟨b, off + m, none⟩ = some (.int .u8 (x : Int))) (h2 : w.cell? ⟨b, off + (m + 1), none⟩ = some (.int .u8 (y : Int))) (hc : m + 2 ≤ c) (hs : Crc.sum l = x + 256 * y) :
    Calls Try.prog 18 #[.slice (some ⟨b, off, none⟩) (m + 2 : Nat) c] w fun e w' => ∃ A' c', e = .returned (.tuple #[.slice A' m c', .int .i64 0]) ∧ Ow w' w.heap.size 5 A' c' (bs l) ∧ Below w.heap.size w w' := by
  have HN := Lib.hid hn
  clear hn
  have hsb : ((x : Int) + 256 * (y : Int) != (Crc.sum l : Int)) = false := by simp only [bne_eq_false_iff_eq]; omega
  have hsl := Crc.sum_lt hl
  clear hs
  go_enter Try.func18, Try.ntmps18
  go_wp2_with fail
  refine (ref1_Sum _ m c l w hA HN.out hl hm).mono ?_
  rintro e w4 ⟨rfl, rfl⟩
  go_wp2_with fail
  have f0 : (0 : Int) ≤ (m : Int) := by omega
  have f1 : (m : Int) ≤ (c : Int) := by omega
  have f2 : (m : Int) < (m : Int) + 2 := by omega
  have f4 : (m : Int) + 1 < (m : Int) + 2 := by omega
  have f5 : (0 : Int) ≤ (m : Int) + 1 := by omega
  have f6 : ((m : Int) + 1).toNat = m + 1 := by omega
  have g1 : IntKind.i64.wrap (x : Int) = (x : Int) := IntWalk.i64_in _ (by omega)
  have g2 : IntKind.i64.wrap (y : Int) = (y : Int) := IntWalk.i64_in _ (by omega)
  have g3 : IntKind.i64.wrap (256 * (y : Int)) = 256 * (y : Int) := IntWalk.i64_in _ (by omega)
  have g4 : IntKind.i64.wrap ((x : Int) + 256 * (y : Int)) = (x : Int) + 256 * (y : Int) := IntWalk.i64_in _ (by omega)
  have g5 : IntKind.i64.wrap (Crc.sum l : Int) = (Crc.sum l : Int) := IntWalk.i64_in _ (by omega)
  have f3 : IntKind.i64.wrap ((m : Int) + 1) = (m : Int) + 1 := IntWalk.i64_in _ (by omega)
  go_quiet (fail)
  clear f0 f1 f2 f3 f4 f5 f6 g1 g2 g3 g4 g5
  go_wp2_with (at_builtin; refine app_b rfl _ _ rfl w (below_drewN (Below.refl _ _) _) _ _ _ [] rfl Ow.nil rfl _ m c l rfl (hA.drewN _) HN.out (by omega) ?_; intro A3 c3 w3 ho3 hb3 hg3)
  go_ret2
  exact ⟨_, _, rfl, ho3, hb3⟩

set_option maxHeartbeats 1000000 in
theorem ref1_Cut_bad (b off m c : Nat) (x y : Nat) (l : List Nat) (w : World) (hA : Rd w (some ⟨b, off, none⟩) (bs l)) (hn : l.length = m) (hl : Bs l) (hm : m ≤ 1000000000)
    (hx : x < 256) (hy : y < 256) (h1 : w.cell? ⟨b, off + m, none⟩ = some (.int .u8 (x : Int))) (h2 : w.cell? ⟨b, off + (m + 1), none⟩ = some (.int .u8 (y : Int))) (hc : m + 2 ≤ c) (hs : Crc.sum l ≠ x + 256 * y) :
    Calls Try.prog 18 #[.slice (some ⟨b, off, none⟩) (m + 2 : Nat) c] w fun e w' => e = .returned (.tuple #[.slice none 0 0, .int .i64 11]) ∧ Below w.heap.size w w' := by
  have HN := Lib.hid hn
  clear hn
  have hsb : ((x : Int) + 256 * (y : Int) != (Crc.sum l : Int)) = true := by simp only [bne_iff_ne]; omega
  have hsl := Crc.sum_lt hl
  clear hs
  go_enter Try.func18, Try.ntmps18
  go_wp2_with fail
  refine (ref1_Sum _ m c l w hA HN.out hl hm).mono ?_
  rintro e w4 ⟨rfl, rfl⟩
  go_wp2_with fail
  have f0 : (0 : Int) ≤ (m : Int) := by omega
  have f1 : (m : Int) ≤ (c : Int) := by omega
  have f2 : (m : Int) < (m : Int) + 2 := by omega
  have f4 : (m : Int) + 1 < (m : Int) + 2 := by omega
  have f5 : (0 : Int) ≤ (m : Int) + 1 := by omega
  have f6 : ((m : Int) + 1).toNat = m + 1 := by omega
  have g1 : IntKind.i64.wrap (x : Int) = (x : Int) := IntWalk.i64_in _ (by omega)
  have g2 : IntKind.i64.wrap (y : Int) = (y : Int) := IntWalk.i64_in _ (by omega)
  have g3 : IntKind.i64.wrap (256 * (y : Int)) = 256 * (y : Int) := IntWalk.i64_in _ (by omega)
  have g4 : IntKind.i64.wrap ((x : Int) + 256 * (y : Int)) = (x : Int) + 256 * (y : Int) := IntWalk.i64_in _ (by omega)
  have g5 : IntKind.i64.wrap (Crc.sum l : Int) = (Crc.sum l : Int) := IntWalk.i64_in _ (by omega)
  have f3 : IntKind.i64.wrap ((m : Int) + 1) = (m : Int) + 1 := IntWalk.i64_in _ (by omega)
  go_quiet (fail)
  clear f0 f1 f2 f3 f4 f5 f6 g1 g2 g3 g4 g5
  go_wp2_with fail
  go_ret2
  exact ⟨rfl, below_drewN (Below.refl _ _) _⟩

/-! ### the contracts of both, whatever the bytes -/
theorem Rd.two {w : World} {A : Option Addr} {l : List Nat} {m : Nat} (h : Rd w A (bs l)) (hn : l.length = m + 2) (hl : Bs l) :
    ∃ b off x y, A = some ⟨b, off, none⟩ ∧ x < 256 ∧ y < 256 ∧ l[m]? = some x ∧ l[m + 1]? = some y ∧ w.cell? ⟨b, off + m, none⟩ = some (.int .u8 (x : Int)) ∧ w.cell? ⟨b, off + (m + 1), none⟩ = some (.int .u8 (y : Int)) := by
  obtain ⟨b, off, x, rfl, hx, hc⟩ := h.byte (k := m) (by omega)
  obtain ⟨b', off', y, he, hy, hc'⟩ := h.byte (k := m + 1) (by omega)
  injection he with he
  injection he with h1 h2
  subst h1 h2
  exact ⟨b, off, x, y, rfl, hl.get hx, hl.get hy, hx, hy, hc, hc'⟩
theorem cutE_long {l : List Nat} {m x y : Nat} (hn : l.length = m + 2) (hx : l[m]? = some x) (hy : l[m + 1]? = some y) : cutE l = if Crc.sum (l.take m) = x + 256 * y then 0 else 11 := by
  unfold cutE
  rw [if_neg (by omega), hn, Nat.add_sub_cancel, show m + 2 - 1 = m + 1 from rfl]
  simp only [List.getD_eq_getElem?_getD, hx, hy, Option.getD_some]
theorem cutL_ok {l : List Nat} {m : Nat} (hn : l.length = m + 2) (h : cutE l = 0) : cutL l = l.take m := by
  unfold cutL
  rw [if_pos h, hn, Nat.add_sub_cancel]
theorem cutL_bad {l : List Nat} (h : cutE l ≠ 0) : cutL l = [] := by unfold cutL; rw [if_neg h]

/-- what Cut answers -/
def CutPost (w : World) (l : List Nat) (e : Ending) (w' : World) : Prop :=
  ∃ A' c', e = .returned (.tuple #[.slice A' (cutL l).length c', .int .i64 (cutE l : Nat)]) ∧ Ow w' w.heap.size 5 A' c' (bs (cutL l)) ∧ Below w.heap.size w w'

theorem crc_Cut (A : Option Addr) (n c : Nat) (l : List Nat) (w : World) (hA : Rd w A (bs l)) (hn : l.length = n) (hl : Bs l) (hm : n ≤ 1000000000) (hc : n ≤ c) :
    Calls Try.prog 17 #[.slice A n c] w (CutPost w l) := by
  by_cases h2 : n < 2
  · have e1 : cutE l = 10 := by unfold cutE; rw [if_pos (by omega)]
    refine (crc_Cut_short A n c w h2).mono ?_
    rintro e w' ⟨rfl, rfl⟩
    refine ⟨none, 0, ?_, ?_, Below.refl _ _⟩
    · rw [cutL_bad (by rw [e1]; decide), e1]; rfl
    · rw [cutL_bad (by rw [e1]; decide)]; exact Ow.nil
  · obtain ⟨m, rfl⟩ : ∃ m, n = m + 2 := ⟨n - 2, by omega⟩
    obtain ⟨b, off, x, y, rfl, hx, hy, gx, gy, h1, h2⟩ := hA.two hn hl
    have e0 := cutE_long hn gx gy
    by_cases e : Crc.sum (l.take m) = x + 256 * y
    · rw [if_pos e] at e0
      refine (crc_Cut_ok (b := b) (off := off) (m := m) (c := c) (x := x) (y := y) (l := l.take m) (k := l) (w := w) (hA.btake m) (by simp; omega) (hl.take m) (by omega) hx hy h1 h2 (by omega) hn rfl hA e).mono ?_
      rintro e w' ⟨A', c', rfl, ho, hb⟩
      refine ⟨A', c', ?_, ?_, hb⟩
      · rw [cutL_ok hn e0, e0, List.length_take, hn, Nat.min_eq_left (by omega)]; rfl
      · rw [cutL_ok hn e0]; exact ho
    · rw [if_neg e] at e0
      refine (crc_Cut_bad b off m c x y (l.take m) w (hA.btake m) (by simp; omega) (hl.take m) (by omega) hx hy h1 h2 (by omega) e).mono ?_
      rintro e w' ⟨rfl, hb⟩
      refine ⟨none, 0, ?_, ?_, hb⟩
      · rw [cutL_bad (by rw [e0]; decide), e0]; rfl
      · rw [cutL_bad (by rw [e0]; decide)]; exact Ow.nil

theorem ref1_Cut (A : Option Addr) (n c : Nat) (l : List Nat) (w : World) (hA : Rd w A (bs l)) (hn : l.length = n) (hl : Bs l) (hm : n ≤ 1000000000) (hc : n ≤ c) :
    Calls Try.prog 18 #[.slice A n c] w (CutPost w l) := by
  by_cases h2 : n < 2
  · have e1 : cutE l = 10 := by unfold cutE; rw [if_pos (by omega)]
    refine (ref1_Cut_short A n c w h2).mono ?_
    rintro e w' ⟨rfl, rfl⟩
    refine ⟨none, 0, ?_, ?_, Below.refl _ _⟩
    · rw [cutL_bad (by rw [e1]; decide), e1]; rfl
    · rw [cutL_bad (by rw [e1]; decide)]; exact Ow.nil
  · obtain ⟨m, rfl⟩ : ∃ m, n = m + 2 := ⟨n - 2, by omega⟩
    obtain ⟨b, off, x, y, rfl, hx, hy, gx, gy, h1, h2⟩ := hA.two hn hl
    have e0 := cutE_long hn gx gy
    by_cases e : Crc.sum (l.take m) = x + 256 * y
    · rw [if_pos e] at e0
      refine (ref1_Cut_ok (b := b) (off := off) (m := m) (c := c) (x := x) (y := y) (l := l.take m) (w := w) (hA.btake m) (by simp; omega) (hl.take m) (by omega) hx hy h1 h2 (by omega) e).mono ?_
      rintro e w' ⟨A', c', rfl, ho, hb⟩
      refine ⟨A', c', ?_, ?_, hb⟩
      · rw [cutL_ok hn e0, e0, List.length_take, hn, Nat.min_eq_left (by omega)]; rfl
      · rw [cutL_ok hn e0]; exact ho
    · rw [if_neg e] at e0
      refine (ref1_Cut_bad b off m c x y (l.take m) w (hA.btake m) (by simp; omega) (hl.take m) (by omega) hx hy h1 h2 (by omega) e).mono ?_
      rintro e w' ⟨rfl, hb⟩
      refine ⟨none, 0, ?_, ?_, hb⟩
      · rw [cutL_bad (by rw [e0]; decide), e0]; rfl
      · rw [cutL_bad (by rw [e0]; decide)]; exact Ow.nil
end Go.Proofs.Ytheepgfafjinoaa
