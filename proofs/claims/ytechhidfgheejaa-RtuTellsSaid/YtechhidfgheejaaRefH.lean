/- The reference of chapter 4: Bytes, Parse, Ask, Reply (written by gen_refh.py). With: The walks of the reference's check sums (saucierref01). -/
import Derived.Test.YtechhidfgheejaaCrcB
import Derived.Deep.QuietTactic
import Derived.BigQuiet
import Derived.Test.YtechhidfgheejaaRtuB
import Derived.Test.YtechhidfgheejaaRefC
import Derived.Test.YtechhidfgheejaaRefRE
namespace Go.Proofs.Ytechhidfgheejaa
open Go.RowKit
set_option linter.unusedSimpArgs false
set_option linter.unusedVariables false

theorem nxt_shN (s c : Nat) : Crc.nxt s c = shN 8 (s ^^^ c) := rfl

set_option maxHeartbeats 400000 in
theorem ref1_Next (s c : Nat) (w : World) (hs : s < 65536) (hc : c < 256) :
    Calls Try.prog 102 #[.int .u16 s, .int .u8 c] w fun e w' => e = .returned (.int .u16 (Crc.nxt s c : Nat)) ∧ w = w' := by
  obtain ⟨x0, hx0⟩ : ∃ x, x = s ^^^ c := ⟨_, rfl⟩
  have e1 : bits .xor .u16 (s : Int) (c : Int) = (x0 : Int) := by rw [hx0]; exact u16_xor_nat s c hs (by omega)
  have hx : x0 < 65536 := by rw [hx0]; exact Crc.xor_lt16 hs (by omega)
  have HE : Hid (Crc.nxt s c = shN 8 x0) := by (show _ = _); rw [hx0]; rfl
  clear hx0
  go_enter Try.func102, Try.ntmps102
  go_wp2
  go_loop [0, 5] (fun x k => ∃ m : Nat, m ≤ 8 ∧ k = .int .i64 m ∧ x = .int .u16 (shN m x0 : Nat)) (fun _ k => 8 - (intOf k).toNat)
  case atStart => exact ⟨0, by omega, rfl, rfl⟩
  case round =>
    obtain ⟨m, hm, rfl, rfl⟩ := hrel
    have hxm := shN_lt m x0 hx
    have HS : Hid (shN (m + 1) x0 = Crc.sh (shN m x0)) := rfl
    obtain ⟨x, hxe⟩ : ∃ x, shN m x0 = x := ⟨_, rfl⟩
    have HX := Lib.hid hxe
    rw [hxe] at hxm ⊢
    clear hxe
    by_cases hlt : m < 8
    · by_cases hodd : x % 2 = 1
      · have o1 : (x : Int) % 2 = 1 := by omega
        have e2 := u16_sh1 x hxm hodd
        clear hodd
        go_wp2
        go_round
        case rel => exact ⟨m + 1, by omega, by go_num, by rw [HS.out, HX.out]⟩
        case measure => simp [intOf]; omega
      · have o1 : (x : Int) % 2 = 0 := by omega
        have HZ : Hid (Crc.sh x = x / 2) := by show Crc.sh x = _; unfold Crc.sh; rw [if_neg hodd]
        clear hodd
        go_wp2
        go_round
        case rel => exact ⟨m + 1, by omega, by go_num, by rw [HS.out, HX.out, HZ.out]; simp⟩
        case measure => simp [intOf]; omega
    · obtain rfl : m = 8 := by omega
      go_wp2
      go_ret
      exact ⟨ret_int (by rw [HE.out, HX.out]), rfl⟩

set_option maxHeartbeats 1000000 in
theorem ref1_Sum (A : Option Addr) (n c : Nat) (l : List Nat) (w : World) (hA : Rd w A (bs l)) (hn : l.length = n) (hl : Bs l) (hm : n ≤ 1000000000) :
    Calls Try.prog 99 #[.slice A n c] w fun e w' => e = .returned (.int .u16 (Crc.sum l : Nat)) ∧ w = w' := by
  have HN := Lib.hid hn
  clear hn
  go_enter Try.func99, Try.ntmps99
  go_wp2
  go_loopw [3, 4] (fun s i wr => ∃ k : Nat, k ≤ n ∧ i = .int .i64 k ∧ s = .int .u16 (Crc.sum (l.take k) : Nat) ∧ w = wr) (fun _ i _ => n - (intOf i).toNat)
  case atStart => exact ⟨0, by omega, rfl, rfl, rfl⟩
  case round =>
    obtain ⟨k, hk, rfl, rfl, rfl⟩ := hrel
    by_cases hlt : k < n
    · obtain ⟨b, off, x, rfl, hx, hcell⟩ := hA.byte (k := k) (by rw [HN.out]; exact hlt)
      have hxb := hl.get hx
      have HT := Lib.hid (take_snoc hx)
      have hs := Crc.sum_lt (hl.take k)
      clear hx hA
      go_wp2_with fail
      refine (ref1_Next _ x _ hs hxb).mono ?_
      rintro e w3 ⟨rfl, rfl⟩
      go_wp2_with fail
      go_roundw
      case rel => exact ⟨k + 1, by omega, by go_num, by rw [HT.out, Crc.sum_snoc], trivial⟩
      case measure => simp [intOf]; omega
    · go_wp2_with fail
      go_ret
      exact ⟨ret_int (by rw [List.take_of_length_le (by rw [HN.out]; omega)]), rfl⟩

set_option maxHeartbeats 400000 in
theorem ref1_Put (A : Option Addr) (n c : Nat) (l : List Nat) (w : World) (hA : Rd w A (bs l)) (hn : l.length = n) (hl : Bs l) (hm : n ≤ 1000000000) :
    Calls Try.prog 87 #[.slice A n c] w fun e w' => ∃ A' c', e = .returned (.slice A' (n + 2) c') ∧ Ow w' w.heap.size 5 A' c' (bs (putL l)) ∧ Below w.heap.size w w' := by
  have HN := Lib.hid hn
  clear hn
  have hs := Crc.sum_lt hl
  obtain ⟨s, hse⟩ : ∃ s, Crc.sum l = s := ⟨_, rfl⟩
  have HS := Lib.hid hse
  rw [hse] at hs
  clear hse
  have HB1 : Hid (bs [s % 256] = [.int .u8 ((s : Int) % 256)]) := by (show _ = _); simp [bs]
  have HB2 : Hid (bs [s / 256] = [.int .u8 ((s : Int) / 256)]) := by (show _ = _); simp [bs]
  go_enter Try.func87, Try.ntmps87
  go_wp2_with (at_builtin; refine app_b rfl _ _ rfl w (Below.refl _ _) _ _ _ [] rfl Ow.nil rfl A n c l rfl hA HN.out (by omega) ?_; intro A3 c3 w3 ho3 hb3 hg3; have HL3 : Hid (([] ++ l).length = n) := (by (show _ = _); simpa using HN.out))
  refine (ref1_Sum A n c l w3 (hA.below hb3) HN.out hl hm).mono ?_
  rintro e w4 ⟨rfl, rfl⟩
  rw [HS.out]
  go_wp2_with (first
    | (at_builtin; refine app_b rfl _ _ rfl w (hb5.alloc hb5.size _) _ _ _ _ rfl (ho5.alloc _) HL5.out _ 1 1 [s / 256] rfl (Rd.lit _ _ _ HB2.out) rfl (by omega) ?_; intro A6 c6 w6 ho6 hb6 hg6)
    | (at_builtin; refine app_b rfl _ _ rfl w (hb3.alloc hb3.size _) _ _ _ _ rfl (ho3.alloc _) HL3.out _ 1 1 [s % 256] rfl (Rd.lit _ _ _ HB1.out) rfl (by omega) ?_; intro A5 c5 w5 ho5 hb5 hg5; have HL5 : Hid (([] ++ l ++ [s % 256]).length = n + 1) := (by (show _ = _); simpa using HN.out)))
  go_ret
  exact ⟨A6, c6, rfl, by unfold putL; rw [HS.out]; simpa using ho6, hb6⟩

set_option maxHeartbeats 400000 in
theorem ref1_Cut_short (A : Option Addr) (n c : Nat) (w : World) (hm : n < 2) :
    Calls Try.prog 89 #[.slice A n c] w fun e w' => e = .returned (.tuple #[.slice none 0 0, .int .i64 10]) ∧ w = w' := by
  go_enter Try.func89, Try.ntmps89
  go_wp2
  go_ret2
  exact ⟨rfl, rfl⟩

set_option maxHeartbeats 1000000 in
theorem ref1_Cut_ok (b off m c : Nat) (x y : Nat) (l : List Nat) (w : World) (hA : Rd w (some ⟨b, off, none⟩) (bs l)) (hn : l.length = m) (hl : Bs l) (hm : m ≤ 1000000000)
    (hx : x < 256) (hy : y < 256) (h1 : w.cell? ⟨b, off + m, none⟩ = some (.int .u8 (x : Int))) (h2 : w.cell? ⟨b, off + (m + 1), none⟩ = some (.int .u8 (y : Int))) (hc : m + 2 ≤ c) (hs : Crc.sum l = x + 256 * y) :
    Calls Try.prog 89 #[.slice (some ⟨b, off, none⟩) (m + 2 : Nat) c] w fun e w' => ∃ A' c', e = .returned (.tuple #[.slice A' m c', .int .i64 0]) ∧ Ow w' w.heap.size 5 A' c' (bs l) ∧ Below w.heap.size w w' := by
  have HN := Lib.hid hn
  clear hn
  have hsb : ((x : Int) + 256 * (y : Int) != (Crc.sum l : Int)) = false := by simp only [bne_eq_false_iff_eq]; omega
  have hsl := Crc.sum_lt hl
  clear hs
  go_enter Try.func89, Try.ntmps89
  go_wp2_with fail
  refine (ref1_Sum _ m c l w hA HN.out hl hm).mono ?_
  rintro e w4 ⟨rfl, rfl⟩
  go_wp2_with fail
  have f0 : (0 : Int) ≤ (m : Int) := by omega
  have f1 : (m : Int) ≤ (c : Int) := by omega
  have f2 : (m : Int) < (m : Int) + 2 := by omega
  have f4 : (m : Int) + 1 < (m : Int) + 2 := by omega
  have f5 : (0 : Int) ≤ (m : Int) + 1 := by omega
  have f6 : ((m : Int) + 1).toNat = m + 1 := by omega
  have g1 : IntKind.i64.wrap (x : Int) = (x : Int) := IntWalk.i64_in _ (by omega)
  have g2 : IntKind.i64.wrap (y : Int) = (y : Int) := IntWalk.i64_in _ (by omega)
  have g3 : IntKind.i64.wrap (256 * (y : Int)) = 256 * (y : Int) := IntWalk.i64_in _ (by omega)
  have g4 : IntKind.i64.wrap ((x : Int) + 256 * (y : Int)) = (x : Int) + 256 * (y : Int) := IntWalk.i64_in _ (by omega)
  have g5 : IntKind.i64.wrap (Crc.sum l : Int) = (Crc.sum l : Int) := IntWalk.i64_in _ (by omega)
  have f3 : IntKind.i64.wrap ((m : Int) + 1) = (m : Int) + 1 := IntWalk.i64_in _ (by omega)
  go_quiet (fail)
  clear f0 f1 f2 f3 f4 f5 f6 g1 g2 g3 g4 g5
  go_wp2_with (at_builtin; refine app_b rfl _ _ rfl w (below_drewN (Below.refl _ _) _) _ _ _ [] rfl Ow.nil rfl _ m c l rfl (hA.drewN _) HN.out (by omega) ?_; intro A3 c3 w3 ho3 hb3 hg3)
  go_ret2
  exact ⟨_, _, rfl, ho3, hb3⟩

set_option maxHeartbeats 1000000 in
theorem ref1_Cut_bad (b off m c : Nat) (x y : Nat) (l : List Nat) (w : World) (hA : Rd w (some ⟨b, off, none⟩) (bs l)) (hn : l.length = m) (hl : Bs l) (hm : m ≤ 1000000000)
    (hx : x < 256) (hy : y < 256) (h1 : w.cell? ⟨b, off + m, none⟩ = some (.int .u8 (x : Int))) (h2 : w.cell? ⟨b, off + (m + 1), none⟩ = some (.int .u8 (y : Int))) (hc : m + 2 ≤ c) (hs : Crc.sum l ≠ x + 256 * y) :
    Calls Try.prog 89 #[.slice (some ⟨b, off, none⟩) (m + 2 : Nat) c] w fun e w' => e = .returned (.tuple #[.slice none 0 0, .int .i64 11]) ∧ Below w.heap.size w w' := by
  have HN := Lib.hid hn
  clear hn
  have hsb : ((x : Int) + 256 * (y : Int) != (Crc.sum l : Int)) = true := by simp only [bne_iff_ne]; omega
  have hsl := Crc.sum_lt hl
  clear hs
  go_enter Try.func89, Try.ntmps89
  go_wp2_with fail
  refine (ref1_Sum _ m c l w hA HN.out hl hm).mono ?_
  rintro e w4 ⟨rfl, rfl⟩
  go_wp2_with fail
  have f0 : (0 : Int) ≤ (m : Int) := by omega
  have f1 : (m : Int) ≤ (c : Int) := by omega
  have f2 : (m : Int) < (m : Int) + 2 := by omega
  have f4 : (m : Int) + 1 < (m : Int) + 2 := by omega
  have f5 : (0 : Int) ≤ (m : Int) + 1 := by omega
  have f6 : ((m : Int) + 1).toNat = m + 1 := by omega
  have g1 : IntKind.i64.wrap (x : Int) = (x : Int) := IntWalk.i64_in _ (by omega)
  have g2 : IntKind.i64.wrap (y : Int) = (y : Int) := IntWalk.i64_in _ (by omega)
  have g3 : IntKind.i64.wrap (256 * (y : Int)) = 256 * (y : Int) := IntWalk.i64_in _ (by omega)
  have g4 : IntKind.i64.wrap ((x : Int) + 256 * (y : Int)) = (x : Int) + 256 * (y : Int) := IntWalk.i64_in _ (by omega)
  have g5 : IntKind.i64.wrap (Crc.sum l : Int) = (Crc.sum l : Int) := IntWalk.i64_in _ (by omega)
  have f3 : IntKind.i64.wrap ((m : Int) + 1) = (m : Int) + 1 := IntWalk.i64_in _ (by omega)
  go_quiet (fail)
  clear f0 f1 f2 f3 f4 f5 f6 g1 g2 g3 g4 g5
  go_wp2_with fail
  go_ret2
  exact ⟨rfl, below_drewN (Below.refl _ _) _⟩

/-! ### the contracts of both, whatever the bytes -/
theorem Rd.two {w : World} {A : Option Addr} {l : List Nat} {m : Nat} (h : Rd w A (bs l)) (hn : l.length = m + 2) (hl : Bs l) :
    ∃ b off x y, A = some ⟨b, off, none⟩ ∧ x < 256 ∧ y < 256 ∧ l[m]? = some x ∧ l[m + 1]? = some y ∧ w.cell? ⟨b, off + m, none⟩ = some (.int .u8 (x : Int)) ∧ w.cell? ⟨b, off + (m + 1), none⟩ = some (.int .u8 (y : Int)) := by
  obtain ⟨b, off, x, rfl, hx, hc⟩ := h.byte (k := m) (by omega)
  obtain ⟨b', off', y, he, hy, hc'⟩ := h.byte (k := m + 1) (by omega)
  injection he with he
  injection he with h1 h2
  subst h1 h2
  exact ⟨b, off, x, y, rfl, hl.get hx, hl.get hy, hx, hy, hc, hc'⟩
theorem cutE_long {l : List Nat} {m x y : Nat} (hn : l.length = m + 2) (hx : l[m]? = some x) (hy : l[m + 1]? = some y) : cutE l = if Crc.sum (l.take m) = x + 256 * y then 0 else 11 := by
  unfold cutE
  rw [if_neg (by omega), hn, Nat.add_sub_cancel, show m + 2 - 1 = m + 1 from rfl]
  simp only [List.getD_eq_getElem?_getD, hx, hy, Option.getD_some]
theorem cutL_ok {l : List Nat} {m : Nat} (hn : l.length = m + 2) (h : cutE l = 0) : cutL l = l.take m := by
  unfold cutL
  rw [if_pos h, hn, Nat.add_sub_cancel]
theorem cutL_bad {l : List Nat} (h : cutE l ≠ 0) : cutL l = [] := by unfold cutL; rw [if_neg h]

/-- what Cut answers -/
def CutPost (w : World) (l : List Nat) (e : Ending) (w' : World) : Prop :=
  ∃ A' c', e = .returned (.tuple #[.slice A' (cutL l).length c', .int .i64 (cutE l : Nat)]) ∧ Ow w' w.heap.size 5 A' c' (bs (cutL l)) ∧ Below w.heap.size w w'

theorem crc_Cut (A : Option Addr) (n c : Nat) (l : List Nat) (w : World) (hA : Rd w A (bs l)) (hn : l.length = n) (hl : Bs l) (hm : n ≤ 1000000000) (hc : n ≤ c) :
    Calls Try.prog 88 #[.slice A n c] w (CutPost w l) := by
  by_cases h2 : n < 2
  · have e1 : cutE l = 10 := by unfold cutE; rw [if_pos (by omega)]
    refine (crc_Cut_short A n c w h2).mono ?_
    rintro e w' ⟨rfl, rfl⟩
    refine ⟨none, 0, ?_, ?_, Below.refl _ _⟩
    · rw [cutL_bad (by rw [e1]; decide), e1]; rfl
    · rw [cutL_bad (by rw [e1]; decide)]; exact Ow.nil
  · obtain ⟨m, rfl⟩ : ∃ m, n = m + 2 := ⟨n - 2, by omega⟩
    obtain ⟨b, off, x, y, rfl, hx, hy, gx, gy, h1, h2⟩ := hA.two hn hl
    have e0 := cutE_long hn gx gy
    by_cases e : Crc.sum (l.take m) = x + 256 * y
    · rw [if_pos e] at e0
      refine (crc_Cut_ok (b := b) (off := off) (m := m) (c := c) (x := x) (y := y) (l := l.take m) (k := l) (w := w) (hA.btake m) (by simp; omega) (hl.take m) (by omega) hx hy h1 h2 (by omega) hn rfl hA e).mono ?_
      rintro e w' ⟨A', c', rfl, ho, hb⟩
      refine ⟨A', c', ?_, ?_, hb⟩
      · rw [cutL_ok hn e0, e0, List.length_take, hn, Nat.min_eq_left (by omega)]; rfl
      · rw [cutL_ok hn e0]; exact ho
    · rw [if_neg e] at e0
      refine (crc_Cut_bad b off m c x y (l.take m) w (hA.btake m) (by simp; omega) (hl.take m) (by omega) hx hy h1 h2 (by omega) e).mono ?_
      rintro e w' ⟨rfl, hb⟩
      refine ⟨none, 0, ?_, ?_, hb⟩
      · rw [cutL_bad (by rw [e0]; decide), e0]; rfl
      · rw [cutL_bad (by rw [e0]; decide)]; exact Ow.nil

theorem ref1_Cut (A : Option Addr) (n c : Nat) (l : List Nat) (w : World) (hA : Rd w A (bs l)) (hn : l.length = n) (hl : Bs l) (hm : n ≤ 1000000000) (hc : n ≤ c) :
    Calls Try.prog 89 #[.slice A n c] w (CutPost w l) := by
  by_cases h2 : n < 2
  · have e1 : cutE l = 10 := by unfold cutE; rw [if_pos (by omega)]
    refine (ref1_Cut_short A n c w h2).mono ?_
    rintro e w' ⟨rfl, rfl⟩
    refine ⟨none, 0, ?_, ?_, Below.refl _ _⟩
    · rw [cutL_bad (by rw [e1]; decide), e1]; rfl
    · rw [cutL_bad (by rw [e1]; decide)]; exact Ow.nil
  · obtain ⟨m, rfl⟩ : ∃ m, n = m + 2 := ⟨n - 2, by omega⟩
    obtain ⟨b, off, x, y, rfl, hx, hy, gx, gy, h1, h2⟩ := hA.two hn hl
    have e0 := cutE_long hn gx gy
    by_cases e : Crc.sum (l.take m) = x + 256 * y
    · rw [if_pos e] at e0
      refine (ref1_Cut_ok (b := b) (off := off) (m := m) (c := c) (x := x) (y := y) (l := l.take m) (w := w) (hA.btake m) (by simp; omega) (hl.take m) (by omega) hx hy h1 h2 (by omega) e).mono ?_
      rintro e w' ⟨A', c', rfl, ho, hb⟩
      refine ⟨A', c', ?_, ?_, hb⟩
      · rw [cutL_ok hn e0, e0, List.length_take, hn, Nat.min_eq_left (by omega)]; rfl
      · rw [cutL_ok hn e0]; exact ho
    · rw [if_neg e] at e0
      refine (ref1_Cut_bad b off m c x y (l.take m) w (hA.btake m) (by simp; omega) (hl.take m) (by omega) hx hy h1 h2 (by omega) e).mono ?_
      rintro e w' ⟨rfl, hb⟩
      refine ⟨none, 0, ?_, ?_, hb⟩
      · rw [cutL_bad (by rw [e0]; decide), e0]; rfl
      · rw [cutL_bad (by rw [e0]; decide)]; exact Ow.nil
end Go.Proofs.Ytechhidfgheejaa
namespace Go.Proofs.Ytechhidfgheejaa
open Go.RowKit
set_option linter.unusedSimpArgs false
set_option linter.unusedVariables false

theorem pduF_len (l : List Nat) : (pduF l).length ≤ 300 := by
  unfold pduF
  split
  · rename_i h
    unfold errF at h
    split at h
    · cases h
    · rw [List.length_drop, List.length_take]; omega
  · simp
theorem cutE_sum {l : List Nat} (hl : Bs l) (h : 2 ≤ l.length) : cutE l = if Crc.sum l = 0 then 0 else 11 := by
  unfold cutE
  rw [if_neg (by omega)]
  by_cases hs : Crc.sum l = 0
  · rw [if_pos hs, if_pos ((sum_zero_iff hl h).1 hs)]
  · rw [if_neg hs, if_neg (fun e => hs ((sum_zero_iff hl h).2 e))]
theorem cutL_sum {l : List Nat} (hl : Bs l) (h : 2 ≤ l.length) : cutL l = if Crc.sum l = 0 then l.take (l.length - 2) else [] := by
  unfold cutL
  rw [cutE_sum hl h]
  by_cases hs : Crc.sum l = 0
  · rw [if_pos hs, if_pos hs, if_pos rfl]
  · rw [if_neg hs, if_neg hs, if_neg (by decide)]
theorem slice_one_b (g m c : Nat) (h2 : 2 ≤ m) (hmc : m ≤ c) (W : World) : (Instr.slice 29 (.slice (some ⟨g, 0, none⟩) m c) (some (.int .i64 1)) none none).run Try.prog W = .ok (.slice (some ⟨g, 1, none⟩) (m - 1) (c - 1)) W := by
  rw [run_slice_l W 29 _ m c (by kernel_rfl) .i64 1 (by omega) (by omega), size_b]
  have hadd : (⟨g, 0, none⟩ : Addr).add 1 = ⟨g, 1, none⟩ := by unfold Addr.add; split <;> simp_all
  simp [Go.sliced, hadd]
  omega

set_option maxRecDepth 100000 in
set_option maxHeartbeats 2000000 in
theorem r04_Bytes (u : Nat) (A : Option Addr) (n c : Nat) (p : List Nat) (w : World) (hu : u < 256) (hA : Rd w A (bs p)) (hn : p.length = n) (hp : Bs p) (hbig : n ≤ 1000000) :
    Calls Try.prog 52 #[.int .u8 (u : Int), .slice A n c] w fun e w' => ∃ A' c', e = .returned (.tuple #[.slice A' (frmF u p).length c', .int .i64 (frmE u p : Nat)]) ∧ Ow w' w.heap.size 5 A' c' (bs (frmF u p)) ∧ Below w.heap.size w w' := by
  have HN := Lib.hid hn
  have hmay : mayF u p = decide ((1 ≤ u ∧ u ≤ 247) ∧ 1 ≤ n ∧ n ≤ 253) := by unfold mayF isUn; rw [hn, Bool.eq_iff_iff]; simp; omega
  have HM := Lib.hid hmay
  clear hn hmay
  have bad : mayF u p = false → Hid (frmF u p = [] ∧ frmE u p = 2) := fun h => ⟨by unfold frmF; rw [if_neg (by simp [h])], by unfold frmE; rw [if_neg (by simp [h])]⟩
  have BAD := Lib.hid bad
  have hb := Below.refl w.heap.size w
  clear bad
  by_cases h1 : u < 1
  · have vh1 : decide ((u : Int) < 1) = true := decide_eq_true (by omega)
    have HV := BAD.out (by rw [HM.out, decide_eq_false (by omega)])
    go_enter Try.func52, Try.ntmps52
    go_wp2_with fail
    go_ret2
    exact ⟨none, 0, by rw [HV.out.1, HV.out.2]; rfl, by rw [HV.out.1]; exact Ow.nil, hb⟩
  have vh1 : decide ((u : Int) < 1) = false := decide_eq_false (by omega)
  by_cases h2 : 247 < u
  · have vh2 : decide ((247 : Int) < (u : Int)) = true := decide_eq_true (by omega)
    have HV := BAD.out (by rw [HM.out, decide_eq_false (by omega)])
    go_enter Try.func52, Try.ntmps52
    go_wp2_with fail
    go_ret2
    exact ⟨none, 0, by rw [HV.out.1, HV.out.2]; rfl, by rw [HV.out.1]; exact Ow.nil, hb⟩
  have vh2 : decide ((247 : Int) < (u : Int)) = false := decide_eq_false (by omega)
  by_cases h3 : n < 1
  · have vh3 : decide ((n : Int) < 1) = true := decide_eq_true (by omega)
    have HV := BAD.out (by rw [HM.out, decide_eq_false (by omega)])
    go_enter Try.func52, Try.ntmps52
    go_wp2_with fail
    go_ret2
    exact ⟨none, 0, by rw [HV.out.1, HV.out.2]; rfl, by rw [HV.out.1]; exact Ow.nil, hb⟩
  have vh3 : decide ((n : Int) < 1) = false := decide_eq_false (by omega)
  by_cases h4 : 253 < n
  · have vh4 : decide ((253 : Int) < (n : Int)) = true := decide_eq_true (by omega)
    have HV := BAD.out (by rw [HM.out, decide_eq_false (by omega)])
    go_enter Try.func52, Try.ntmps52
    go_wp2_with fail
    go_ret2
    exact ⟨none, 0, by rw [HV.out.1, HV.out.2]; rfl, by rw [HV.out.1]; exact Ow.nil, hb⟩
  have vh4 : decide ((253 : Int) < (n : Int)) = false := decide_eq_false (by omega)
  have hm : mayF u p = true := by rw [HM.out, decide_eq_true (by omega)]
  have HV : Hid (frmF u p = putL (u :: p) ∧ frmE u p = 0) := ⟨by unfold frmF; rw [if_pos hm], by unfold frmE; rw [if_pos hm]⟩
  have H1 : Hid (bs [u] = [.int .u8 (u : Int)]) := rfl
  clear hm
  go_enter Try.func52, Try.ntmps52
  go_wp2_with (at_builtin; refine app_b rfl _ _ rfl w (hb.alloc (Nat.le_refl _) _) _ _ _ [u] rfl (Ow.lit _ _ _ [.int .u8 (u : Int)] (Nat.le_refl _) (by simp [maxLen]) H1.out rfl) rfl A n c p rfl (hA.alloc _) HN.out (by omega) ?_)
  intro A3 c3 w3 o3 hb3 _
  have HL : Hid (([u] ++ p).length = 1 + n) := by (show _ = _); rw [List.length_append, HN.out]; rfl
  go_wp2_with fail
  refine (ref1_Put A3 (1 + n) c3 ([u] ++ p) w3 o3.rd HL.out (Bs.cons hu hp) (by omega)).mono ?_
  rintro e w4 ⟨A4, c4, rfl, o4, hs⟩
  go_wp2_with fail
  go_ret2
  exact ⟨A4, c4, by rw [HV.out.1, HV.out.2, putL_length]; simp only [List.length_cons, HN.out]; rw [show n + 1 + 2 = 1 + n + 2 by omega]; rfl, by rw [HV.out.1]; exact o4.base hb3.size, bthen hb3 hs⟩
set_option maxRecDepth 100000 in
set_option maxHeartbeats 2000000 in
theorem r04_Parse (A : Option Addr) (n c : Nat) (l : List Nat) (w : World) (hA : Rd w A (bs l)) (hn : l.length = n) (hl : Bs l) (hnc : n ≤ c) (hbig : n ≤ 1000000) :
    Calls Try.prog 54 #[.slice A n c] w fun e w' => ∃ A' c', e = .returned (.tuple #[.int .u8 (unitF l : Nat), .slice A' (pduF l).length c', .int .i64 (errF l : Nat)]) ∧ RdN w.heap.size w' A' (bs (pduF l)) ∧ (pduF l).length ≤ c' ∧ Below w.heap.size w w' := by
  have HN := Lib.hid hn
  have HE : Hid (errF l = if n < 4 ∨ 256 < n then 10 else if Crc.sum l ≠ 0 then 11 else if isUn (l.getD 0 0) then 0 else 10) := by (show _ = _); unfold errF; rw [hn]
  have bad : ∀ x, errF l = x → x ≠ 0 → unitF l = 0 ∧ pduF l = [] := fun x h hx => ⟨by unfold unitF; rw [if_neg (by omega)], by unfold pduF; rw [if_neg (by omega)]⟩
  have BAD := Lib.hid bad
  have hb := Below.refl w.heap.size w
  clear hn bad
  by_cases h1 : n < 4
  · have v1 : decide ((n : Int) < 4) = true := decide_eq_true (by omega)
    have HV : Hid (errF l = 10) := by (show _ = _); rw [HE.out, if_pos (by omega)]
    go_enter Try.func54, Try.ntmps54
    go_wp2_with fail
    go_ret3
    obtain ⟨b1, b2⟩ := BAD.out 10 HV.out (by decide)
    rw [HV.out, b1, b2]
    exact ⟨none, 0, rfl, RdN.nil, Nat.le_refl _, hb⟩
  have v1 : decide ((n : Int) < 4) = false := decide_eq_false (by omega)
  by_cases h2 : 256 < n
  · have v2 : decide ((256 : Int) < (n : Int)) = true := decide_eq_true (by omega)
    have HV : Hid (errF l = 10) := by (show _ = _); rw [HE.out, if_pos (by omega)]
    go_enter Try.func54, Try.ntmps54
    go_wp2_with fail
    go_ret3
    obtain ⟨b1, b2⟩ := BAD.out 10 HV.out (by decide)
    rw [HV.out, b1, b2]
    exact ⟨none, 0, rfl, RdN.nil, Nat.le_refl _, hb⟩
  have v2 : decide ((256 : Int) < (n : Int)) = false := decide_eq_false (by omega)
  have HE2 : Hid (errF l = if Crc.sum l ≠ 0 then 11 else if isUn (l.getD 0 0) then 0 else 10) := by (show _ = _); rw [HE.out, if_neg (by omega)]
  have hx : l[0]? = some (l.getD 0 0) := by rw [List.getD_eq_getElem?_getD, List.getElem?_eq_getElem (show 0 < l.length by rw [HN.out]; omega)]; rfl
  obtain ⟨f, hfq⟩ : ∃ f, l.getD 0 0 = f := ⟨_, rfl⟩
  have hf := getD_lt hl 0
  rw [hfq] at hx hf
  have HX := Lib.hid hfq
  have HX1 := Lib.hid hx
  have E1 := Lib.hid (ref1_Cut A n c l w hA HN.out hl (by omega) hnc)
  have hce := cutE_sum hl (by rw [HN.out]; omega)
  have hcl := cutL_sum hl (by rw [HN.out]; omega)
  rw [HN.out] at hcl
  unfold CutPost at E1
  obtain ⟨m, hm⟩ : ∃ m, n - 2 = m := ⟨_, rfl⟩
  have hm2 : 2 ≤ m := by omega
  have hm3 : m ≤ 254 := by omega
  rw [hm] at hcl
  have HMN := Lib.hid hm
  clear hm hx HE hfq
  by_cases hs0 : Crc.sum l = 0
  · rw [if_pos hs0] at hce hcl
    have HE3 : Hid (errF l = if isUn f then 0 else 10) := by (show _ = _); rw [HE2.out, if_neg (by simp [hs0]), HX.out]
    have HLM : Hid ((l.take m).length = m) := by (show _ = _); rw [List.length_take, HN.out]; have := HMN.out; omega
    simp only [hce, hcl, HLM.out] at E1
    clear hs0 hce hcl
    go_enter Try.func54, Try.ntmps54
    go_wp2_with fail
    refine E1.out.mono ?_
    rintro e w2 ⟨A2, c2, rfl, o2, hs⟩
    obtain ⟨g2, rfl, hg2, hg2w, hc, -⟩ := o2.head (by rw [bs_length, HLM.out]; omega)
    have hc2 := o2.le.1
    rw [bs_length, HLM.out] at hc2
    have k0 := hc 0 (.int .u8 (f : Int)) (by simp only [bs, List.getElem?_map, List.getElem?_take, if_pos (show 0 < m by omega), HX1.out, Option.map_some])
    have hm0 : 0 < m := by omega
    have hm0i : (0 : Int) < (m : Int) := by omega
    have HUN : Hid (isUn f = decide (1 ≤ f ∧ f ≤ 247)) := by (show _ = _); unfold isUn; rw [Bool.eq_iff_iff]; simp
    clear hc hg2w
    by_cases a1 : f < 1
    · have w1 : decide ((f : Int) < 1) = true := decide_eq_true (by omega)
      have HV : Hid (errF l = 10) := by (show _ = _); rw [HE3.out, HUN.out, decide_eq_false (by omega)]; rfl
      go_wp2_with fail
      go_ret3
      obtain ⟨b1, b2⟩ := BAD.out 10 HV.out (by decide)
      rw [HV.out, b1, b2]
      exact ⟨none, 0, rfl, RdN.nil, Nat.le_refl _, hs⟩
    have w1 : decide ((f : Int) < 1) = false := decide_eq_false (by omega)
    by_cases a2 : 247 < f
    · have w2' : decide ((247 : Int) < (f : Int)) = true := decide_eq_true (by omega)
      have HV : Hid (errF l = 10) := by (show _ = _); rw [HE3.out, HUN.out, decide_eq_false (by omega)]; rfl
      go_wp2_with fail
      go_ret3
      obtain ⟨b1, b2⟩ := BAD.out 10 HV.out (by decide)
      rw [HV.out, b1, b2]
      exact ⟨none, 0, rfl, RdN.nil, Nat.le_refl _, hs⟩
    have w2' : decide ((247 : Int) < (f : Int)) = false := decide_eq_false (by omega)
    have HV : Hid (errF l = 0) := by (show _ = _); rw [HE3.out, HUN.out, decide_eq_true (by omega)]; rfl
    have hsl : ∀ W, (Instr.slice 29 (.slice (some ⟨g2, 0, none⟩) m c2) (some (.int .i64 1)) none none).run Try.prog W = .ok (.slice (some ⟨g2, 1, none⟩) (m - 1) (c2 - 1)) W := fun W => by
      exact slice_one_b g2 m c2 hm2 hc2 W
    go_upto_region 8 with fail
    go_region
    all_goals
      go_wp2_with fail
      go_ret3
      have h1 : unitF l = f := by unfold unitF; rw [if_pos HV.out, HX.out]
      have h2 : pduF l = (l.take m).drop 1 := by unfold pduF; rw [if_pos HV.out, HN.out, HMN.out]
      have h3 : ((l.take m).drop 1).length = m - 1 := by rw [List.length_drop, HLM.out]
      rw [HV.out, h1, h2, h3]
      have hr := RdN.drewK o2.rdN 1
      refine ⟨_, c2 - 1, rfl, ?_, by omega, below_drewN hs 1⟩
      rw [bs_drop]
      exact RdN.shift hr 1
  · rw [if_neg hs0] at hce hcl
    have HV : Hid (errF l = 11) := by (show _ = _); rw [HE2.out, if_pos hs0]
    simp only [hce, hcl, List.length_nil] at E1
    clear hs0 hce hcl
    go_enter Try.func54, Try.ntmps54
    go_wp2_with fail
    refine E1.out.mono ?_
    rintro e w2 ⟨A2, c2, rfl, o2, hs⟩
    go_wp2_with fail
    go_ret3
    obtain ⟨b1, b2⟩ := BAD.out 11 HV.out (by decide)
    rw [HV.out, b1, b2]
    exact ⟨none, 0, rfl, RdN.nil, Nat.le_refl _, hs⟩

set_option maxRecDepth 100000 in
set_option maxHeartbeats 1000000 in
theorem r04_Ask (u : Nat) (a : Ak) (A : Option Addr) (c : Nat) (B : Option Addr) (d : Nat) (w : World) (hu : u < 256) (hR : AkR w a A B) (hok : a.ok) (hw : a.words.length ≤ 1000000) (hk : a.bits.length ≤ 1000000) :
    Calls Try.prog 56 #[.int .u8 (u : Int), a.v A c B d] w fun e w' => ∃ A' c', e = .returned (.tuple #[.slice A' (askF u a).length c', .int .i64 (askFE u a : Nat)]) ∧ Ow w' w.heap.size 5 A' c' (bs (askF u a)) ∧ Below w.heap.size w w' := by
  have E1 := Lib.hid (fun W (h : AkR W a A B) => ref_Bytes a A c B d W h hok hw hk)
  have HA : Hid (askF u a = if rightA a then frmF u (bytesA a) else []) := rfl
  have HE : Hid (askFE u a = if rightA a then frmE u (bytesA a) else 12) := rfl
  have HB : Hid (rightA a = true → Bs (bytesN a)) := fun h => bytesA_Bs hok h
  obtain ⟨rt, hrt⟩ : ∃ b, rightA a = b := ⟨_, rfl⟩
  have HRT := Lib.hid hrt
  clear hrt
  simp only [Ak.v, akV] at E1 ⊢
  have hb := (Below.refl w.heap.size w).alloc (Nat.le_refl _) (.cells #[.int .u8 (a.fn : Int), .int .u16 (a.at_ : Int), .int .u16 (a.many : Int), .int .u16 (a.to_ : Int), .slice A a.words.length c, .slice B a.bits.length d] 41)
  have bx := Blk.new w 41 #[.int .u8 (a.fn : Int), .int .u16 (a.at_ : Int), .int .u16 (a.many : Int), .int .u16 (a.to_ : Int), .slice A a.words.length c, .slice B a.bits.length d]
  go_enter Try.func56, Try.ntmps56
  go_upto_region 1 with fail
  generalize w.alloc (.cells #[.int .u8 (a.fn : Int), .int .u16 (a.at_ : Int), .int .u16 (a.many : Int), .int .u16 (a.to_ : Int), .slice A a.words.length c, .slice B a.bits.length d] 41) = w1 at *
  obtain ⟨d0, d1, d2, d3, d4, d5⟩ := bx.c6
  go_wp2_with fail
  refine (E1.out _ (hR.below hb)).mono ?_
  rintro e w2 ⟨A2, c2, rfl, o2, hs⟩
  have hb2 := bthen hb hs
  cases rt with
  | false =>
    have e1 : errN a = 12 := by unfold errN; rw [if_neg (by simp [HRT.out])]
    have HV : Hid (askF u a = [] ∧ askFE u a = 12) := ⟨by rw [HA.out, if_neg (by simp [HRT.out])], by rw [HE.out, if_neg (by simp [HRT.out])]⟩
    rw [e1]
    clear e1
    go_wp2_with fail
    go_ret2
    exact ⟨none, 0, by rw [HV.out.1, HV.out.2]; rfl, by rw [HV.out.1]; exact Ow.nil, hb2⟩
  | true =>
    have e1 : errN a = 0 := by unfold errN; rw [if_pos HRT.out]
    have HV : Hid (askF u a = frmF u (bytesN a) ∧ askFE u a = frmE u (bytesN a)) := by
      have e2 : bytesN a = bytesA a := by unfold bytesN; rw [if_pos HRT.out]
      exact ⟨by rw [HA.out, if_pos HRT.out, e2], by rw [HE.out, if_pos HRT.out, e2]⟩
    have hlen : (bytesN a).length ≤ 1000 := by
      unfold bytesN; rw [if_pos HRT.out]
      have := (total_app HRT.out []).2.2.1
      omega
    have E2 := Lib.hid (r04_Bytes u A2 (bytesN a).length c2 (bytesN a) w2 hu o2.rd rfl (HB.out HRT.out) (by omega))
    rw [e1]
    clear e1 hlen
    go_wp2_with fail
    refine E2.out.mono ?_
    rintro e w3 ⟨A3, c3, rfl, o3, hs3⟩
    go_wp2_with fail
    go_ret2
    exact ⟨A3, c3, by rw [HV.out.1, HV.out.2]; rfl, by rw [HV.out.1]; exact o3.base hb2.size, bthen hb2 hs3⟩

set_option maxRecDepth 100000 in
set_option maxHeartbeats 4000000 in
theorem r04_Reply (u : Nat) (A : Option Addr) (n c : Nat) (l : List Nat) (w : World) (hu : u < 256) (hA : Rd w A (bs l)) (hn : l.length = n) (hl : Bs l) (hnc : n ≤ c) (hbig : n ≤ 1000000) :
    Calls Try.prog 58 #[.int .u8 (u : Int), .slice A n c] w fun e w' => ToldQ w (repF u l) (.int .i64 0) (.int .i64 (repFE u l : Nat)) e w' := by
  have HP : Hid (repF u l = if errF l ≠ 0 then none else if unitF l ≠ u then none else parseR (pduF l)) := rfl
  have HQ : Hid (repFE u l = if errF l ≠ 0 then errF l else if unitF l ≠ u then 10 else if parseR (pduF l) = none then 13 else 0) := rfl
  generalize repF u l = p at *
  generalize repFE u l = er at *
  have E1 := Lib.hid (fun W (h : Rd W A (bs l)) => r04_Parse A n c l W h hn hl hnc hbig)
  have hun := unitF_lt hl
  have hpb := pduF_Bs hl
  have hel := errF_lt l
  have hpl := pduF_len l
  obtain ⟨ef, hef⟩ : ∃ x, errF l = x := ⟨_, rfl⟩
  obtain ⟨un, hun1⟩ : ∃ x, unitF l = x := ⟨_, rfl⟩
  obtain ⟨pd, hpd⟩ : ∃ x, pduF l = x := ⟨_, rfl⟩
  rw [hef, hun1, hpd] at E1
  rw [hef, hun1, hpd] at HP HQ
  rw [hun1] at hun
  rw [hpd] at hpb hpl
  rw [hef] at hel
  clear hef hun1 hpd
  have hb := (Below.refl w.heap.size w).alloc (Nat.le_refl _) (.cells #[.int .u8 0, .int .u8 0, .slice none 0 0, .slice none 0 0, .int .u16 0, .int .u16 0] 36)
  have bz := Blk.new w 36 #[.int .u8 0, .int .u8 0, .slice none 0 0, .slice none 0 0, .int .u16 0, .int .u16 0]
  obtain ⟨g, hg⟩ : ∃ g, w.heap.size = g := ⟨_, rfl⟩
  have hwg : w.heap.size ≤ g := by omega
  go_enter Try.func58, Try.ntmps58
  go_upto_region 1 with fail
  rw [hg] at bz
  (try rw [hg])
  clear hg
  generalize w.alloc (.cells #[.int .u8 0, .int .u8 0, .slice none 0 0, .slice none 0 0, .int .u16 0, .int .u16 0] 36) = w1 at *
  have hgw1 : g < w1.heap.size := bz.lt
  have hww : w.heap.size ≤ w1.heap.size := hb.size
  go_wp2_with fail
  refine (E1.out _ (hA.below hb)).mono ?_
  rintro e w2 ⟨A2, c2, rfl, r2, hc2, hs⟩
  have hw12 := hs.size
  replace hb := bthen hb hs
  replace bz := bz.all hs
  clear hs
  by_cases he : ef ≠ 0
  · have v0 : ((ef : Int) != 0) = true := by simp; omega
    have HV : Hid (p = none ∧ er = ef) := ⟨by rw [HP.out, if_pos he], by rw [HQ.out, if_pos he]⟩
    clear he
    obtain ⟨z0, z1, z2, z3, z4, z5⟩ := bz.c6
    have q0 := bz.frozen 0
    have q1 := bz.frozen 1
    have q2 := bz.frozen 2
    have q3 := bz.frozen 3
    have q4 := bz.frozen 4
    have q5 := bz.frozen 5
    go_wp2_with fail
    refine bodyPost_ret (v := .tuple #[.agg #[.int .u8 0, .int .u8 0, .slice none 0 0, .slice none 0 0, .int .u16 0, .int .u16 0], .int .i64 (ef : Int)]) (by simp [results, Try.results58, go_sem, z0, z1, z2, z3, z4, z5]) rfl ?_
    rw [HV.out.1, HV.out.2]
    exact ⟨rfl, bset6 hb hwg _ _ _ _ _ _⟩
  have v0 : ((ef : Int) != 0) = false := by simp; omega
  by_cases hq : un ≠ u
  · have v1 : ((un : Int) != (u : Int)) = true := by simp; omega
    have HV : Hid (p = none ∧ er = 10) := ⟨by rw [HP.out, if_neg he, if_pos hq], by rw [HQ.out, if_neg he, if_pos hq]⟩
    clear hq
    obtain ⟨z0, z1, z2, z3, z4, z5⟩ := bz.c6
    have q0 := bz.frozen 0
    have q1 := bz.frozen 1
    have q2 := bz.frozen 2
    have q3 := bz.frozen 3
    have q4 := bz.frozen 4
    have q5 := bz.frozen 5
    go_wp2_with fail
    refine bodyPost_ret (v := .tuple #[.agg #[.int .u8 0, .int .u8 0, .slice none 0 0, .slice none 0 0, .int .u16 0, .int .u16 0], .int .i64 10]) (by simp [results, Try.results58, go_sem, z0, z1, z2, z3, z4, z5]) rfl ?_
    rw [HV.out.1, HV.out.2]
    exact ⟨rfl, bset6 hb hwg _ _ _ _ _ _⟩
  have v1 : ((un : Int) != (u : Int)) = false := by simp; omega
  have E2 := Lib.hid (rref_Parse A2 pd.length c2 pd w2 r2.rd rfl hpb hc2 (by omega))
  obtain ⟨pr, hpr⟩ : ∃ x, parseR pd = x := ⟨_, rfl⟩
  rw [hpr] at E2
  have HP2 : Hid (p = pr ∧ er = if pr = none then 13 else 0) := ⟨by rw [HP.out, if_neg he, if_neg hq, hpr], by rw [HQ.out, if_neg he, if_neg hq, hpr]⟩
  clear hpr he hq
  go_wp2_with fail
  refine E2.out.mono ?_
  rintro e w3 hT
  cases pr with
  | none =>
    obtain ⟨he, hs⟩ := hT
    rw [show Rp.zero.v none 0 none 0 = .agg #[.int .u8 0, .int .u8 0, .slice none 0 0, .slice none 0 0, .int .u16 0, .int .u16 0] from rfl] at he
    subst he
    have HV : Hid (p = none ∧ er = 13) := ⟨HP2.out.1, by rw [HP2.out.2, if_pos rfl]⟩
    replace hb := bthen hb hs
    replace bz := bz.all hs
    obtain ⟨z0, z1, z2, z3, z4, z5⟩ := bz.c6
    have q0 := bz.frozen 0
    have q1 := bz.frozen 1
    have q2 := bz.frozen 2
    have q3 := bz.frozen 3
    have q4 := bz.frozen 4
    have q5 := bz.frozen 5
    go_wp2_with fail
    refine bodyPost_ret (v := .tuple #[.agg #[.int .u8 0, .int .u8 0, .slice none 0 0, .slice none 0 0, .int .u16 0, .int .u16 0], .int .i64 13]) (by simp [results, Try.results58, go_sem, z0, z1, z2, z3, z4, z5]) rfl ?_
    rw [HV.out.1, HV.out.2]
    exact ⟨rfl, bset6 hb hwg _ _ _ _ _ _⟩
  | some r =>
    obtain ⟨Ax, cx, Bx, dx, he, rx, ry, hs⟩ := hT
    simp only [Rp.v, rpV] at he
    subst he
    have HV : Hid (p = some r ∧ er = 0) := ⟨HP2.out.1, by rw [HP2.out.2, if_neg (by simp)]⟩
    replace hb := bthen hb hs
    replace bz := bz.all hs
    obtain ⟨z0, z1, z2, z3, z4, z5⟩ := bz.c6
    have q0 := bz.frozen 0
    have q1 := bz.frozen 1
    have q2 := bz.frozen 2
    have q3 := bz.frozen 3
    have q4 := bz.frozen 4
    have q5 := bz.frozen 5
    go_wp2_with fail
    refine bodyPost_ret (v := .tuple #[.agg #[.int .u8 (r.fn : Int), .int .u8 (r.ex : Int), .slice Bx r.bits.length dx, .slice Ax r.words.length cx, .int .u16 (r.at_ : Int), .int .u16 (r.many : Int)], .int .i64 0]) (by simp [results, Try.results58, go_sem, z0, z1, z2, z3, z4, z5]) rfl ?_
    rw [HV.out.1, HV.out.2]
    exact ⟨Ax, cx, Bx, dx, rfl, RdN.set6 ⟨rx, by omega⟩ (by omega), RdN.set6 ⟨ry, by omega⟩ (by omega), bset6 hb hwg _ _ _ _ _ _⟩

end Go.Proofs.Ytechhidfgheejaa
