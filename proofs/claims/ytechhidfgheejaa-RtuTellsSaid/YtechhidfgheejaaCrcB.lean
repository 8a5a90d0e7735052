/- The walks of crc.Put and crc.Cut. -/
import Derived.Test.YtechhidfgheejaaCrcA
import Derived.Test.YtechhidfgheejaaTyB
import Derived.Deep.RegionHeld3
namespace Go.Proofs.Ytechhidfgheejaa
open Go.RowKit
set_option linter.unusedSimpArgs false
set_option linter.unusedVariables false

def putL (l : List Nat) : List Nat := l ++ [Crc.sum l % 256, Crc.sum l / 256]

set_option maxHeartbeats 400000 in
theorem crc_Put (A : Option Addr) (n c : Nat) (l : List Nat) (w : World) (hA : Rd w A (bs l)) (hn : l.length = n) (hl : Bs l) (hm : n ≤ 1000000000) :
    Calls Try.prog 86 #[.slice A n c] w fun e w' => ∃ A' c', e = .returned (.slice A' (n + 2) c') ∧ Ow w' w.heap.size 5 A' c' (bs (putL l)) ∧ Below w.heap.size w w' := by
  have HN := Lib.hid hn
  clear hn
  have hs := Crc.sum_lt hl
  obtain ⟨s, hse⟩ : ∃ s, Crc.sum l = s := ⟨_, rfl⟩
  have HS := Lib.hid hse
  rw [hse] at hs
  go_enter Try.func86, Try.ntmps86
  go_wp2_with fail
  refine (crc_Sum A n c l w hA HN.out hl hm).mono ?_
  rintro e w1 ⟨rfl, hb1⟩
  rw [hse]
  clear hse
  have HB : Hid (bs [s % 256, s / 256] = [.int .u8 ((s : Int) % 256), .int .u8 ((s : Int) / 256)]) := by (show _ = _); simp [bs]
  have hA1 := hA.below hb1
  go_wp2_with (first
    | (at_builtin; refine app_b rfl _ _ rfl w (hb3.alloc hb3.size _) _ _ _ _ rfl (ho3.alloc _) HL3.out _ 2 2 [s % 256, s / 256] rfl (Rd.lit _ _ _ HB.out) rfl (by omega) ?_; intro A4 c4 w4 ho4 hb4 hg4)
    | (at_builtin; refine app_b rfl _ _ rfl w hb2 _ _ _ _ rfl ho2 rfl A n c l rfl hA2 HN.out (by omega) ?_; intro A3 c3 w3 ho3 hb3 hg3; have HL3 : Hid (([] ++ l).length = n) := by (show _ = _); simpa using HN.out)
    | (at_make; refine mk0_b rfl _ _ rfl w hb1 _ _ _ (n + 2) rfl rfl (by omega) (by omega) ?_; intro w2 ho2 hb2 hg2; have hA2 := hA.below hb2))
  go_ret
  exact ⟨A4, c4, rfl, by unfold putL; rw [HS.out]; simpa using ho4, hb4⟩

/-- what is cut, and the error -/
def cutE (l : List Nat) : Nat := if l.length < 2 then 10 else if Crc.sum (l.take (l.length - 2)) = l.getD (l.length - 2) 0 + 256 * l.getD (l.length - 1) 0 then 0 else 11
def cutL (l : List Nat) : List Nat := if cutE l = 0 then l.take (l.length - 2) else []
theorem u16_or8 (x y : Nat) (hx : x < 256) (hy : y < 256) : bits .or .u16 (x : Int) ((y : Int) * 256) = ((x + 256 * y : Nat) : Int) := by
  have h := u16_or_nat x (256 * y) (by omega) (by omega)
  have h2 : x ||| 256 * y = x + 256 * y := by
    rw [Nat.or_comm, show 256 * y = 2 ^ 8 * y from rfl, ← Nat.two_pow_add_eq_or_of_lt (i := 8) hx]
    omega
  rw [h2] at h
  rw [← h]
  congr 1
  omega

set_option maxHeartbeats 400000 in
theorem crc_Cut_short (A : Option Addr) (n c : Nat) (w : World) (hm : n < 2) :
    Calls Try.prog 88 #[.slice A n c] w fun e w' => e = .returned (.tuple #[.slice none 0 0, .int .i64 10]) ∧ w = w' := by
  go_enter Try.func88, Try.ntmps88
  go_wp2
  go_ret2
  exact ⟨rfl, rfl⟩

set_option maxHeartbeats 1000000 in
theorem crc_Cut_ok (b off m c : Nat) (x y : Nat) (l : List Nat) (k : List Nat) (w : World) (hA : Rd w (some ⟨b, off, none⟩) (bs l)) (hn : l.length = m) (hl : Bs l) (hm : m ≤ 1000000000)
    (hx : x < 256) (hy : y < 256) (h1 : w.cell? ⟨b, off + m, none⟩ = some (.int .u8 (x : Int))) (h2 : w.cell? ⟨b, off + (m + 1), none⟩ = some (.int .u8 (y : Int))) (hc : m + 2 ≤ c) (hk : (k : List Nat).length = m + 2) (hkt : k.take m = l) (hK : Rd w (some ⟨b, off, none⟩) (bs k)) (hs : Crc.sum l = x + 256 * y) :
    Calls Try.prog 88 #[.slice (some ⟨b, off, none⟩) (m + 2 : Nat) c] w fun e w' => ∃ A' c', e = .returned (.tuple #[.slice A' m c', .int .i64 0]) ∧ Ow w' w.heap.size 5 A' c' (bs l) ∧ Below w.heap.size w w' := by
  have HN := Lib.hid hn
  have HK := Lib.hid hk
  have HT := Lib.hid hkt
  clear hn hk hkt
  obtain ⟨t, ht⟩ : ∃ t, t = x + 256 * y := ⟨_, rfl⟩
  rw [← ht] at hs
  have hsb : ((Crc.sum l : Int) != (t : Int)) = false := by simp [hs]
  have e1 : bits .or .u16 (x : Int) ((y : Int) * 256) = (t : Int) := by rw [ht]; exact u16_or8 x y hx hy
  clear hs ht
  go_enter Try.func88, Try.ntmps88
  go_wp2_with fail
  have f0 : (0 : Int) ≤ (m : Int) := by omega
  have f1 : (m : Int) ≤ (c : Int) := by omega
  have f2 : (m : Int) < (m : Int) + 2 := by omega
  have f4 : (m : Int) + 1 < (m : Int) + 2 := by omega
  have f5 : (0 : Int) ≤ (m : Int) + 1 := by omega
  have f6 : ((m : Int) + 1).toNat = m + 1 := by omega
  have g1 : IntKind.u16.wrap (x : Int) = (x : Int) := by rw [IntKind.wrap_u16]; omega
  have g2 : IntKind.u16.wrap (y : Int) = (y : Int) := by rw [IntKind.wrap_u16]; omega
  have g3 : IntKind.u16.wrap ((y : Int) * 256) = (y : Int) * 256 := by rw [IntKind.wrap_u16]; omega
  have f3 : IntKind.i64.wrap ((m : Int) + 1) = (m : Int) + 1 := IntWalk.i64_in _ (by omega)
  go_region_held3 (fun w' => w'.cell? ⟨b, off + m, none⟩ = some (.int .u8 (x : Int)) ∧ w'.cell? ⟨b, off + (m + 1), none⟩ = some (.int .u8 (y : Int))) (first | exact ⟨h1, h2⟩ | exact ⟨(hb1.cell (World.block_lt_of_cell? w _ h1)).trans h1, (hb1.cell (World.block_lt_of_cell? w _ h2)).trans h2⟩)
    (first | (go_at_call 98; refine (crc_Sum _ m _ l _ (by exact hA) HN.out hl hm).mono ?_; rintro e w1 ⟨rfl, hb1⟩))
  have hbb : Below w.heap.size w w1 := ⟨hb1.os, hb1.tape, hb1.output, hb1.size, hb1.block⟩
  clear g1 g2 g3 e1 f0 f1 f2 f3 f4 f5 f6
  have hK1 := hK.below hbb
  go_wp2_with (first
    | (with_reducible refine cpy_b rfl (.tmp 32) (.tmp 33) rfl w hb2 _ _ _ _ rfl ho2 (by simp) _ (m + 2) _ k rfl hK2 HK.out ?_; intro w3 ho3 hb3 hsz3 hg3)
    | (at_make; refine mkn_b rfl _ _ rfl w hbb _ _ _ _ m rfl rfl rfl rfl (by omega) ?_; intro w2 ho2 hb2 hg2 hsz2; have hK2 := hK.below hb2))
  go_ret2
  refine ⟨_, _, rfl, ?_, hb3⟩
  rw [HT.out, List.drop_of_length_le (by simp), List.append_nil] at ho3
  exact ho3

set_option maxHeartbeats 1000000 in
theorem crc_Cut_bad (b off m c : Nat) (x y : Nat) (l : List Nat) (w : World) (hA : Rd w (some ⟨b, off, none⟩) (bs l)) (hn : l.length = m) (hl : Bs l) (hm : m ≤ 1000000000)
    (hx : x < 256) (hy : y < 256) (h1 : w.cell? ⟨b, off + m, none⟩ = some (.int .u8 (x : Int))) (h2 : w.cell? ⟨b, off + (m + 1), none⟩ = some (.int .u8 (y : Int))) (hc : m + 2 ≤ c) (hs : Crc.sum l ≠ x + 256 * y) :
    Calls Try.prog 88 #[.slice (some ⟨b, off, none⟩) (m + 2 : Nat) c] w fun e w' => e = .returned (.tuple #[.slice none 0 0, .int .i64 11]) ∧ Below w.heap.size w w' := by
  have HN := Lib.hid hn

  clear hn 
  obtain ⟨t, ht⟩ : ∃ t, t = x + 256 * y := ⟨_, rfl⟩
  rw [← ht] at hs
  have hsb : ((Crc.sum l : Int) != (t : Int)) = true := by simp only [bne_iff_ne]; omega
  have e1 : bits .or .u16 (x : Int) ((y : Int) * 256) = (t : Int) := by rw [ht]; exact u16_or8 x y hx hy
  clear hs ht
  go_enter Try.func88, Try.ntmps88
  go_wp2_with fail
  have f0 : (0 : Int) ≤ (m : Int) := by omega
  have f1 : (m : Int) ≤ (c : Int) := by omega
  have f2 : (m : Int) < (m : Int) + 2 := by omega
  have f4 : (m : Int) + 1 < (m : Int) + 2 := by omega
  have f5 : (0 : Int) ≤ (m : Int) + 1 := by omega
  have f6 : ((m : Int) + 1).toNat = m + 1 := by omega
  have g1 : IntKind.u16.wrap (x : Int) = (x : Int) := by rw [IntKind.wrap_u16]; omega
  have g2 : IntKind.u16.wrap (y : Int) = (y : Int) := by rw [IntKind.wrap_u16]; omega
  have g3 : IntKind.u16.wrap ((y : Int) * 256) = (y : Int) * 256 := by rw [IntKind.wrap_u16]; omega
  have f3 : IntKind.i64.wrap ((m : Int) + 1) = (m : Int) + 1 := IntWalk.i64_in _ (by omega)
  go_region_held3 (fun w' => w'.cell? ⟨b, off + m, none⟩ = some (.int .u8 (x : Int)) ∧ w'.cell? ⟨b, off + (m + 1), none⟩ = some (.int .u8 (y : Int))) (first | exact ⟨h1, h2⟩ | exact ⟨(hb1.cell (World.block_lt_of_cell? w _ h1)).trans h1, (hb1.cell (World.block_lt_of_cell? w _ h2)).trans h2⟩)
    (first | (go_at_call 98; refine (crc_Sum _ m _ l _ (by exact hA) HN.out hl hm).mono ?_; rintro e w1 ⟨rfl, hb1⟩))
  have hbb : Below w.heap.size w w1 := ⟨hb1.os, hb1.tape, hb1.output, hb1.size, hb1.block⟩
  clear g1 g2 g3 e1 f0 f1 f2 f3 f4 f5 f6
  go_wp2_with fail
  go_ret2
  exact ⟨rfl, hbb⟩

end Go.Proofs.Ytechhidfgheejaa
