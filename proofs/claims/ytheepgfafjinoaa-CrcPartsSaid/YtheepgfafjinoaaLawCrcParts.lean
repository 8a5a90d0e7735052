/- saucierlaw01.CrcParts returns true: the sum goes on, and with its own sum behind it, it is 0. -/
import Derived.Test.YtheepgfafjinoaaLawCrcTells
namespace Go.Proofs.Ytheepgfafjinoaa
open Go.RowKit
set_option linter.unusedSimpArgs false
set_option linter.unusedVariables false

theorem sum_take_drop {l : List Nat} {k j x : Nat} (h : (l.drop k)[j]? = some x) : Crc.sum (l.take (k + (j + 1))) = Crc.nxt (Crc.sum (l.take (k + j))) x := by
  rw [List.getElem?_drop] at h
  rw [← Nat.add_assoc, take_snoc h, Crc.sum_snoc]

set_option maxHeartbeats 1000000 in
theorem CrcParts_walk (A : Option Addr) (n c : Nat) (l : List Nat) (s : Nat) (w : World) (hA : Rd w A (bs l)) (hn : l.length = n) (hl : Bs l) (hc : n ≤ c) (hs : s < 65536) :
    Calls Try.prog 5 #[.slice A n c, .int .u16 s] w fun e w' => e = .returned (.bool true) ∧ Below w.heap.size w w' := by
  have HN := Lib.hid hn
  by_cases hbig : 300 < n
  · clear hn
    go_enter Try.func5, Try.ntmps5
    go_wp2_with fail
    refine (crc_awake _).mono ?_
    rintro e w5 ⟨rfl, hb5⟩
    go_wp2_with fail
    go_ret
    exact ⟨rfl, hb5⟩
  · obtain ⟨k, hk⟩ : ∃ k, k = s % (n + 1) := ⟨_, rfl⟩
    have hkn : k ≤ n := by have := Nat.mod_lt s (show 0 < n + 1 by omega); omega
    have e1 : (s : Int) % ((n : Int) + 1) = (k : Int) := by rw [hk]; simp
    have e2 : (s : Int).tmod ((n : Int) + 1) = (k : Int) := by rw [Int.tmod_eq_emod_of_nonneg (by omega)]; exact e1
    obtain ⟨A', hsl, hA'⟩ := slice_from_b hA hn hc k hkn
    have HN' : Hid ((l.drop k).length = n - k) := by (show _ = _); rw [List.length_drop, hn]
    have hkc : k ≤ c := by omega
    have hd3 : decide ((300 : Int) < (n : Int)) = false := by simp; omega
    obtain ⟨m, hm⟩ : ∃ m, n - k = m := ⟨_, rfl⟩
    rw [hm] at hsl HN'
    have hkm : k + m = n := by omega
    have HKM := Lib.hid hkm
    have hmn : m ≤ n := by omega
    clear hm hkm
    clear hk hn
    go_enter Try.func5, Try.ntmps5
    go_wp2_with fail
    refine (crc_Sum A k c (l.take k) _ (hA.btake k) (by rw [List.length_take, HN.out]; omega) (hl.take k) (by omega)).mono ?_
    rintro e w1 ⟨rfl, hb1⟩
    go_wp2_with fail
    go_loopw [6, 27] (fun t i wr => ∃ j : Nat, j ≤ m ∧ i = .int .i64 j ∧ t = .int .u16 (Crc.sum (l.take (k + j)) : Nat) ∧ Below w.heap.size w wr) (fun _ i _ => m - (intOf i).toNat)
    case atStart => exact ⟨0, by omega, rfl, rfl, hb1⟩
    case round =>
      obtain ⟨j, hj, rfl, rfl, hbr⟩ := hrel
      by_cases hlt : j < m
      · obtain ⟨b, off, x, rfl, hx, hcell⟩ := (hA'.below hbr).byte (k := j) (by rw [HN'.out]; exact hlt)
        have hxb := (hl.drop k).get hx
        have HT := Lib.hid (sum_take_drop hx)
        have hsm := Crc.sum_lt (hl.take (k + j))
        clear hx
        go_wp2_with fail
        refine (crc_Next _ x _ hsm hxb).mono ?_
        rintro e w3 ⟨rfl, hb3⟩
        go_wp2_with fail
        go_roundw
        case rel => exact ⟨j + 1, by omega, by go_num, by rw [HT.out], bthen hbr hb3⟩
        case measure => simp [intOf]; omega
      · obtain rfl : j = m := by omega
        rw [HKM.out, show l.take n = l from List.take_of_length_le (by rw [HN.out]; exact Nat.le_refl _)]
        clear hsl e1 e2
        go_wp2_with fail
        refine (crc_Sum A n c l _ (hA.below hbr) HN.out hl (by omega)).mono ?_
        rintro e w3 ⟨rfl, hb3⟩
        replace hb3 := bthen hbr hb3
        go_wp2_with fail
        refine (crc_Put A n c l _ (hA.below hb3) HN.out hl (by omega)).mono ?_
        rintro e w4 ⟨A4, c4, rfl, ho4, hb4⟩
        replace hb4 := bthen hb3 hb4
        go_wp2_with fail
        refine (crc_Sum A4 (n + 2) c4 (putL l) _ ho4.rd (by rw [putL_length, HN.out]) (putL_Bs hl) (by omega)).mono ?_
        rintro e w5 ⟨rfl, hb5⟩
        replace hb5 := bthen hb4 hb5
        rw [show Crc.sum (putL l) = 0 from Crc.sum_put l]
        go_wp2_with fail
        refine (crc_awake _).mono ?_
        rintro e w6 ⟨rfl, hb6⟩
        go_wp2_with fail
        go_ret
        exact ⟨rfl, bthen hb5 hb6⟩
end Go.Proofs.Ytheepgfafjinoaa
