/- The walk of the law AskBits. -/
import Derived.Test.YthddplokicbofaaAskAwake
import Derived.Deep.DeepCutAuto
namespace Go.Proofs.Ythddplokicbofaa
open Go.RowKit
set_option linter.unusedSimpArgs false
set_option linter.unusedVariables false

theorem unpk_take (l : List Bool) : (unpk (pk l)).take l.length = l := by rw [unpk_pk]; simp
theorem unpk_rest (l : List Bool) : (unpk (pk l)).drop l.length = List.replicate (8 * ((l.length + 7) / 8) - l.length) false := by rw [unpk_pk]; simp

set_option maxRecDepth 100000 in
set_option maxHeartbeats 2000000 in
theorem AskBits_walk (A : Option Addr) (n c : Nat) (l : List Bool) (A2 : Option Addr) (n2 c2 : Nat) (l2 : List Nat) (w : World) (hA : Rd w A (os l)) (hn : l.length = n) (hc0 : n ≤ c) (hA2 : Rd w A2 (bs l2)) (hn2 : l2.length = n2) (hl2 : Bs l2) (hc2 : n2 ≤ c2) :
    Calls Try.prog 7 #[.slice A n c, .slice A2 n2 c2] w fun e w' => e = .returned (.bool true) ∧ Below w.heap.size w w' := by
  have HN := Lib.hid hn
  have HN2 := Lib.hid hn2
  clear hn hn2
  by_cases hbig : n > 2100 ∨ n2 > 300
  · by_cases h1 : n > 2100
    · have v1 : decide ((2100 : Int) < n) = true := decide_eq_true (by omega)
      go_enter Try.func7, Try.ntmps7
      go_wp2_with fail
      refine (ask_awake w).mono ?_
      rintro e w1 ⟨rfl, hb⟩
      go_wp2_with fail
      go_ret
      exact ⟨rfl, hb⟩
    · have v1 : decide ((2100 : Int) < n) = false := decide_eq_false (by omega)
      have v2 : decide ((300 : Int) < n2) = true := decide_eq_true (by omega)
      go_enter Try.func7, Try.ntmps7
      go_wp2_with fail
      refine (ask_awake w).mono ?_
      rintro e w1 ⟨rfl, hb⟩
      go_wp2_with fail
      go_ret
      exact ⟨rfl, hb⟩
  · have v1 : decide ((2100 : Int) < n) = false := decide_eq_false (by omega)
    have v2 : decide ((300 : Int) < n2) = false := decide_eq_false (by omega)
    have h21 : n ≤ 2100 := by omega
    have h30 : n2 ≤ 300 := by omega
    clear hbig
    obtain ⟨q, hq⟩ : ∃ q, (n + 7) / 8 = q := ⟨_, rfl⟩
    have hqi : ((n : Int) + 7) / 8 = (q : Int) := by omega
    have hq1 : n ≤ 8 * q := by omega
    have hq2 : q ≤ 1000 := by omega
    have E1 := Lib.hid (ask_Pack A n c l w hA HN.out (by omega))
    rw [hq] at E1
    have HQ : Hid ((pk l).length = q) := by (show _ = _); rw [pk_length, HN.out, hq]
    have HT : Hid ((unpk (pk l)).take n = l) := by (show _ = _); rw [← HN.out]; exact unpk_take l
    have HR : Hid ((unpk (pk l)).drop n = List.replicate (8 * q - n) false) := by (show _ = _); have := unpk_rest l; rw [HN.out, hq] at this; exact this
    clear hq
    go_enter Try.func7, Try.ntmps7
    go_wp2_with fail
    refine E1.out.mono ?_
    rintro e w1 ⟨A3, c3, rfl, o1, hb1⟩
    go_wp2_with fail
    refine (ask_Unpack A3 q c3 (pk l) w1 o1.rd HQ.out (pk_Bs l) (by omega)).mono ?_
    rintro e w2 ⟨A4, c4, rfl, o2, hb2, hc4⟩
    have hb2' := bthen hb1 hb2
    obtain ⟨m, hm⟩ : ∃ m, 8 * q = m := ⟨_, rfl⟩
    have hmi : 8 * (q : Int) = (m : Int) := by omega
    have hnm : n ≤ m := by omega
    have hmb : m ≤ 8000 := by omega
    rw [hm] at hc4 HR ⊢
    have HU : Hid ((unpk (pk l)).length = m) := by (show _ = _); rw [unpk_length, HQ.out, hm]
    clear hm
    have rt : Rd w2 A4 (os l) := by have := o2.rd.take n; rw [← os_take, HT.out] at this; exact this
    obtain ⟨A5, hsl, rd5⟩ := slice_from_o o2.rd HU.out hc4 n hnm
    rw [HR.out] at rd5
    have hnc : (n : Int) ≤ (c4 : Int) := by omega
    go_wp2_with fail
    refine (low_Bits A4 A n c4 n c l l w2 rt (hA.below hb2') HN.out HN.out (by omega)).mono ?_
    rw [sameO_self]
    rintro e w3 ⟨rfl, dn, rfl⟩
    have hb3 := below_drewN hb2' dn
    have rd3 := rd5.drewN dn
    generalize w2.drewN dn = w3 at *
    clear rt rd5 o2 hqi hmi
    obtain ⟨r, hr⟩ : ∃ r, m - n = r := ⟨_, rfl⟩
    have hrb : r ≤ 8000 := by omega
    rw [hr] at hsl rd3
    clear hr
    go_wp2_with fail
    go_loopw [51] (fun i wr => ∃ j : Nat, j ≤ r ∧ i = .int .i64 j ∧ w3 = wr) (fun i _ => r - (intOf i).toNat)
    case atStart => exact ⟨0, by omega, rfl, rfl⟩
    case round =>
      obtain ⟨j, hj, rfl, rfl⟩ := hrel
      by_cases hlt : j < r
      · obtain ⟨bb, off, x, rfl, hx, cx⟩ := rd3.bit (k := j) (by simp; exact hlt)
        obtain rfl : x = false := by
          rw [List.getElem?_replicate, if_pos hlt] at hx
          injection hx with hx
          exact hx.symm
        clear hx
        go_wp2_with fail
        go_roundw
        case rel => exact ⟨j + 1, by omega, by go_num, by first | rfl | trivial⟩
        case measure => simp [intOf]; omega
      · obtain rfl : j = r := by omega
        have rd2 := hA2.below hb3
        go_wp2_with fail
        refine (ask_Unpack A2 n2 c2 l2 w3 rd2 HN2.out hl2 (by omega)).mono ?_
        rintro e w4 ⟨A6, c6, rfl, o6, hb6, hc6⟩
        have HL6 : Hid ((unpk l2).length = 8 * n2) := by (show _ = _); rw [unpk_length, HN2.out]
        have hb6' := bthen hb3 hb6
        have E5 := Lib.hid (ask_Pack A6 (8 * n2) c6 (unpk l2) w4 o6.rd HL6.out (by omega))
        rw [pk_unpk hl2, show (8 * n2 + 7) / 8 = n2 by omega] at E5
        go_wp2_with fail
        refine E5.out.mono ?_
        rintro e w5 ⟨A7, c7, rfl, o7, hb7⟩
        have hb7' := bthen hb6' hb7
        go_wp2_with fail
        refine (low_Same A7 A2 n2 c7 n2 c2 l2 l2 w5 o7.rd (hA2.below hb7') hl2 hl2 HN2.out HN2.out).mono ?_
        rw [sameB_self]
        rintro e w6 ⟨rfl, rfl⟩
        go_wp2_with fail
        refine (ask_awake _).mono ?_
        rintro e w7 ⟨rfl, hb8⟩
        go_wp2_with fail
        go_ret
        exact ⟨rfl, bthen hb7' hb8⟩
end Go.Proofs.Ythddplokicbofaa
