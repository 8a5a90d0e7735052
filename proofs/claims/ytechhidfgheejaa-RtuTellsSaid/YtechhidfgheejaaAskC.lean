/- The walks of ask.Pack and ask.Unpack. -/
import Derived.Test.YtechhidfgheejaaAskB
import Derived.Test.YtechhidfgheejaaBits
import Derived.Test.YtechhidfgheejaaTyO
import Derived.Deep.RegionHeld3
import Derived.RegionTactic
import Derived.Deep.DeepCutAuto
import Derived.ChangeAlike
import Derived.Laws.BitsAllLaws
namespace Go.Proofs.Ytechhidfgheejaa
open Go.RowKit
set_option linter.unusedSimpArgs false
set_option linter.unusedVariables false

theorem pow8 (k : Nat) (hk : k < 8) : 2 ^ k < 256 := Nat.lt_of_lt_of_le (Nat.pow_lt_pow_right (by decide) hk) (by decide : 2 ^ 8 ≤ 256)

theorem wrap_pow (k : Nat) (hk : k < 8) : IntKind.u8.wrap ((2 : Int) ^ k) = ((2 ^ k : Nat) : Int) := by
  have e : ((2 ^ k : Nat) : Int) = (2 : Int) ^ k := by simp
  have := pow8 k hk
  rw [IntKind.wrap_u8, ← e]
  generalize 2 ^ k = p at *
  omega

set_option maxHeartbeats 2000000 in
theorem ask_Pack (A : Option Addr) (n c : Nat) (l : List Bool) (w : World) (hA : Rd w A (os l)) (hn : l.length = n) (hm : n ≤ 1000000) :
    Calls Try.prog 32 #[.slice A n c] w fun e w' => ∃ A' c', e = .returned (.slice A' ((n + 7) / 8) c') ∧ Ow w' w.heap.size 5 A' c' (bs (pk l)) ∧ Below w.heap.size w w' := by
  have HN := Lib.hid hn
  obtain ⟨h, hh⟩ : ∃ h, (n + 7) / 8 = h := ⟨_, rfl⟩
  have HH : Hid ((l.length + 7) / 8 = h) := by (show _ = _); rw [hn, hh]
  have h8 : n ≤ 8 * h := by omega
  have h8' : 8 * h < n + 8 := by omega
  rw [hh]
  have hq : (if n % 8 = 0 then n / 8 else n / 8 + 1) = h := by split <;> omega
  clear hn hh
  go_enter Try.func32, Try.ntmps32
  go_upto_if 13 with fail
  go_cut [3] (fun v wc => v = .int .i64 (h : Nat) ∧ w = wc)
  case first =>
    by_cases hz : n % 8 = 0
    · rw [if_pos hz] at hq
      have e1 : (n : Int) / 8 = (h : Int) := by omega
      have e2 : ¬ (0 < (n : Int) % 8) := by omega
      go_wp2_with fail
      go_meet
      case rel => exact ⟨by go_num, rfl⟩
    · rw [if_neg hz] at hq
      have e2 : 0 < (n : Int) % 8 := by omega
      go_wp2_with fail
      go_meet
      case rel => exact ⟨by go_num, rfl⟩
  case rest =>
    obtain ⟨rfl, rfl⟩ := hcut
    clear hq
    go_wp2_with (at_make; refine mkn_b rfl _ _ rfl w (Below.refl _ _) _ _ _ _ h rfl rfl rfl rfl (by omega) ?_)
    intro w1 ho1 hb1 hg1 hs1
    obtain ⟨g, hg⟩ : ∃ g, w.heap.size = g := ⟨_, rfl⟩
    have hgw : w.heap.size ≤ g := by omega
    rw [hg] at ho1 ⊢
    have HG := Lib.hid hg
    clear hg hg1 hs1
    go_wp2_with fail
    go_loopw [20] (fun i wr => ∃ j : Nat, j ≤ n ∧ i = .int .i64 j ∧ Below w.heap.size w wr ∧ Ow wr g 5 (some ⟨g, 0, none⟩) h (bs (pkTo l j h))) (fun i _ => n - (intOf i).toNat)
    case atStart => exact ⟨0, by omega, rfl, hb1, by rw [pkTo_zero]; exact ho1⟩
    case round =>
      obtain ⟨j, hj, rfl, hbr, hor⟩ := hrel
      by_cases hlt : j < n
      · obtain ⟨b, off, x, rfl, hx, cx⟩ := (hA.below hbr).bit (k := j) (by rw [HN.out]; exact hlt)
        cases x with
        | false =>
          have HT := Lib.hid (pkTo_off l j h hx)
          clear hx
          go_wp2_with fail
          go_roundw
          case rel => exact ⟨j + 1, by omega, by go_num, hbr, by rw [HT.out]; exact hor⟩
          case measure => simp [intOf]; omega
        | true =>
          obtain ⟨q, hq⟩ : ∃ q, j / 8 = q := ⟨_, rfl⟩
          obtain ⟨k, hk⟩ : ∃ k, j % 8 = k := ⟨_, rfl⟩
          have hqh : q < h := by omega
          have hk8 : k < 8 := by omega
          obtain ⟨⟨u, hu, cu⟩, fu, hgB, hgl⟩ := hor.at_ (j := q) (by rw [bs_length, pkTo_length]; exact hqh)
          obtain ⟨y, hy⟩ : ∃ y, (pkTo l j h)[q]? = some y := ⟨_, pkTo_get l j h q hqh⟩
          have hyb : y < 256 := by
            have := pkTo_get l j h q hqh
            rw [hy] at this
            injection this with this
            rw [this]; exact by8_lt _
          have hu2 : u = .int .u8 (y : Int) := by
            have : (bs (pkTo l j h))[q]? = some (.int .u8 (y : Int)) := by simp [bs, hy]
            rw [this] at hu
            injection hu with hu
            exact hu.symm
          subst hu2
          have ho2 := hor.stored q (.int .u8 ((y ||| 2 ^ k : Nat) : Int))
          have HT := Lib.hid (pkTo_on l j h y hx (by omega) (by rw [hq]; exact hy))
          rw [hq, hk] at HT
          rw [bs_set, HT.out] at ho2
          have p8 := pow8 k hk8
          have eq1 : (j : Int) / 8 = (q : Int) := by omega
          have eq2 : (j : Int) % 8 = (k : Int) := by omega
          have f0 : (0 : Int) ≤ (q : Int) := by omega
          have f1 : (q : Int) < (h : Int) := by omega
          have f2 : ¬ ((k : Int) < 0) := by omega
          have f3 : min k 8 = k := by omega
          have f4 := wrap_pow k hk8
          have f5 : bits .or .u8 (y : Int) ((2 : Int) ^ k) = ((y ||| 2 ^ k : Nat) : Int) := by
            have := u8_or_nat y (2 ^ k) hyb p8
            rwa [show ((2 ^ k : Nat) : Int) = (2 : Int) ^ k by simp] at this
          rw [← f5] at ho2
          clear f5
          clear hu hy hx
          go_wp2_with fail
          go_region
          go_wp2_with fail
          go_roundw
          case rel => exact ⟨j + 1, by omega, by go_num, (hbr.setCell (p := ⟨g, q, none⟩) hgw _).drew, ho2.drew⟩
          case measure => simp [intOf]; omega
      · obtain rfl : j = n := by omega
        go_wp2_with fail
        go_ret
        refine ⟨_, _, rfl, ?_, hbr⟩
        have := HN.out
        subst this
        rw [pkTo_all l h HH.out] at hor
        rw [HG.out]
        exact hor

theorem bit_u8 (x k : Nat) (hx : x < 256) : (bits .and .u8 ((x : Int) / 2 ^ k) 1 == 1) = x.testBit k := by
  have e : (x : Int) / 2 ^ k = ((x / 2 ^ k : Nat) : Int) := by simp
  have h1 : x / 2 ^ k < 256 := Nat.lt_of_le_of_lt (Nat.div_le_self _ _) hx
  have h2 := u8_and_nat (x / 2 ^ k) 1 h1 (by decide)
  rw [Nat.and_one_is_mod] at h2
  rw [e, show (1 : Int) = ((1 : Nat) : Int) from rfl, h2, Nat.testBit_eq_decide_div_mod_eq]
  by_cases h : x / 2 ^ k % 2 = 1
  · rw [h]; simp
  · have h0 : x / 2 ^ k % 2 = 0 := by omega
    rw [h0]; rfl
set_option maxHeartbeats 2000000 in
theorem ask_Unpack (A : Option Addr) (n c : Nat) (l : List Nat) (w : World) (hA : Rd w A (bs l)) (hn : l.length = n) (hl : Bs l) (hm : n ≤ 1000000) :
    Calls Try.prog 35 #[.slice A n c] w fun e w' => ∃ A' c', e = .returned (.slice A' (8 * n) c') ∧ Ow w' w.heap.size 4 A' c' (os (unpk l)) ∧ Below w.heap.size w w' ∧ 8 * n ≤ c' := by
  have HN := Lib.hid hn
  obtain ⟨h, hh⟩ : ∃ h, 8 * n = h := ⟨_, rfl⟩
  have HH : Hid (8 * l.length = h) := by (show _ = _); rw [hn, hh]
  have hhI : 8 * (n : Int) = (h : Int) := by omega
  rw [hh]
  clear hn
  go_enter Try.func35, Try.ntmps35
  go_wp2_with (at_make; refine mkn_o rfl _ _ rfl w (Below.refl _ _) _ _ _ _ h rfl rfl rfl rfl (by omega) ?_)
  intro w1 ho1 hb1 hg1 hs1
  obtain ⟨g, hg⟩ : ∃ g, w.heap.size = g := ⟨_, rfl⟩
  have hgw : w.heap.size ≤ g := by omega
  rw [hg] at ho1 ⊢
  have HG := Lib.hid hg
  clear hg hg1 hs1
  go_wp2_with fail
  go_loopw [11] (fun i wr => ∃ j : Nat, j ≤ h ∧ i = .int .i64 j ∧ Below w.heap.size w wr ∧ Ow wr g 4 (some ⟨g, 0, none⟩) h (os (unTo l j h))) (fun i _ => h - (intOf i).toNat)
  case atStart => exact ⟨0, by omega, rfl, hb1, by rw [unTo_zero]; exact ho1⟩
  case round =>
    obtain ⟨j, hj, rfl, hbr, hor⟩ := hrel
    by_cases hlt : j < h
    · obtain ⟨q, hq⟩ : ∃ q, j / 8 = q := ⟨_, rfl⟩
      obtain ⟨k, hk⟩ : ∃ k, j % 8 = k := ⟨_, rfl⟩
      have hk8 : k < 8 := by omega
      have hqn : q < n := by omega
      obtain ⟨b, off, x, rfl, hx, cx⟩ := (hA.below hbr).byte (k := q) (by rw [HN.out]; exact hqn)
      have hxb := hl.get hx
      have HT := Lib.hid (unTo_succ l j h HH.out hlt)
      rw [hq, hk, getD_of hx] at HT
      obtain ⟨⟨u, hu, cu⟩, fu, hgB, hgl⟩ := hor.at_ (j := j) (by rw [os_length, unTo_length l j h HH.out hj]; exact hlt)
      have ho2 := hor.stored j (.bool (x.testBit k))
      rw [os_set, HT.out] at ho2
      have BT := Lib.hid (bit_u8 x k hxb)
      have eq1 : (j : Int) / 8 = (q : Int) := by omega
      have eq2 : (j : Int) % 8 = (k : Int) := by omega
      clear hu hx
      go_wp2_with fail
      go_roundw
      case rel => exact ⟨j + 1, by omega, by go_num, hbr.setCell (p := ⟨g, j, none⟩) hgw _, by rw [BT.out]; exact ho2⟩
      case measure => simp [intOf]; omega
    · obtain rfl : j = h := by omega
      go_wp2_with fail
      go_ret
      refine ⟨_, _, rfl, ?_, hbr, Nat.le_refl _⟩
      rw [unTo_all l j HH.out] at hor
      rw [HG.out]
      exact hor
end Go.Proofs.Ytechhidfgheejaa
