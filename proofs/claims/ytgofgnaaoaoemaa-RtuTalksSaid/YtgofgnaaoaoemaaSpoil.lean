/- The walk of saucierlow.Spoil: bits are turned about. -/
import Derived.Test.YtgofgnaaoaoemaaRtuA
import Derived.Test.YtgofgnaaoaoemaaAskC
import Derived.RegionTactic
import Derived.ChangeAlike
namespace Go.Proofs.Ytgofgnaaoaoemaa
open Go.RowKit
set_option linter.unusedSimpArgs false
set_option linter.unusedVariables false

theorem bit_u16 (x k : Nat) (hx : x < 65536) : (bits .and .u16 ((x : Int) / 2 ^ k) 1 == 1) = x.testBit k := by
  have e : (x : Int) / 2 ^ k = ((x / 2 ^ k : Nat) : Int) := by simp
  have h1 : x / 2 ^ k < 65536 := Nat.lt_of_le_of_lt (Nat.div_le_self _ _) hx
  have h2 := u16_and_nat (x / 2 ^ k) 1 h1 (by decide)
  rw [Nat.and_one_is_mod] at h2
  rw [e, show (1 : Int) = ((1 : Nat) : Int) from rfl, h2, Nat.testBit_eq_decide_div_mod_eq]
  by_cases h : x / 2 ^ k % 2 = 1
  · rw [h]; simp
  · have h0 : x / 2 ^ k % 2 = 0 := by omega
    rw [h0]; rfl
theorem spoil_on (l : List Nat) (at_ pat j q k y : Nat) (h : pat.testBit j = true) (hlt : at_ + j < 8 * l.length) (hq : (at_ + j) / 8 = q) (hk : (at_ + j) % 8 = k) (hy : (Crc.spoilTo l at_ pat j)[q]? = some y) :
    Crc.spoilTo l at_ pat (j + 1) = (Crc.spoilTo l at_ pat j).set q (y ^^^ 2 ^ k) ∧ Crc.anyTo l at_ pat (j + 1) = true := by
  have hc : (pat.testBit j && decide (at_ + j < 8 * l.length)) = true := by rw [h, decide_eq_true hlt]; rfl
  subst hq hk
  simp only [Crc.spoilTo, Crc.anyTo, hc, if_true]
  rw [List.getD_eq_getElem?_getD, hy]
  exact ⟨rfl, trivial⟩
theorem spoil_off (l : List Nat) (at_ pat j : Nat) (h : (pat.testBit j && decide (at_ + j < 8 * l.length)) = false) :
    Crc.spoilTo l at_ pat (j + 1) = Crc.spoilTo l at_ pat j ∧ Crc.anyTo l at_ pat (j + 1) = Crc.anyTo l at_ pat j := by
  simp [Crc.spoilTo, Crc.anyTo, h]

set_option maxRecDepth 100000 in
set_option maxHeartbeats 4000000 in
theorem low_Spoil (b off n c : Nat) (l : List Nat) (at_ pat : Nat) (w : World) (hA : Rd w (some ⟨b, off, none⟩) (bs l)) (hn : l.length = n) (hl : Bs l) (hn1 : 1 ≤ n) (hbig : n ≤ 1000) (hat : at_ < 8 * n) (hpat : pat < 65536) :
    Calls Try.prog 36 #[.slice (some ⟨b, off, none⟩) n c, .int .i64 (at_ : Int), .int .u16 (pat : Int)] w fun e w' => ∃ g c', e = .returned (.tuple #[.slice (some ⟨g, 0, none⟩) n c', .bool (Crc.anyTo l at_ pat 16)]) ∧ Ow w' w.heap.size 5 (some ⟨g, 0, none⟩) c' (bs (Crc.spoilTo l at_ pat 16)) ∧ Below w.heap.size w w' := by
  have HN := Lib.hid hn
  obtain ⟨m8, hm8⟩ : ∃ m, 8 * n = m := ⟨_, rfl⟩
  have hm8i : 8 * (n : Int) = (m8 : Int) := by omega
  have HM8 : Hid (8 * l.length = m8) := by (show _ = _); rw [hn, hm8]
  have HM := Lib.hid hm8
  have HE : Hid (bs [] = []) := rfl
  clear hn hm8
  go_enter Try.func36, Try.ntmps36
  go_wp2_with (at_builtin; refine app_b rfl _ _ rfl w ((Below.refl _ _).alloc (Nat.le_refl _) _) _ _ _ [] rfl (Ow.lit _ _ _ [] (Nat.le_refl _) (Nat.zero_le _) HE.out rfl) rfl (some ⟨b, off, none⟩) n c l rfl (hA.alloc _) HN.out (by omega) ?_)
  intro A8 c8 w8 o8 hb8 _
  try simp only [List.nil_append] at o8
  obtain ⟨g, rfl, hg, -, -, -⟩ := o8.head (by rw [bs_length, HN.out]; exact hn1)
  go_wp2_with fail
  go_loopw [9, 15] (fun av i wr => ∃ j : Nat, j ≤ 16 ∧ i = .int .i64 j ∧ av = .bool (Crc.anyTo l at_ pat j) ∧ Below w.heap.size w wr ∧ Ow wr w.heap.size 5 (some ⟨g, 0, none⟩) c8 (bs (Crc.spoilTo l at_ pat j))) (fun _ i _ => 16 - (intOf i).toNat)
  case atStart => exact ⟨0, by omega, rfl, rfl, hb8, o8⟩
  case round =>
    clear o8 hb8
    obtain ⟨j, hj, rfl, rfl, hbr, hor⟩ := hrel
    obtain ⟨av, hav⟩ : ∃ x, Crc.anyTo l at_ pat j = x := ⟨_, rfl⟩
    have HAV := Lib.hid hav
    rw [hav]
    clear hav
    by_cases hlt : j < 16
    · have BT := bit_u16 pat j hpat
      obtain ⟨tb, htb⟩ : ∃ x, pat.testBit j = x := ⟨_, rfl⟩
      rw [htb] at BT
      have HTB := Lib.hid htb
      clear htb
      have hmin : min j 16 = j := by omega
      have hj0 : ¬ ((j : Int) < 0) := by omega
      obtain ⟨s, hs⟩ : ∃ s, at_ + j = s := ⟨_, rfl⟩
      have hsi : (at_ : Int) + (j : Int) = (s : Int) := by omega
      have HS := Lib.hid hs
      have hsb : s ≤ 10000 := by omega
      have hs0 : (0 : Int) ≤ (s : Int) := by omega
      clear hs
      cases tb with
      | false =>
        obtain ⟨e1, e2⟩ := spoil_off l at_ pat j (by rw [HTB.out]; rfl)
        have HE1 := Lib.hid e1
        have HE2 := Lib.hid e2
        clear e1 e2
        go_wp2_with fail
        go_roundw
        case rel => exact ⟨j + 1, by omega, by go_num, by rw [HE2.out, HAV.out], hbr, by rw [HE1.out]; exact hor⟩
        case measure => simp [intOf]; omega
      | true =>
        by_cases hin : s < m8
        · have v1 : decide (s < m8) = true := decide_eq_true hin
          have v2 : decide ((s : Int) < (m8 : Int)) = true := decide_eq_true (by omega)
          obtain ⟨q, hq⟩ : ∃ q, s / 8 = q := ⟨_, rfl⟩
          obtain ⟨k, hk⟩ : ∃ k, s % 8 = k := ⟨_, rfl⟩
          have hqn : q < n := by have := HM.out; omega
          have hk8 : k < 8 := by omega
          obtain ⟨⟨u, hu, cu⟩, fu, hgB, hgl⟩ := hor.at_ (j := q) (by rw [bs_length, Crc.spoilTo_length, HN.out]; exact hqn)
          obtain ⟨y, hy⟩ : ∃ y, (Crc.spoilTo l at_ pat j)[q]? = some y := ⟨_, List.getElem?_eq_getElem (by rw [Crc.spoilTo_length, HN.out]; exact hqn)⟩
          have hyb : y < 256 := Crc.spoilTo_Bs hl at_ pat j y (List.mem_of_getElem? hy)
          have hu2 : u = .int .u8 (y : Int) := by
            have : (bs (Crc.spoilTo l at_ pat j))[q]? = some (.int .u8 (y : Int)) := by simp [bs, hy]
            rw [this] at hu
            injection hu with hu
            exact hu.symm
          subst hu2
          have ho2 := hor.stored q (.int .u8 ((y ^^^ 2 ^ k : Nat) : Int))
          obtain ⟨e1, e2⟩ := spoil_on l at_ pat j q k y HTB.out (by rw [HM8.out, HS.out]; exact hin) (by rw [HS.out]; exact hq) (by rw [HS.out]; exact hk) hy
          rw [bs_set, ← e1] at ho2
          have HE2 := Lib.hid e2
          clear e1 e2
          have p8 := pow8 k hk8
          have eq1 : (s : Int) / 8 = (q : Int) := by omega
          have eq2 : (s : Int) % 8 = (k : Int) := by omega
          have f0 : (0 : Int) ≤ (q : Int) := by omega
          have f1 : (q : Int) < (n : Int) := by omega
          have f2 : ¬ ((k : Int) < 0) := by omega
          have f3 : min k 8 = k := by omega
          have f4 := wrap_pow k hk8
          have f5 : bits .xor .u8 (y : Int) ((2 : Int) ^ k) = ((y ^^^ 2 ^ k : Nat) : Int) := by
            have := u8_xor_nat y (2 ^ k) hyb p8
            rwa [show ((2 ^ k : Nat) : Int) = (2 : Int) ^ k by simp] at this
          rw [← f5] at ho2
          clear f5 hu hy hq hk hin
          go_wp2_with fail
          go_region
          go_wp2_with fail
          go_roundw
          case rel => exact ⟨j + 1, by omega, by go_num, by rw [HE2.out], (hbr.setCell (p := ⟨g, q, none⟩) hg _).drew, ho2.drew⟩
          case measure => simp [intOf]; omega
        · have v1 : decide (s < m8) = false := decide_eq_false hin
          have v2 : decide ((s : Int) < (m8 : Int)) = false := decide_eq_false (by omega)
          obtain ⟨e1, e2⟩ := spoil_off l at_ pat j (by rw [HM8.out, HS.out, v1]; simp)
          have HE1 := Lib.hid e1
          have HE2 := Lib.hid e2
          clear e1 e2 hin
          go_wp2_with fail
          go_roundw
          case rel => exact ⟨j + 1, by omega, by go_num, by rw [HE2.out, HAV.out], hbr, by rw [HE1.out]; exact hor⟩
          case measure => simp [intOf]; omega
    · obtain rfl : j = 16 := by omega
      go_wp2_with fail
      go_ret2
      exact ⟨g, c8, by rw [HAV.out]; rfl, hor, hbr⟩
end Go.Proofs.Ytgofgnaaoaoemaa
