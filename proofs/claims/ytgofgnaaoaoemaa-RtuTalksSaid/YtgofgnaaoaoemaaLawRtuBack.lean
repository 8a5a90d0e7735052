/- The walk of the law RtuBack (written by gen_rtuback.py). -/
import Derived.Test.YtgofgnaaoaoemaaRtuB
import Derived.Test.YtgofgnaaoaoemaaSpoil
namespace Go.Proofs.Ytgofgnaaoaoemaa
open Go.RowKit
set_option linter.unusedSimpArgs false
set_option linter.unusedVariables false

theorem frm_tells {u : Nat} {p : List Nat} (hm : mayF u p = true) : errF (putL (u :: p)) = 0 ∧ unitF (putL (u :: p)) = u ∧ pduF (putL (u :: p)) = p ∧ Crc.sum (putL (u :: p)) = 0 := by
  have hs : Crc.sum (putL (u :: p)) = 0 := Crc.sum_put (u :: p)
  unfold mayF at hm
  simp only [Bool.and_eq_true, decide_eq_true_eq] at hm
  obtain ⟨⟨h1, h2⟩, h3⟩ := hm
  have hlen : (putL (u :: p)).length = p.length + 3 := by rw [putL_length]; rfl
  have hg : (putL (u :: p)).getD 0 0 = u := rfl
  have he : errF (putL (u :: p)) = 0 := by
    unfold errF
    rw [if_neg (by rw [hlen]; omega), if_neg (by simp [hs]), hg, if_pos h1]
  refine ⟨he, by unfold unitF; rw [if_pos he, hg], ?_, hs⟩
  unfold pduF
  rw [if_pos he, hlen, show p.length + 3 - 2 = p.length + 1 by omega]
  have : (putL (u :: p)).take (p.length + 1) = u :: p := by
    unfold putL
    rw [List.take_append_of_le_length (by simp), List.take_of_length_le (by simp)]
  rw [this]
  rfl
theorem spoil_tells {u : Nat} {p : List Nat} (hm : mayF u p = true) (s pat : Nat) (hs : s < 8 * (putL (u :: p)).length) :
    (((errF (Crc.spoilTo (putL (u :: p)) s pat 16) : Nat) : Int) == 11) = Crc.anyTo (putL (u :: p)) s pat 16 := by
  obtain ⟨he, -, -, h0⟩ := frm_tells hm
  cases ha : Crc.anyTo (putL (u :: p)) s pat 16 with
  | true =>
    have hb := Crc.spoil_bad s pat hs h0 ha
    have hlen := Crc.spoilTo_length (putL (u :: p)) s pat 16
    have : errF (Crc.spoilTo (putL (u :: p)) s pat 16) = 11 := by
      have h1 : ¬ ((putL (u :: p)).length < 4 ∨ 256 < (putL (u :: p)).length) := by
        intro h
        unfold errF at he
        rw [if_pos h] at he
        cases he
      unfold errF
      rw [hlen, if_neg h1, if_pos hb]
    rw [this]; rfl
  | false =>
    rw [Crc.spoil_same s pat hs ha, he]; rfl

set_option maxRecDepth 100000 in
set_option maxHeartbeats 8000000 in
theorem RtuBack_walk (u : Nat) (A : Option Addr) (n c : Nat) (p : List Nat) (at_ pat : Nat) (w : World) (hu : u < 256) (hA : Rd w A (bs p)) (hn : p.length = n) (hp : Bs p) (hnc : n ≤ c) (hat : at_ < 65536) (hpat : pat < 65536) :
    Calls Try.prog 8 #[.int .u8 (u : Int), .slice A n c, .int .u16 (at_ : Int), .int .u16 (pat : Int)] w fun e w' => e = .returned (.bool true) ∧ Below w.heap.size w w' := by
  have HN := Lib.hid hn
  have awk := Lib.hid rtu_awake
  clear hn
  by_cases h1 : 300 < n
  · have v1 : decide ((300 : Int) < (n : Int)) = true := decide_eq_true (by omega)
    go_enter Try.func8, Try.ntmps8
    go_wp2_with fail
    refine (awk.out _).mono ?_
    rintro e wz ⟨rfl, hs⟩
    go_wp2_with fail
    go_ret
    exact ⟨rfl, hs⟩
  have v1 : decide ((300 : Int) < (n : Int)) = false := decide_eq_false (by omega)
  have E1 := Lib.hid (rtu_Bytes u A n c p w hu hA HN.out hp (by omega))
  cases hm : mayF u p with
  | false =>
    have HF : Hid (frmF u p = [] ∧ frmE u p = 2) := ⟨by unfold frmF; rw [if_neg (by simp [hm])], by unfold frmE; rw [if_neg (by simp [hm])]⟩
    rw [HF.out.1, HF.out.2] at E1
    simp only [List.length_nil] at E1
    have hc : ((u : Int) == 0) = true ∨ (((u : Int) == 0) = false ∧ decide ((247 : Int) < (u : Int)) = true) ∨ (((u : Int) == 0) = false ∧ decide ((247 : Int) < (u : Int)) = false ∧ ((n : Int) == 0) = true) ∨ (((u : Int) == 0) = false ∧ decide ((247 : Int) < (u : Int)) = false ∧ ((n : Int) == 0) = false ∧ decide ((253 : Int) < (n : Int)) = true) := by
      by_cases c1 : u = 0
      · left; simp [c1]
      · by_cases c2 : 247 < u
        · right; left; exact ⟨by simp; omega, decide_eq_true (by omega)⟩
        · by_cases c3 : n = 0
          · right; right; left; exact ⟨by simp; omega, decide_eq_false (by omega), by simp [c3]⟩
          · right; right; right
            refine ⟨by simp; omega, decide_eq_false (by omega), by simp; omega, decide_eq_true ?_⟩
            unfold mayF isUn at hm
            rw [HN.out, decide_eq_true (show 1 ≤ u by omega), decide_eq_true (show u ≤ 247 by omega), decide_eq_true (show 1 ≤ n by omega)] at hm
            have : ¬ n ≤ 253 := by simpa using hm
            omega
    clear hm h1
    rcases hc with c1 | ⟨c1, c2⟩ | ⟨c1, c2, c3⟩ | ⟨c1, c2, c3, c4⟩
    all_goals
    go_enter Try.func8, Try.ntmps8
    go_wp2_with fail
    refine E1.out.mono ?_
    rintro e w2 ⟨A2, c2, rfl, -, hb⟩
    go_wp2_with fail
    refine (awk.out _).mono ?_
    rintro e wz ⟨rfl, hs⟩
    go_wp2_with fail
    go_ret
    exact ⟨rfl, bthen hb hs⟩
  | true =>
  obtain ⟨te, tu, tp, -⟩ := frm_tells hm
  have hnm : 1 ≤ n ∧ n ≤ 253 := by
    have h := hm
    unfold mayF at h
    simp only [Bool.and_eq_true, decide_eq_true_eq] at h
    rw [HN.out] at h
    exact ⟨h.1.2, h.2⟩
  obtain ⟨hn1, hn2⟩ := hnm
  have HF : Hid (frmF u p = putL (u :: p) ∧ frmE u p = 0) := ⟨by unfold frmF; rw [if_pos hm], by unfold frmE; rw [if_pos hm]⟩
  rw [HF.out.1, HF.out.2] at E1
  have hBs := putL_Bs (Bs.cons hu hp)
  have hlen : (putL (u :: p)).length = n + 3 := by rw [putL_length, List.length_cons, HN.out]
  have SP := Lib.hid (fun s h => spoil_tells hm s pat h)
  rw [hlen] at E1 SP
  obtain ⟨L, hL⟩ : ∃ L, putL (u :: p) = L := ⟨_, rfl⟩
  rw [hL] at E1 te tu tp hBs hlen SP
  obtain ⟨m, hmm⟩ : ∃ m, n + 3 = m := ⟨_, rfl⟩
  have hmi : (n : Int) + 3 = (m : Int) := by omega
  have hm4 : 4 ≤ m := by omega
  have hm5 : m ≤ 256 := by omega
  rw [hmm] at E1 hlen SP
  obtain ⟨m8, hm8⟩ : ∃ x, 8 * m = x := ⟨_, rfl⟩
  have hm8i : 8 * (m : Int) = (m8 : Int) := by omega
  rw [hm8] at SP
  obtain ⟨s, hs⟩ : ∃ s, at_ % m8 = s := ⟨_, rfl⟩
  have hsi : (at_ : Int) % (m8 : Int) = (s : Int) := by rw [← hs]; simp
  have hsm : s < m8 := by rw [← hs]; exact Nat.mod_lt _ (by omega)
  have hm80 : 0 < m8 := by omega
  have SP1 := Lib.hid (SP.out s hsm)
  have HLEN := Lib.hid hlen
  have HM8 := Lib.hid hm8
  obtain ⟨L2, hL2⟩ : ∃ L2, Crc.spoilTo L s pat 16 = L2 := ⟨_, rfl⟩
  obtain ⟨an, han⟩ : ∃ x, Crc.anyTo L s pat 16 = x := ⟨_, rfl⟩
  rw [hL2, han] at SP1
  have hB2 : Bs L2 := by rw [← hL2]; exact Crc.spoilTo_Bs hBs s pat 16
  have HL2 : Hid (L2.length = m) := by (show _ = _); rw [← hL2, Crc.spoilTo_length]; exact hlen
  have E3 := Lib.hid (fun W A' c' (h : Rd W A' (bs L2)) hc => rtu_Parse A' m c' L2 W h HL2.out hB2 hc (by omega))
  have E4 := Lib.hid (fun W A' c' (h : Rd W A' (bs L)) hc => rtu_Parse A' m c' L W h HLEN.out hBs hc (by omega))
  rw [te, tu, tp, HN.out] at E4
  have SPL := Lib.hid (fun W g c' (h : Rd W (some ⟨g, 0, none⟩) (bs L)) => low_Spoil g 0 m c' L s pat W h HLEN.out hBs (by omega) (by omega) (by rw [HM8.out]; exact hsm) hpat)
  rw [hL2, han] at SPL
  have HTP := Lib.hid tp
  clear te tu tp hL hmm hs hL2 han hm SP hlen hm8 h1
  go_enter Try.func8, Try.ntmps8
  go_wp2_with fail
  refine E1.out.mono ?_
  rintro e w2 ⟨A2, c2, rfl, o2, hb⟩
  obtain ⟨g2, rfl, hg2, hg2w, -, -⟩ := o2.head (by rw [bs_length, HLEN.out]; omega)
  have hc2 := o2.le.1
  rw [bs_length, HLEN.out] at hc2
  go_wp2_with fail
  try rw [hsi]
  refine (SPL.out _ _ _ o2.rd).mono ?_
  rintro e w3 ⟨g3, c3, rfl, o3, hs⟩
  have hc3 := o3.le.1
  rw [bs_length, HL2.out] at hc3
  have hw23 := hs.size
  replace hb := bthen hb hs
  replace o2 := o2.below hs
  clear hs
  go_wp2_with fail
  refine (E3.out _ _ _ o3.rd hc3).mono ?_
  rintro e w4 ⟨A4, c4, rfl, -, -, hs⟩
  have hw34 := hs.size
  replace hb := bthen hb hs
  replace o2 := o2.below hs
  clear hs
  have sp := SP1.out
  go_wp2_with fail
  refine (E4.out _ _ _ o2.rd hc2).mono ?_
  clear sp
  rintro e w5 ⟨A5, c5, rfl, r5, -, hs⟩
  have hg24 : g2 < w4.heap.size := by omega
  have hgw : w.heap.size ≤ g2 := hg2
  replace hb := bthen hb hs
  replace o2 := o2.below hs
  clear hs SP1 E3 E4 SPL
  have hlen0 : Hid ((bs L).length = m) := by (show _ = _); rw [bs_length, HLEN.out]
  go_wp2_with fail
  go_loopw [96] (fun i wr => ∃ (j : Nat) (cs : List Value), j ≤ m ∧ i = .int .i64 j ∧ Hid (cs.length = m) ∧ Hid (∀ k, j ≤ k → cs[k]? = (bs L)[k]?) ∧ Ow wr w.heap.size 5 (some ⟨g2, 0, none⟩) c2 cs ∧ w5.grownBy wr (some g2)) (fun i _ => m - (intOf i).toNat)
  case atStart => exact ⟨0, bs L, by omega, rfl, hlen0, (fun k _ => rfl), o2, grown_refl _ _⟩
  case round =>
  obtain ⟨j, cs, hj, rfl, HL, HR, oc, gr⟩ := hrel
  by_cases hlt : j < m
  · obtain ⟨x, hx⟩ : ∃ x, L[j]? = some x := ⟨_, List.getElem?_eq_getElem (by rw [HLEN.out]; exact hlt)⟩
    have hxb := hBs.get hx
    have hcj : cs[j]? = some (.int .u8 (x : Int)) := by rw [HR.out j (Nat.le_refl _)]; simp [bs, hx]
    obtain ⟨-, hfz, -, -⟩ := oc.at_ (j := j) (by rw [HL.out]; exact hlt)
    have hcell := oc.rd.cellAt hcj
    rw [Nat.zero_add] at hcell
    obtain ⟨v, hv⟩ : ∃ v, bits .xor .u8 (x : Int) 255 = v := ⟨_, rfl⟩
    have oc2 := oc.stored j (.int .u8 v)
    have gr2 := grown_set gr j (.int .u8 v)
    have HR2 : Hid (∀ k, j + 1 ≤ k → (cs.set j (.int .u8 v))[k]? = (bs L)[k]?) := set_rest HR.out
    have HL3 : Hid ((cs.set j (.int .u8 v)).length = m) := by (show _ = _); rw [List.length_set]; exact HL.out
    clear hx hcj
    go_wp2_with fail
    go_roundw
    case rel => exact ⟨j + 1, _, by omega, by go_num, HL3, HR2, oc2, gr2⟩
    case measure => simp [intOf]; omega
  obtain rfl : m = j := by omega
  replace r5 := r5.grown gr hg24
  replace hb := bgrow hb gr hgw
  have S1 := Lib.hid (low_Same A5 A n c5 n c p p wr r5.rd (hA.below hb) hp hp HN.out HN.out)
  rw [sameB_self] at S1
  clear gr oc HL HR o2 hlen0
  go_wp2_with fail
  refine S1.out.mono ?_
  rintro e w6 ⟨rfl, rfl⟩
  go_wp2_with fail
  refine (awk.out _).mono ?_
  rintro e wz ⟨rfl, hs⟩
  go_wp2_with fail
  go_ret
  exact ⟨rfl, bthen hb hs⟩
end Go.Proofs.Ytgofgnaaoaoemaa
