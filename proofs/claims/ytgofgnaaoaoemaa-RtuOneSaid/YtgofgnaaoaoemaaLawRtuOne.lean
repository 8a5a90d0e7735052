/- The walk of the law RtuOne (written by gen_rtuone.py). -/
import Derived.Test.YtgofgnaaoaoemaaRtuB
namespace Go.Proofs.Ytgofgnaaoaoemaa
open Go.RowKit
set_option linter.unusedSimpArgs false
set_option linter.unusedVariables false

theorem putL_inj {l k : List Nat} (h : putL l = putL k) : l = k := by
  have h1 : l.length = k.length := by have := congrArg List.length h; rw [putL_length, putL_length] at this; omega
  unfold putL at h
  exact (List.append_inj h h1).1
theorem frm_self {l : List Nat} (hl : Bs l) (h : errF l = 0) : 4 ≤ l.length ∧ l.length ≤ 256 ∧ mayF (unitF l) (pduF l) = true ∧ frmF (unitF l) (pduF l) = l := by
  have hu : unitF l = l.getD 0 0 := by unfold unitF; rw [if_pos h]
  have hp : pduF l = (l.take (l.length - 2)).drop 1 := by unfold pduF; rw [if_pos h]
  unfold errF at h
  split at h
  · cases h
  · rename_i h1
    split at h
    · cases h
    · rename_i h2
      split at h
      · rename_i h3
        have h4 : 4 ≤ l.length := by omega
        have h5 : l.length ≤ 256 := by omega
        have hlen : (pduF l).length = l.length - 3 := by rw [hp, List.length_drop, List.length_take]; omega
        have hm : mayF (unitF l) (pduF l) = true := by
          unfold mayF
          rw [hu, h3, hlen, decide_eq_true (by omega), decide_eq_true (by omega)]
          rfl
        have h0 : Crc.sum l = 0 := by omega
        have he := (sum_zero_iff hl (by omega)).1 h0
        have hc : unitF l :: pduF l = l.take (l.length - 2) := by
          rw [hu, hp]
          have : (l.take (l.length - 2)).getD 0 0 = l.getD 0 0 := by
            rw [List.getD_eq_getElem?_getD, List.getD_eq_getElem?_getD, List.getElem?_take, if_pos (by omega)]
          rw [← this]
          have e := List.drop_eq_getElem_cons (l := l.take (l.length - 2)) (i := 0) (by rw [List.length_take]; omega)
          rw [List.drop_zero] at e
          conv => rhs; rw [e]
          rw [List.getD_eq_getElem?_getD, List.getElem?_eq_getElem (by rw [List.length_take]; omega)]
          rfl
        refine ⟨h4, h5, hm, ?_⟩
        unfold frmF
        rw [if_pos hm, hc]
        unfold putL
        have hx := getD_lt hl (l.length - 2)
        have hy := getD_lt hl (l.length - 1)
        rw [he]
        conv => rhs; rw [last_two (show 2 ≤ l.length by omega)]
        congr 2
        · omega
        · congr 1; omega
      · cases h
theorem err_out {l : List Nat} (h : l.length < 4 ∨ 256 < l.length) : errF l = 10 := by unfold errF; rw [if_pos h]
theorem frm_same {u v : Nat} {p k : List Nat} (h1 : mayF u p = true) (h2 : mayF v k = true) : sameB (frmF u p) (frmF v k) = (decide (u = v) && sameB p k) := by
  unfold frmF
  rw [if_pos h1, if_pos h2, Bool.eq_iff_iff, sameB_iff, Bool.and_eq_true, decide_eq_true_iff, sameB_iff]
  constructor
  · intro h
    have := putL_inj h
    injection this with a b
    exact ⟨a, b⟩
  · rintro ⟨rfl, rfl⟩; rfl
theorem frmE_of {u : Nat} {p : List Nat} (h : mayF u p = true) : frmE u p = 0 := by unfold frmE; rw [if_pos h]
theorem frmE_not {u : Nat} {p : List Nat} (h : mayF u p = false) : frmE u p = 2 := by unfold frmE; rw [if_neg (by simp [h])]
theorem frmF_Bs {u : Nat} {p : List Nat} (hu : u < 256) (hp : Bs p) : Bs (frmF u p) := by
  unfold frmF
  split
  · exact putL_Bs (Bs.cons hu hp)
  · intro x hx; cases hx

set_option maxRecDepth 100000 in
set_option maxHeartbeats 4000000 in
theorem RtuOne_walk (A : Option Addr) (n c : Nat) (l : List Nat) (u v : Nat) (Ap : Option Addr) (np cp : Nat) (p : List Nat) (Aq : Option Addr) (nq cq : Nat) (k : List Nat) (w : World) (hA : Rd w A (bs l)) (hn : l.length = n) (hl : Bs l) (hnc : n ≤ c) (hu : u < 256) (hv : v < 256)
    (hP : Rd w Ap (bs p)) (hnp : p.length = np) (hp : Bs p) (hcp : np ≤ cp) (hQ : Rd w Aq (bs k)) (hnq : k.length = nq) (hk : Bs k) (hcq : nq ≤ cq) :
    Calls Try.prog 9 #[.slice A n c, .int .u8 (u : Int), .int .u8 (v : Int), .slice Ap np cp, .slice Aq nq cq] w fun e w' => e = .returned (.bool true) ∧ Below w.heap.size w w' := by
  have HN := Lib.hid hn
  have HNP := Lib.hid hnp
  have HNQ := Lib.hid hnq
  have awk := Lib.hid rtu_awake
  clear hn hnp hnq
  by_cases h1 : 300 < n
  · have v1 : decide ((300 : Int) < (n : Int)) = true := decide_eq_true (by omega)
    go_enter Try.func9, Try.ntmps9
    go_wp2_with fail
    refine (awk.out _).mono ?_
    rintro e wz ⟨rfl, hs⟩
    go_wp2_with fail
    go_ret
    exact ⟨rfl, hs⟩
  have v1 : decide ((300 : Int) < (n : Int)) = false := decide_eq_false (by omega)
  by_cases h2 : 260 < np
  · have v2 : decide ((260 : Int) < (np : Int)) = true := decide_eq_true (by omega)
    go_enter Try.func9, Try.ntmps9
    go_wp2_with fail
    refine (awk.out _).mono ?_
    rintro e wz ⟨rfl, hs⟩
    go_wp2_with fail
    go_ret
    exact ⟨rfl, hs⟩
  have v2 : decide ((260 : Int) < (np : Int)) = false := decide_eq_false (by omega)
  by_cases h3 : 260 < nq
  · have v3 : decide ((260 : Int) < (nq : Int)) = true := decide_eq_true (by omega)
    go_enter Try.func9, Try.ntmps9
    go_wp2_with fail
    refine (awk.out _).mono ?_
    rintro e wz ⟨rfl, hs⟩
    go_wp2_with fail
    go_ret
    exact ⟨rfl, hs⟩
  have v3 : decide ((260 : Int) < (nq : Int)) = false := decide_eq_false (by omega)
  have E1 := Lib.hid (rtu_Parse A n c l w hA HN.out hl hnc (by omega))
  have E2 := Lib.hid (fun W (h : Rd W Ap (bs p)) => rtu_Bytes u Ap np cp p W hu h HNP.out hp (by omega))
  have E3 := Lib.hid (fun W (h : Rd W Aq (bs k)) => rtu_Bytes v Aq nq cq k W hv h HNQ.out hk (by omega))
  have S2 := Lib.hid (fun W (h1 : Rd W Ap (bs p)) (h2 : Rd W Aq (bs k)) => low_Same Ap Aq np cp nq cq p k W h1 h2 hp hk HNP.out HNQ.out)
  obtain ⟨un, hun⟩ : ∃ x, unitF l = x := ⟨_, rfl⟩
  obtain ⟨pd, hpd⟩ : ∃ x, pduF l = x := ⟨_, rfl⟩
  have hun2 := unitF_lt hl
  have hpb := pduF_Bs hl
  have HUN := Lib.hid hun
  have HPD := Lib.hid hpd
  rw [hun, hpd] at E1
  rw [hun] at hun2
  rw [hpd] at hpb
  clear hun hpd
  by_cases he : errF l = 0
  · obtain ⟨h4, h5, hm, hfr⟩ := frm_self hl he
    rw [HN.out] at h4 h5
    rw [HUN.out, HPD.out] at hm hfr
    have v4 : decide ((n : Int) < 4) = false := decide_eq_false (by omega)
    have v5 : decide ((256 : Int) < (n : Int)) = false := decide_eq_false (by omega)
    have E4 := Lib.hid (fun W A' c' (h : Rd W A' (bs pd)) hpl => rtu_Bytes un A' pd.length c' pd W hun2 h rfl hpb hpl)
    have hpl : pd.length ≤ 1000000 := by rw [← HPD.out]; unfold pduF; rw [if_pos he, List.length_drop, List.length_take, HN.out]; omega
    rw [hfr, frmE_of hm, HN.out] at E4
    have S4 := Lib.hid (fun W A' c' (h1 : Rd W A (bs l)) (h2 : Rd W A' (bs l)) => low_Same A A' n c n c' l l W h1 h2 hl hl HN.out HN.out)
    rw [sameB_self] at S4
    rw [he] at E1
    clear he hm hfr h4 h5
    go_enter Try.func9, Try.ntmps9
    go_wp2_with fail
    refine E1.out.mono ?_
    rintro e w2 ⟨A2, c2, rfl, r2, -, hb⟩
    go_wp2_with fail
    refine (E4.out _ _ _ r2.rd hpl).mono ?_
    rintro e w3 ⟨A3, c3, rfl, o3, hs⟩
    replace hb := bthen hb hs
    go_wp2_with fail
    refine (S4.out _ _ _ (hA.below hb) o3.rd).mono ?_
    rintro e w4 ⟨rfl, rfl⟩
    clear hs o3 r2 E4 S4
    have hPt := hP.below hb
    go_wp2_with fail
    refine (E2.out _ hPt).mono ?_
    rintro e wa ⟨Ax, cx, rfl, ox, hs⟩
    have hb1 := bthen hb hs
    go_wp2_with fail
    refine (E3.out _ (hQ.below hb1)).mono ?_
    rintro e wb ⟨Ay, cy, rfl, oy, hs2⟩
    have hb2 := bthen hb1 hs2
    have ox2 := ox.below hs2
    cases hm1 : mayF u p with
    | false =>
      rw [frmE_not hm1]
      clear hm1
      go_wp2_with fail
      refine (awk.out _).mono ?_
      rintro e wz ⟨rfl, hs⟩
      go_wp2_with fail
      go_ret
      exact ⟨rfl, bthen hb2 hs⟩
    | true =>
    cases hm2 : mayF v k with
    | false =>
      rw [frmE_of hm1, frmE_not hm2]
      clear hm1 hm2
      go_wp2_with fail
      refine (awk.out _).mono ?_
      rintro e wz ⟨rfl, hs⟩
      go_wp2_with fail
      go_ret
      exact ⟨rfl, bthen hb2 hs⟩
    | true =>
      have hsm := frm_same hm1 hm2
      rw [frmE_of hm1, frmE_of hm2]
      clear hm1 hm2
      have S1 := Lib.hid (low_Same Ax Ay (frmF u p).length cx (frmF v k).length cy (frmF u p) (frmF v k) wb ox2.rd oy.rd (frmF_Bs hu hp) (frmF_Bs hv hk) rfl rfl)
      rw [hsm] at S1
      have S3 := Lib.hid (S2.out wb (hP.below hb2) (hQ.below hb2))
      obtain ⟨y, hy⟩ : ∃ y, sameB p k = y := ⟨_, rfl⟩
      rw [hy] at S1 S3
      clear hsm hy
      have t0 := int_eqb u v
      cases hd : decide (u = v) with
      | false =>
        rw [hd] at t0 S1
        rw [Bool.false_and] at S1
        clear hd
        go_wp2_with fail
        refine S1.out.mono ?_
        rintro e wq ⟨rfl, rfl⟩
        go_wp2_with fail
        refine (awk.out _).mono ?_
        rintro e wz ⟨rfl, hs⟩
        go_wp2_with fail
        go_ret
        exact ⟨rfl, bthen hb2 hs⟩
      | true =>
        rw [hd] at t0 S1
        rw [Bool.true_and] at S1
        clear hd
        go_wp2_with fail
        refine S1.out.mono ?_
        rintro e wq ⟨rfl, rfl⟩
        go_wp2_with fail
        refine S3.out.mono ?_
        rintro e wq ⟨rfl, rfl⟩
        go_wp2_with fail
        refine (awk.out _).mono ?_
        rintro e wz ⟨rfl, hs⟩
        go_wp2_with fail
        go_ret
        exact ⟨rfl, bthen hb2 hs⟩
  obtain ⟨hu0, hp0⟩ : un = 0 ∧ pd = [] := ⟨by rw [← HUN.out]; unfold unitF; rw [if_neg he], by rw [← HPD.out]; unfold pduF; rw [if_neg he]⟩
  rw [hu0, hp0] at E1
  simp only [List.length_nil] at E1
  obtain ⟨er, her⟩ : ∃ x, errF l = x := ⟨_, rfl⟩
  rw [her] at E1
  have v0 : ((er : Int) == 0) = false := by simp; omega
  have hc : decide ((n : Int) < 4) = true ∧ ((er : Int) != 10) = false ∨ decide ((n : Int) < 4) = false ∧ decide ((256 : Int) < (n : Int)) = true ∧ ((er : Int) != 10) = false ∨ decide ((n : Int) < 4) = false ∧ decide ((256 : Int) < (n : Int)) = false := by
    by_cases h4 : n < 4
    · left
      refine ⟨decide_eq_true (by omega), ?_⟩
      rw [← her, err_out (by rw [HN.out]; omega)]; rfl
    · by_cases h5 : 256 < n
      · right; left
        refine ⟨decide_eq_false (by omega), decide_eq_true (by omega), ?_⟩
        rw [← her, err_out (by rw [HN.out]; omega)]; rfl
      · right; right; exact ⟨decide_eq_false (by omega), decide_eq_false (by omega)⟩
  clear hu0 hp0 her he
  rcases hc with ⟨c1, c2⟩ | ⟨c1, c2, c3⟩ | ⟨c1, c2⟩
  all_goals
    go_enter Try.func9, Try.ntmps9
    go_wp2_with fail
    refine E1.out.mono ?_
    rintro e w2 ⟨A2, c2, rfl, r2, -, hb⟩
    have hPt := hP.below hb
    go_wp2_with fail
    refine (E2.out _ hPt).mono ?_
    rintro e wa ⟨Ax, cx, rfl, ox, hs⟩
    have hb1 := bthen hb hs
    go_wp2_with fail
    refine (E3.out _ (hQ.below hb1)).mono ?_
    rintro e wb ⟨Ay, cy, rfl, oy, hs2⟩
    have hb2 := bthen hb1 hs2
    have ox2 := ox.below hs2
    cases hm1 : mayF u p with
    | false =>
      rw [frmE_not hm1]
      clear hm1
      go_wp2_with fail
      refine (awk.out _).mono ?_
      rintro e wz ⟨rfl, hs⟩
      go_wp2_with fail
      go_ret
      exact ⟨rfl, bthen hb2 hs⟩
    | true =>
    cases hm2 : mayF v k with
    | false =>
      rw [frmE_of hm1, frmE_not hm2]
      clear hm1 hm2
      go_wp2_with fail
      refine (awk.out _).mono ?_
      rintro e wz ⟨rfl, hs⟩
      go_wp2_with fail
      go_ret
      exact ⟨rfl, bthen hb2 hs⟩
    | true =>
      have hsm := frm_same hm1 hm2
      rw [frmE_of hm1, frmE_of hm2]
      clear hm1 hm2
      have S1 := Lib.hid (low_Same Ax Ay (frmF u p).length cx (frmF v k).length cy (frmF u p) (frmF v k) wb ox2.rd oy.rd (frmF_Bs hu hp) (frmF_Bs hv hk) rfl rfl)
      rw [hsm] at S1
      have S3 := Lib.hid (S2.out wb (hP.below hb2) (hQ.below hb2))
      obtain ⟨y, hy⟩ : ∃ y, sameB p k = y := ⟨_, rfl⟩
      rw [hy] at S1 S3
      clear hsm hy
      have t0 := int_eqb u v
      cases hd : decide (u = v) with
      | false =>
        rw [hd] at t0 S1
        rw [Bool.false_and] at S1
        clear hd
        go_wp2_with fail
        refine S1.out.mono ?_
        rintro e wq ⟨rfl, rfl⟩
        go_wp2_with fail
        refine (awk.out _).mono ?_
        rintro e wz ⟨rfl, hs⟩
        go_wp2_with fail
        go_ret
        exact ⟨rfl, bthen hb2 hs⟩
      | true =>
        rw [hd] at t0 S1
        rw [Bool.true_and] at S1
        clear hd
        go_wp2_with fail
        refine S1.out.mono ?_
        rintro e wq ⟨rfl, rfl⟩
        go_wp2_with fail
        refine S3.out.mono ?_
        rintro e wq ⟨rfl, rfl⟩
        go_wp2_with fail
        refine (awk.out _).mono ?_
        rintro e wz ⟨rfl, hs⟩
        go_wp2_with fail
        go_ret
        exact ⟨rfl, bthen hb2 hs⟩
end Go.Proofs.Ytgofgnaaoaoemaa
