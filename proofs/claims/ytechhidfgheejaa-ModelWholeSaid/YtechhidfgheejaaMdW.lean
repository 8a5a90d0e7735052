/- Rows of words held against one another; saucierlaw07.Light and same (written by gen_mdw.py). -/
import Derived.Test.YtechhidfgheejaaMdLaw
namespace Go.Proofs.Ytechhidfgheejaa
open Go.RowKit
set_option linter.unusedSimpArgs false
set_option linter.unusedVariables false
set_option maxHeartbeats 1000000 in
theorem low_Words (A B : Option Addr) (n c m d : Nat) (l k : List Nat) (w : World) (hA : Rd w A (ws l)) (hB : Rd w B (ws k)) (hn : l.length = n) (hm : k.length = m) (hn5 : n ≤ 1000000000) :
    Calls Try.prog 37 #[.slice A n c, .slice B m d] w fun e w' => e = .returned (.bool (sameB l k)) ∧ ∃ dn, w' = w.drewN dn := by
  have HN := Lib.hid hn
  have HM := Lib.hid hm
  clear hn hm
  by_cases hlen : n = m
  · subst hlen
    go_enter Try.func37, Try.ntmps37
    go_wp2_with fail
    go_loopw [13] (fun i wr => ∃ j : Nat, j ≤ n ∧ i = .int .i64 j ∧ l.take j = k.take j ∧ ∃ dn, wr = w.drewN dn) (fun i _ => n - (intOf i).toNat)
    case atStart => exact ⟨0, by omega, rfl, by simp, 0, rfl⟩
    case round =>
      obtain ⟨j, hj, rfl, hsame, dn, hw⟩ := hrel
      have HW := Lib.hid hw
      have hA' : Rd wr A (ws l) := by rw [hw]; exact hA
      have hB' : Rd wr B (ws k) := by rw [hw]; exact hB
      clear hw
      by_cases hlt : j < n
      · obtain ⟨b1, o1, x, rfl, hx, cx⟩ := hA'.word (k := j) (by rw [HN.out]; exact hlt)
        obtain ⟨b2, o2, y, rfl, hy, cy⟩ := hB'.word (k := j) (by rw [HM.out]; exact hlt)
        have HX := Lib.hid hx
        have HY := Lib.hid hy
        have HS := Lib.hid hsame
        clear hx hy hsame
        have f1 : (0 : Int) ≤ (j : Int) := by omega
        have f2 : (j : Int) < (n : Int) := by omega
        by_cases hxy : x = y
        · subst hxy
          go_wp2_with fail
          go_quiet (fail)
          go_wp2_with fail
          go_roundw
          case rel => exact ⟨j + 1, by omega, by go_num, take_next HS.out HX.out HY.out, dn + nq, by rw [HW.out]; exact World.drewN_drewN _ _ _⟩
          case measure => simp [intOf]; omega
        ·
          have hxy' : ((x : Int) != (y : Int)) = true := by simp; omega
          have HNE := Lib.hid hxy
          clear hxy
          go_wp2_with fail
          go_quiet (fail)
          go_wp2_with fail
          go_ret
          exact ⟨ret_b (by rw [Bool.eq_false_iff]; intro e; exact ne_at HX.out HY.out HNE.out (sameB_iff.1 e)), dn + nq, by rw [HW.out]; exact World.drewN_drewN _ _ _⟩
      · obtain rfl : j = n := by omega
        go_wp2_with fail
        go_ret
        refine ⟨ret_b ?_, dn, HW.out⟩
        rw [List.take_of_length_le (by rw [HN.out]; exact Nat.le_refl _), List.take_of_length_le (by rw [HM.out]; exact Nat.le_refl _)] at hsame
        exact sameB_iff.2 hsame
  · have hne : ¬ ((n : Int) = (m : Int)) := by omega
    go_enter Try.func37, Try.ntmps37
    go_wp2_with fail
    go_ret
    exact ⟨ret_b (by rw [Bool.eq_false_iff]; intro e; apply hlen; rw [← HN.out, ← HM.out, sameB_iff.1 e]), 0, rfl⟩


def lightN (s : Sp) (m : Mm) : Bool := decide (s.coils.length + s.inputs.length + s.holding.length + s.words.length ≤ 40) && decide (m.coils.length ≤ 300) && decide (m.inputs.length ≤ 300) && decide (m.holding.length ≤ 300) && decide (m.words.length ≤ 300)
set_option maxRecDepth 100000 in
set_option maxHeartbeats 1000000 in
theorem law07_Light (s : Sp) (q : Q8) (m : Mm) (p : Q8) (w : World) (hf : s.few 140737488355328) :
    Calls Try.prog 11 #[s.v q, m.v p.A1 p.c1 p.A2 p.c2 p.A3 p.c3 p.A4 p.c4] w fun e w' => e = .returned (.bool (lightN s m)) ∧ Below w.heap.size w w' := by
  have HL : Hid (lightN s m = (decide (s.coils.length + s.inputs.length + s.holding.length + s.words.length ≤ 40) && decide (m.coils.length ≤ 300) && decide (m.inputs.length ≤ 300) && decide (m.holding.length ≤ 300) && decide (m.words.length ≤ 300))) := rfl
  generalize lightN s m = R at *
  obtain ⟨f1, f2, f3, f4⟩ := hf
  have hb := bx_space w (.cells #[.slice q.A1 s.coils.length q.c1, .slice q.A2 s.inputs.length q.c2, .slice q.A3 s.holding.length q.c3, .slice q.A4 s.words.length q.c4] 24) (.cells #[.slice p.A1 m.coils.length p.c1, .slice p.A2 m.inputs.length p.c2, .slice p.A3 m.holding.length p.c3, .slice p.A4 m.words.length p.c4] 28)
  have d := (Blk.new w 24 #[.slice q.A1 s.coils.length q.c1, .slice q.A2 s.inputs.length q.c2, .slice q.A3 s.holding.length q.c3, .slice q.A4 s.words.length q.c4]).alloc (.cells #[.slice p.A1 m.coils.length p.c1, .slice p.A2 m.inputs.length p.c2, .slice p.A3 m.holding.length p.c3, .slice p.A4 m.words.length p.c4] 28)
  have d' := Blk.newAt (w.alloc (.cells #[.slice q.A1 s.coils.length q.c1, .slice q.A2 s.inputs.length q.c2, .slice q.A3 s.holding.length q.c3, .slice q.A4 s.words.length q.c4] 24)) 28 #[.slice p.A1 m.coils.length p.c1, .slice p.A2 m.inputs.length p.c2, .slice p.A3 m.holding.length p.c3, .slice p.A4 m.words.length p.c4] (w.heap.size + 1) (World.size_alloc _ _)
  simp only [Sp.v, Mm.v]
  go_enter Try.func11, Try.ntmps11
  go_upto_region 1 with fail
  obtain ⟨g, hg⟩ : ∃ g, w.heap.size = g := ⟨_, rfl⟩
  obtain ⟨g1, hg1⟩ : ∃ g, w.heap.size + 1 = g := ⟨_, rfl⟩
  rw [hg1] at d' ⊢
  rw [hg] at d ⊢
  generalize (w.alloc (.cells #[.slice q.A1 s.coils.length q.c1, .slice q.A2 s.inputs.length q.c2, .slice q.A3 s.holding.length q.c3, .slice q.A4 s.words.length q.c4] 24)).alloc (.cells #[.slice p.A1 m.coils.length p.c1, .slice p.A2 m.inputs.length p.c2, .slice p.A3 m.holding.length p.c3, .slice p.A4 m.words.length p.c4] 28) = w1 at *
  clear hg hg1
  obtain ⟨d0, d1, d2, d3⟩ := d.c4
  obtain ⟨e0, e1, e2, e3⟩ := d'.c4
  by_cases h0 : s.coils.length + s.inputs.length + s.holding.length + s.words.length ≤ 40
  · have v0 : decide ((s.coils.length : Int) + (s.inputs.length : Int) + (s.holding.length : Int) + (s.words.length : Int) ≤ 40) = true := decide_eq_true (by omega)
    by_cases h1 : m.coils.length ≤ 300
    · have v1 : decide ((m.coils.length : Int) ≤ 300) = true := decide_eq_true (by omega)
      by_cases h2 : m.inputs.length ≤ 300
      · have v2 : decide ((m.inputs.length : Int) ≤ 300) = true := decide_eq_true (by omega)
        by_cases h3 : m.holding.length ≤ 300
        · have v3 : decide ((m.holding.length : Int) ≤ 300) = true := decide_eq_true (by omega)
          by_cases h4 : m.words.length ≤ 300
          · have v4 : decide ((m.words.length : Int) ≤ 300) = true := decide_eq_true (by omega)
            have HR : Hid (R = true) := by (show _ = _); rw [HL.out, decide_eq_true h0, decide_eq_true h1, decide_eq_true h2, decide_eq_true h3, decide_eq_true h4]; rfl
            go_wp2_with fail
            go_ret
            exact ⟨ret_b HR.out, hb⟩
          · have v4 : decide ((m.words.length : Int) ≤ 300) = false := decide_eq_false (by omega)
            have HR : Hid (R = false) := by (show _ = _); rw [HL.out, decide_eq_false h4, Bool.and_false]
            go_wp2_with fail
            go_ret
            exact ⟨ret_b HR.out, hb⟩
        · have v3 : decide ((m.holding.length : Int) ≤ 300) = false := decide_eq_false (by omega)
          have HR : Hid (R = false) := by (show _ = _); rw [HL.out, decide_eq_false h3, Bool.and_false, Bool.false_and]
          go_wp2_with fail
          go_ret
          exact ⟨ret_b HR.out, hb⟩
      · have v2 : decide ((m.inputs.length : Int) ≤ 300) = false := decide_eq_false (by omega)
        have HR : Hid (R = false) := by (show _ = _); rw [HL.out, decide_eq_false h2, Bool.and_false, Bool.false_and, Bool.false_and]
        go_wp2_with fail
        go_ret
        exact ⟨ret_b HR.out, hb⟩
    · have v1 : decide ((m.coils.length : Int) ≤ 300) = false := decide_eq_false (by omega)
      have HR : Hid (R = false) := by (show _ = _); rw [HL.out, decide_eq_false h1, Bool.and_false, Bool.false_and, Bool.false_and, Bool.false_and]
      go_wp2_with fail
      go_ret
      exact ⟨ret_b HR.out, hb⟩
  · have v0 : decide ((s.coils.length : Int) + (s.inputs.length : Int) + (s.holding.length : Int) + (s.words.length : Int) ≤ 40) = false := decide_eq_false (by omega)
    have HR : Hid (R = false) := by (show _ = _); rw [HL.out, decide_eq_false h0, Bool.false_and, Bool.false_and, Bool.false_and, Bool.false_and]
    go_wp2_with fail
    go_ret
    exact ⟨ret_b HR.out, hb⟩
theorem drewN_below {w w' : World} (h : ∃ dn, w' = w.drewN dn) : Below w.heap.size w w' := by
  obtain ⟨n, rfl⟩ := h
  exact below_drewN (Below.refl _ _) n
set_option maxRecDepth 100000 in
set_option maxHeartbeats 1000000 in
theorem law07_same (m : Mm) (p : Q8) (m2 : Mm) (p2 : Q8) (w : World) (hM : MmR w m p.A1 p.A2 p.A3 p.A4) (hN : MmR w m2 p2.A1 p2.A2 p2.A3 p2.A4) (hf : m.few 1000000) :
    Calls Try.prog 16 #[m.v p.A1 p.c1 p.A2 p.c2 p.A3 p.c3 p.A4 p.c4, m2.v p2.A1 p2.c1 p2.A2 p2.c2 p2.A3 p2.c3 p2.A4 p2.c4] w fun e w' => e = .returned (.bool (sameM m m2)) ∧ Below w.heap.size w w' := by
  have HR : Hid (sameM m m2 = (sameO m.coils m2.coils && sameO m.inputs m2.inputs && sameB m.holding m2.holding && sameB m.words m2.words)) := rfl
  generalize sameM m m2 = R at *
  have E1 := Lib.hid (fun (W : World) (h : MmR W m p.A1 p.A2 p.A3 p.A4) (h2 : MmR W m2 p2.A1 p2.A2 p2.A3 p2.A4) => low_Bits p.A1 p2.A1 _ p.c1 _ p2.c1 m.coils m2.coils W h.coils h2.coils rfl rfl (by have := hf.coils; omega))
  have E2 := Lib.hid (fun (W : World) (h : MmR W m p.A1 p.A2 p.A3 p.A4) (h2 : MmR W m2 p2.A1 p2.A2 p2.A3 p2.A4) => low_Bits p.A2 p2.A2 _ p.c2 _ p2.c2 m.inputs m2.inputs W h.inputs h2.inputs rfl rfl (by have := hf.inputs; omega))
  have E3 := Lib.hid (fun (W : World) (h : MmR W m p.A1 p.A2 p.A3 p.A4) (h2 : MmR W m2 p2.A1 p2.A2 p2.A3 p2.A4) => low_Words p.A3 p2.A3 _ p.c3 _ p2.c3 m.holding m2.holding W h.holding h2.holding rfl rfl (by have := hf.holding; omega))
  have E4 := Lib.hid (fun (W : World) (h : MmR W m p.A1 p.A2 p.A3 p.A4) (h2 : MmR W m2 p2.A1 p2.A2 p2.A3 p2.A4) => low_Words p.A4 p2.A4 _ p.c4 _ p2.c4 m.words m2.words W h.words h2.words rfl rfl (by have := hf.words; omega))
  generalize sameO m.coils m2.coils = r1 at *
  generalize sameO m.inputs m2.inputs = r2 at *
  generalize sameB m.holding m2.holding = r3 at *
  generalize sameB m.words m2.words = r4 at *
  have hb := bx_space w (.cells #[.slice p.A1 m.coils.length p.c1, .slice p.A2 m.inputs.length p.c2, .slice p.A3 m.holding.length p.c3, .slice p.A4 m.words.length p.c4] 28) (.cells #[.slice p2.A1 m2.coils.length p2.c1, .slice p2.A2 m2.inputs.length p2.c2, .slice p2.A3 m2.holding.length p2.c3, .slice p2.A4 m2.words.length p2.c4] 28)
  have d := (Blk.new w 28 #[.slice p.A1 m.coils.length p.c1, .slice p.A2 m.inputs.length p.c2, .slice p.A3 m.holding.length p.c3, .slice p.A4 m.words.length p.c4]).alloc (.cells #[.slice p2.A1 m2.coils.length p2.c1, .slice p2.A2 m2.inputs.length p2.c2, .slice p2.A3 m2.holding.length p2.c3, .slice p2.A4 m2.words.length p2.c4] 28)
  have d' := Blk.newAt (w.alloc (.cells #[.slice p.A1 m.coils.length p.c1, .slice p.A2 m.inputs.length p.c2, .slice p.A3 m.holding.length p.c3, .slice p.A4 m.words.length p.c4] 28)) 28 #[.slice p2.A1 m2.coils.length p2.c1, .slice p2.A2 m2.inputs.length p2.c2, .slice p2.A3 m2.holding.length p2.c3, .slice p2.A4 m2.words.length p2.c4] (w.heap.size + 1) (World.size_alloc _ _)
  simp only [Mm.v]
  go_enter Try.func16, Try.ntmps16
  go_upto_region 1 with fail
  obtain ⟨g, hg⟩ : ∃ g, w.heap.size = g := ⟨_, rfl⟩
  obtain ⟨g1, hg1⟩ : ∃ g, w.heap.size + 1 = g := ⟨_, rfl⟩
  rw [hg1] at d' ⊢
  rw [hg] at d ⊢
  generalize (w.alloc (.cells #[.slice p.A1 m.coils.length p.c1, .slice p.A2 m.inputs.length p.c2, .slice p.A3 m.holding.length p.c3, .slice p.A4 m.words.length p.c4] 28)).alloc (.cells #[.slice p2.A1 m2.coils.length p2.c1, .slice p2.A2 m2.inputs.length p2.c2, .slice p2.A3 m2.holding.length p2.c3, .slice p2.A4 m2.words.length p2.c4] 28) = w1 at *
  clear hg hg1
  replace hM := hM.below hb
  replace hN := hN.below hb
  obtain ⟨d0, d1, d2, d3⟩ := d.c4
  obtain ⟨e0, e1, e2, e3⟩ := d'.c4
  cases r1 with
  | false =>
    have HF : Hid (R = false) := by (show _ = _); rw [HR.out]; rfl
    go_wp2_with fail
    refine (E1.out _ hM hN).mono ?_
    rintro e w2 ⟨rfl, hdn⟩
    have hs := drewN_below hdn
    clear hdn
    go_wp2_with fail
    go_ret
    exact ⟨ret_b HF.out, bthen hb hs⟩
  | true =>
    go_wp2_with fail
    refine (E1.out _ hM hN).mono ?_
    rintro e w2 ⟨rfl, hdn⟩
    have hs := drewN_below hdn
    clear hdn
    replace hM := hM.below hs
    replace hN := hN.below hs
    replace hb := bthen hb hs
    replace d := d.all hs
    replace d' := d'.all hs
    clear hs d0 d1 d2 d3 e0 e1 e2 e3
    obtain ⟨d0, d1, d2, d3⟩ := d.c4
    obtain ⟨e0, e1, e2, e3⟩ := d'.c4
    cases r2 with
    | false =>
      have HF : Hid (R = false) := by (show _ = _); rw [HR.out]; rfl
      go_wp2_with fail
      refine (E2.out _ hM hN).mono ?_
      rintro e w3 ⟨rfl, hdn⟩
      have hs := drewN_below hdn
      clear hdn
      go_wp2_with fail
      go_ret
      exact ⟨ret_b HF.out, bthen hb hs⟩
    | true =>
      go_wp2_with fail
      refine (E2.out _ hM hN).mono ?_
      rintro e w3 ⟨rfl, hdn⟩
      have hs := drewN_below hdn
      clear hdn
      replace hM := hM.below hs
      replace hN := hN.below hs
      replace hb := bthen hb hs
      replace d := d.all hs
      replace d' := d'.all hs
      clear hs d0 d1 d2 d3 e0 e1 e2 e3
      obtain ⟨d0, d1, d2, d3⟩ := d.c4
      obtain ⟨e0, e1, e2, e3⟩ := d'.c4
      cases r3 with
      | false =>
        have HF : Hid (R = false) := by (show _ = _); rw [HR.out]; rfl
        go_wp2_with fail
        refine (E3.out _ hM hN).mono ?_
        rintro e w4 ⟨rfl, hdn⟩
        have hs := drewN_below hdn
        clear hdn
        go_wp2_with fail
        go_ret
        exact ⟨ret_b HF.out, bthen hb hs⟩
      | true =>
        go_wp2_with fail
        refine (E3.out _ hM hN).mono ?_
        rintro e w4 ⟨rfl, hdn⟩
        have hs := drewN_below hdn
        clear hdn
        replace hM := hM.below hs
        replace hN := hN.below hs
        replace hb := bthen hb hs
        replace d := d.all hs
        replace d' := d'.all hs
        clear hs d0 d1 d2 d3 e0 e1 e2 e3
        obtain ⟨d0, d1, d2, d3⟩ := d.c4
        obtain ⟨e0, e1, e2, e3⟩ := d'.c4
        cases r4 with
        | false =>
          have HF : Hid (R = false) := by (show _ = _); rw [HR.out]; rfl
          go_wp2_with fail
          refine (E4.out _ hM hN).mono ?_
          rintro e w5 ⟨rfl, hdn⟩
          have hs := drewN_below hdn
          clear hdn
          go_wp2_with fail
          go_ret
          exact ⟨ret_b HF.out, bthen hb hs⟩
        | true =>
          go_wp2_with fail
          refine (E4.out _ hM hN).mono ?_
          rintro e w5 ⟨rfl, hdn⟩
          have hs := drewN_below hdn
          clear hdn
          have HF : Hid (R = true) := by (show _ = _); rw [HR.out]; rfl
          go_wp2_with fail
          go_ret
          exact ⟨ret_b HF.out, bthen hb hs⟩
end Go.Proofs.Ytechhidfgheejaa
