/- The walk of model.Check (written by gen_mdk.py). -/
import Derived.Test.YtechhidfgheejaaMdR
import Derived.Test.YtechhidfgheejaaMdU
namespace Go.Proofs.Ytechhidfgheejaa
open Go.RowKit
set_option linter.unusedSimpArgs false
set_option linter.unusedVariables false

theorem bx_space (w : World) (o1 o2 : Obj) : Below w.heap.size w ((w.alloc o1).alloc o2) := ((Below.refl w.heap.size w).alloc (Nat.le_refl _) o1).alloc (by simp) o2
theorem readsP_le (f : Nat) : readsP f ≤ 4 := by unfold readsP; repeat' split
                                                 all_goals omega
theorem writesP_le (f : Nat) : writesP f ≤ 4 := by unfold writesP; repeat' split
                                                   all_goals omega
theorem readBad_none {s : Sp} {a : Ak} (h : plc (readsP a.fn) = none) : readBad s a = false := by unfold readBad; rw [Sp.tab_eq, h]; rfl
theorem readBad_some {s : Sp} {a : Ak} {P : Pl} (h : plc (readsP a.fn) = some P) : readBad s a = !readableT (s.at_ P) a.at_ a.many := by unfold readBad; rw [Sp.tab_eq, h]; rfl
theorem writeBad_none {s : Sp} {a : Ak} (h : plc (writesP a.fn) = none) : writeBad s a = false := by unfold writeBad; rw [Sp.tab_eq, h]; rfl
theorem writeBad_some {s : Sp} {a : Ak} {P : Pl} (h : plc (writesP a.fn) = some P) : writeBad s a = !writableT (s.at_ P) (targetT a) (targetM a) := by unfold writeBad; rw [Sp.tab_eq, h]; rfl
def z3 : Q3 := ⟨none, 0, 0⟩
set_option maxRecDepth 100000 in
set_option maxHeartbeats 8000000 in
theorem md_Check (s : Sp) (q : Q8) (a : Ak) (A : Option Addr) (c : Nat) (B : Option Addr) (d : Nat) (w : World) (hS : SpR w s q) (hsk : s.ok) (hsf : s.few 1000000) (hok : a.ok) (hw : a.words.length ≤ 1000000) (hk : a.bits.length ≤ 1000000) :
    Calls Try.prog 59 #[s.v q, a.v A c B d] w fun e w' => e = .returned (.int .u8 (checkN s a : Nat)) ∧ Below w.heap.size w w' := by
  have HC : Hid (checkN s a = if rightA a = false then 3 else if readBad s a then 2 else if writeBad s a then 2 else 0) := rfl
  have HRB := Lib.hid (show readBad s a = readBad s a from rfl)
  have hrbe : ∃ b, readBad s a = b := ⟨_, rfl⟩
  have hwbe : ∃ b, writeBad s a = b := ⟨_, rfl⟩
  obtain ⟨rb, hrb⟩ := hrbe
  obtain ⟨wb, hwb⟩ := hwbe
  have HRBE := Lib.hid hrb
  have HWBE := Lib.hid hwb
  rw [hrb, hwb] at HC
  clear hrb hwb HRB
  generalize checkN s a = ck at *
  have E1 := Lib.hid (fun W => ask_Right a.fn a.at_ a.many a.to_ A a.words.length c B a.bits.length d W hok.fn hok.many hok.to_ (by omega) (by omega))
  obtain ⟨rt, hrt⟩ : ∃ b, rightA a = b := ⟨_, rfl⟩
  rw [show rightN a.fn a.many a.to_ a.words.length a.bits.length = rt from hrt] at E1
  have HRT := Lib.hid hrt
  have hlen : rt = true → a.words.length ≤ 123 ∧ a.bits.length ≤ 1968 := fun h => right_len (hrt.trans h)
  have HLEN : Hid (rt = true → a.words.length ≤ 123 ∧ a.bits.length ≤ 1968) := hlen
  have E2 := Lib.hid (fun W => md_open s q z3 z3 z3 z3 W)
  have E3 := Lib.hid (fun W => md_uses a.fn W hok.fn)
  have E4 := Lib.hid (fun W => md_ranges s q z3 z3 z3 z3 (readsP a.fn) W (readsP_le _))
  have E5 := Lib.hid (fun W => md_ranges s q z3 z3 z3 z3 (writesP a.fn) W (writesP_le _))
  have E6 := Lib.hid (fun W => md_target a A c B d W hok (by omega) (by omega))
  have hat := hok.at_
  have hto := hok.to_
  have hmn := hok.many
  have htt : targetT a ≤ 65535 := by unfold targetT; split <;> omega
  have HTM : Hid (targetM a = a.bits.length + a.words.length) := rfl
  obtain ⟨pr, hpr⟩ : ∃ p, plc (readsP a.fn) = p := ⟨_, rfl⟩
  obtain ⟨pw, hpw⟩ : ∃ p, plc (writesP a.fn) = p := ⟨_, rfl⟩
  rw [hpr] at E4
  rw [hpw] at E5
  have HPR := Lib.hid hpr
  have HPW := Lib.hid hpw
  clear hrt hlen hpr hpw
  simp only [Ak.v, akV, Sp.v, memV, srvV, useV, z3] at E1 E2 E3 E4 E5 E6 ⊢
  have HTT := Lib.hid (show targetT a = targetT a from rfl)
  obtain ⟨tt, htte⟩ : ∃ t, targetT a = t := ⟨_, rfl⟩
  obtain ⟨tm, htme⟩ : ∃ t, targetM a = t := ⟨_, rfl⟩
  rw [htte] at E6 htt
  rw [htme] at E6 HTM
  have HTTE := Lib.hid htte
  have HTME := Lib.hid htme
  clear htte htme HTT
  obtain ⟨np, hnp⟩ : ∃ t, readsP a.fn = t := ⟨_, rfl⟩
  obtain ⟨nw, hnw⟩ : ∃ t, writesP a.fn = t := ⟨_, rfl⟩
  rw [hnp] at E3 E4
  rw [hnw] at E3 E5
  clear hnp hnw
  have hb := bx_space w (.cells #[.slice q.A1 s.coils.length q.c1, .slice q.A2 s.inputs.length q.c2, .slice q.A3 s.holding.length q.c3, .slice q.A4 s.words.length q.c4] 24) (.cells #[.int .u8 (a.fn : Int), .int .u16 (a.at_ : Int), .int .u16 (a.many : Int), .int .u16 (a.to_ : Int), .slice A a.words.length c, .slice B a.bits.length d] 41)
  have bs := (Blk.new w 24 #[.slice q.A1 s.coils.length q.c1, .slice q.A2 s.inputs.length q.c2, .slice q.A3 s.holding.length q.c3, .slice q.A4 s.words.length q.c4]).alloc (.cells #[.int .u8 (a.fn : Int), .int .u16 (a.at_ : Int), .int .u16 (a.many : Int), .int .u16 (a.to_ : Int), .slice A a.words.length c, .slice B a.bits.length d] 41)
  have ba := Blk.newAt (w.alloc (.cells #[.slice q.A1 s.coils.length q.c1, .slice q.A2 s.inputs.length q.c2, .slice q.A3 s.holding.length q.c3, .slice q.A4 s.words.length q.c4] 24)) 41 #[.int .u8 (a.fn : Int), .int .u16 (a.at_ : Int), .int .u16 (a.many : Int), .int .u16 (a.to_ : Int), .slice A a.words.length c, .slice B a.bits.length d] (w.heap.size + 1) (World.size_alloc _ _)
  go_enter Try.func59, Try.ntmps59
  go_upto_region 1 with fail
  obtain ⟨g, hg⟩ : ∃ g, w.heap.size = g := ⟨_, rfl⟩
  obtain ⟨g1, hg1⟩ : ∃ g, w.heap.size + 1 = g := ⟨_, rfl⟩
  rw [hg1] at ba ⊢
  rw [hg] at bs ⊢
  generalize (w.alloc (.cells #[.slice q.A1 s.coils.length q.c1, .slice q.A2 s.inputs.length q.c2, .slice q.A3 s.holding.length q.c3, .slice q.A4 s.words.length q.c4] 24)).alloc (.cells #[.int .u8 (a.fn : Int), .int .u16 (a.at_ : Int), .int .u16 (a.many : Int), .int .u16 (a.to_ : Int), .slice A a.words.length c, .slice B a.bits.length d] 41) = w1 at *
  clear hg hg1
  replace hS := hS.below hb
  obtain ⟨d0, d1, d2, d3⟩ := bs.c4
  obtain ⟨f0, f1, f2, f3, f4, f5⟩ := ba.c6
  go_wp2_with fail
  refine (E1.out _).mono ?_
  rintro e w2 ⟨rfl, hs⟩
  clear d0 d1 d2 d3
  clear f0 f1 f2 f3 f4 f5
  replace bs := bs.all hs
  replace ba := ba.all hs
  replace hS := hS.below hs
  replace hb := bthen hb hs
  clear hs
  obtain ⟨d0, d1, d2, d3⟩ := bs.c4
  obtain ⟨f0, f1, f2, f3, f4, f5⟩ := ba.c6
  cases rt with
  | false =>
    have HF : Hid (3 = ck) := by (show _ = _); rw [HC.out, if_pos HRT.out]
    go_wp2_with fail
    go_ret
    exact ⟨ret_int (by have := HF.out; omega), hb⟩
  | true =>
    have HC2 : Hid (ck = if rb then 2 else if wb then 2 else 0) := by (show _ = _); rw [HC.out, if_neg (by rw [HRT.out]; simp)]
    obtain ⟨hlw, hlb⟩ := HLEN.out rfl
    clear HC HRT HLEN
    have htm : tm ≤ 100000 := by have := HTM.out; omega
    go_wp2_with fail
    refine (E2.out _).mono ?_
    rintro e w3 ⟨rfl, hs⟩
    clear d0 d1 d2 d3
    clear f0 f1 f2 f3 f4 f5
    replace bs := bs.all hs
    replace ba := ba.all hs
    replace hS := hS.below hs
    replace hb := bthen hb hs
    clear hs
    obtain ⟨d0, d1, d2, d3⟩ := bs.c4
    obtain ⟨f0, f1, f2, f3, f4, f5⟩ := ba.c6
    go_upto_region 4 with fail
    have bv := Blk.new w3 100 #[.slice q.A1 s.coils.length q.c1, .slice none 0 0, .slice q.A2 s.inputs.length q.c2, .slice none 0 0, .slice q.A3 s.holding.length q.c3, .slice none 0 0, .slice q.A4 s.words.length q.c4, .slice none 0 0]
    have hs := (Below.refl w3.heap.size w3).alloc (Nat.le_refl _) (.cells #[.slice q.A1 s.coils.length q.c1, .slice none 0 0, .slice q.A2 s.inputs.length q.c2, .slice none 0 0, .slice q.A3 s.holding.length q.c3, .slice none 0 0, .slice q.A4 s.words.length q.c4, .slice none 0 0] 100)
    generalize w3.alloc (.cells #[.slice q.A1 s.coils.length q.c1, .slice none 0 0, .slice q.A2 s.inputs.length q.c2, .slice none 0 0, .slice q.A3 s.holding.length q.c3, .slice none 0 0, .slice q.A4 s.words.length q.c4, .slice none 0 0] 100) = w4 at *
    obtain ⟨gv, hgv⟩ : ∃ g, w3.heap.size = g := ⟨_, rfl⟩
    have gvlt : w3.heap.size ≤ gv := by omega
    clear d0 d1 d2 d3
    clear f0 f1 f2 f3 f4 f5
    replace bs := bs.all hs
    replace ba := ba.all hs
    replace hS := hS.below hs
    replace hb := bthen hb hs
    clear hs
    obtain ⟨d0, d1, d2, d3⟩ := bs.c4
    obtain ⟨f0, f1, f2, f3, f4, f5⟩ := ba.c6
    rw [hgv] at bv ⊢
    clear hgv gvlt
    go_wp2_with fail
    refine (E3.out _).mono ?_
    rintro e w5 ⟨rfl, hs⟩
    clear d0 d1 d2 d3
    clear f0 f1 f2 f3 f4 f5
    replace bs := bs.all hs
    replace ba := ba.all hs
    replace hS := hS.below hs
    replace bv := bv.all hs
    replace hb := bthen hb hs
    clear hs
    obtain ⟨d0, d1, d2, d3⟩ := bs.c4
    obtain ⟨f0, f1, f2, f3, f4, f5⟩ := ba.c6
    go_upto_region 5 with fail
    have bu := Blk.new w5 104 #[.int .i64 (np : Int), .int .i64 (nw : Int)]
    have hs := (Below.refl w5.heap.size w5).alloc (Nat.le_refl _) (.cells #[.int .i64 (np : Int), .int .i64 (nw : Int)] 104)
    generalize w5.alloc (.cells #[.int .i64 (np : Int), .int .i64 (nw : Int)] 104) = w6 at *
    obtain ⟨gu, hgu⟩ : ∃ g, w5.heap.size = g := ⟨_, rfl⟩
    have gult : w5.heap.size ≤ gu := by omega
    clear d0 d1 d2 d3
    clear f0 f1 f2 f3 f4 f5
    replace bs := bs.all hs
    replace ba := ba.all hs
    replace hS := hS.below hs
    replace bv := bv.all hs
    replace hb := bthen hb hs
    clear hs
    obtain ⟨d0, d1, d2, d3⟩ := bs.c4
    obtain ⟨f0, f1, f2, f3, f4, f5⟩ := ba.c6
    rw [hgu] at bu ⊢
    clear hgu gult
    clear d0 d1 d2 d3
    clear bs
    have v0 := bv.cell 0
    have v1 := bv.cell 1
    have v2 := bv.cell 2
    have v3 := bv.cell 3
    have v4 := bv.cell 4
    have v5 := bv.cell 5
    have v6 := bv.cell 6
    have v7 := bv.cell 7
    obtain ⟨u0, u1⟩ := bu.c2
    cases pr with
    | none =>
      have HB : Hid (rb = false) := by (show _ = _); rw [← HRBE.out]; exact readBad_none HPR.out
      unfold tellP at E4
      simp only at E4
      go_wp2_with fail
      refine (E4.out _).mono ?_
      rintro e w7 ⟨rfl, hs⟩
      clear f0 f1 f2 f3 f4 f5
      clear v0 v1 v2 v3 v4 v5 v6 v7
      clear u0 u1
      replace ba := ba.all hs
      replace hS := hS.below hs
      replace bv := bv.all hs
      replace bu := bu.all hs
      replace hb := bthen hb hs
      clear hs
      obtain ⟨f0, f1, f2, f3, f4, f5⟩ := ba.c6
      have v0 := bv.cell 0
      have v1 := bv.cell 1
      have v2 := bv.cell 2
      have v3 := bv.cell 3
      have v4 := bv.cell 4
      have v5 := bv.cell 5
      have v6 := bv.cell 6
      have v7 := bv.cell 7
      obtain ⟨u0, u1⟩ := bu.c2
      go_wp2_with fail
      refine (E6.out _).mono ?_
      rintro e w8 ⟨rfl, hs⟩
      clear f0 f1 f2 f3 f4 f5
      clear v0 v1 v2 v3 v4 v5 v6 v7
      clear u0 u1
      replace ba := ba.all hs
      replace hS := hS.below hs
      replace bv := bv.all hs
      replace bu := bu.all hs
      replace hb := bthen hb hs
      clear hs
      obtain ⟨f0, f1, f2, f3, f4, f5⟩ := ba.c6
      have v0 := bv.cell 0
      have v1 := bv.cell 1
      have v2 := bv.cell 2
      have v3 := bv.cell 3
      have v4 := bv.cell 4
      have v5 := bv.cell 5
      have v6 := bv.cell 6
      have v7 := bv.cell 7
      obtain ⟨u0, u1⟩ := bu.c2
      cases pw with
      | none =>
        have HB2 : Hid (wb = false) := by (show _ = _); rw [← HWBE.out]; exact writeBad_none HPW.out
        unfold tellP at E5
        simp only at E5
        go_wp2_with fail
        refine (E5.out _).mono ?_
        rintro e w9 ⟨rfl, hs⟩
        clear f0 f1 f2 f3 f4 f5
        clear v0 v1 v2 v3 v4 v5 v6 v7
        clear u0 u1
        replace ba := ba.all hs
        replace hS := hS.below hs
        replace bv := bv.all hs
        replace bu := bu.all hs
        replace hb := bthen hb hs
        clear hs
        obtain ⟨f0, f1, f2, f3, f4, f5⟩ := ba.c6
        have v0 := bv.cell 0
        have v1 := bv.cell 1
        have v2 := bv.cell 2
        have v3 := bv.cell 3
        have v4 := bv.cell 4
        have v5 := bv.cell 5
        have v6 := bv.cell 6
        have v7 := bv.cell 7
        obtain ⟨u0, u1⟩ := bu.c2
        have HF : Hid (0 = ck) := by (show _ = _); rw [HC2.out, HB.out, HB2.out]; rfl
        go_wp2_with fail
        go_ret
        exact ⟨ret_int (by have := HF.out; omega), hb⟩
      | some P2 =>
        have M3 := meth_wr P2
        have M4 := entr_wr P2
        have E8 := Lib.hid (fun W h => pl_writable P2 s q z3 z3 z3 z3 tt tm W h hsk hsf htt htm)
        have HWB2 : Hid (wb = !writableT (s.at_ P2) tt tm) := by (show _ = _); rw [← HWBE.out, ← HTTE.out, ← HTME.out]; exact writeBad_some HPW.out
        generalize writableT (s.at_ P2) tt tm = wv at *
        unfold tellP at E5
        simp only at E5
        obtain ⟨pv2, hpv⟩ : ∃ v, P2.val s q ⟨none, 0, 0⟩ ⟨none, 0, 0⟩ ⟨none, 0, 0⟩ ⟨none, 0, 0⟩ = v := ⟨_, rfl⟩
        rw [hpv] at E5
        have E8' : Hid (∀ W, SpR W s q → Calls Try.prog P2.fwr #[pv2, .int .i64 (tt : Int), .int .i64 (tm : Int)] W fun e w' => e = .returned (.bool wv) ∧ Below W.heap.size W w') := by rw [← hpv]; exact E8
        clear hpv
        go_wp2_with fail
        refine (E5.out _).mono ?_
        rintro e w9 ⟨rfl, hs⟩
        clear f0 f1 f2 f3 f4 f5
        clear v0 v1 v2 v3 v4 v5 v6 v7
        clear u0 u1
        replace ba := ba.all hs
        replace hS := hS.below hs
        replace bv := bv.all hs
        replace bu := bu.all hs
        replace hb := bthen hb hs
        clear hs
        obtain ⟨f0, f1, f2, f3, f4, f5⟩ := ba.c6
        have v0 := bv.cell 0
        have v1 := bv.cell 1
        have v2 := bv.cell 2
        have v3 := bv.cell 3
        have v4 := bv.cell 4
        have v5 := bv.cell 5
        have v6 := bv.cell 6
        have v7 := bv.cell 7
        obtain ⟨u0, u1⟩ := bu.c2
        go_wp2_with fail
        refine (E8'.out _ hS).mono ?_
        rintro e w10 ⟨rfl, hs⟩
        clear f0 f1 f2 f3 f4 f5
        clear v0 v1 v2 v3 v4 v5 v6 v7
        clear u0 u1
        replace ba := ba.all hs
        replace hS := hS.below hs
        replace bv := bv.all hs
        replace bu := bu.all hs
        replace hb := bthen hb hs
        clear hs
        obtain ⟨f0, f1, f2, f3, f4, f5⟩ := ba.c6
        have v0 := bv.cell 0
        have v1 := bv.cell 1
        have v2 := bv.cell 2
        have v3 := bv.cell 3
        have v4 := bv.cell 4
        have v5 := bv.cell 5
        have v6 := bv.cell 6
        have v7 := bv.cell 7
        obtain ⟨u0, u1⟩ := bu.c2
        cases wv with
        | false =>
          have HB2 : Hid (wb = true) := by (show _ = _); rw [HWB2.out]; rfl
          have HF : Hid (2 = ck) := by (show _ = _); rw [HC2.out, HB.out, HB2.out]; rfl
          go_wp2_with fail
          go_ret
          exact ⟨ret_int (by have := HF.out; omega), hb⟩
        | true =>
          have HB2 : Hid (wb = false) := by (show _ = _); rw [HWB2.out]; rfl
          have HF : Hid (0 = ck) := by (show _ = _); rw [HC2.out, HB.out, HB2.out]; rfl
          go_wp2_with fail
          go_ret
          exact ⟨ret_int (by have := HF.out; omega), hb⟩
    | some P1 =>
      have M1 := meth_rd P1
      have M2 := entr_rd P1
      have E7 := Lib.hid (fun W h => pl_readable P1 s q z3 z3 z3 z3 a.at_ a.many W h hsk hsf (by omega) (by omega))
      have HRB2 : Hid (rb = !readableT (s.at_ P1) a.at_ a.many) := by (show _ = _); rw [← HRBE.out]; exact readBad_some HPR.out
      generalize readableT (s.at_ P1) a.at_ a.many = rv at *
      unfold tellP at E4
      simp only at E4
      obtain ⟨pv, hpv⟩ : ∃ v, P1.val s q ⟨none, 0, 0⟩ ⟨none, 0, 0⟩ ⟨none, 0, 0⟩ ⟨none, 0, 0⟩ = v := ⟨_, rfl⟩
      rw [hpv] at E4
      have E7' : Hid (∀ W, SpR W s q → Calls Try.prog P1.frd #[pv, .int .i64 (a.at_ : Int), .int .i64 (a.many : Int)] W fun e w' => e = .returned (.bool rv) ∧ Below W.heap.size W w') := by rw [← hpv]; exact E7
      clear hpv
      go_wp2_with fail
      refine (E4.out _).mono ?_
      rintro e w7 ⟨rfl, hs⟩
      clear f0 f1 f2 f3 f4 f5
      clear v0 v1 v2 v3 v4 v5 v6 v7
      clear u0 u1
      replace ba := ba.all hs
      replace hS := hS.below hs
      replace bv := bv.all hs
      replace bu := bu.all hs
      replace hb := bthen hb hs
      clear hs
      obtain ⟨f0, f1, f2, f3, f4, f5⟩ := ba.c6
      have v0 := bv.cell 0
      have v1 := bv.cell 1
      have v2 := bv.cell 2
      have v3 := bv.cell 3
      have v4 := bv.cell 4
      have v5 := bv.cell 5
      have v6 := bv.cell 6
      have v7 := bv.cell 7
      obtain ⟨u0, u1⟩ := bu.c2
      go_wp2_with fail
      refine (E7'.out _ hS).mono ?_
      rintro e w8 ⟨rfl, hs⟩
      clear f0 f1 f2 f3 f4 f5
      clear v0 v1 v2 v3 v4 v5 v6 v7
      clear u0 u1
      replace ba := ba.all hs
      replace hS := hS.below hs
      replace bv := bv.all hs
      replace bu := bu.all hs
      replace hb := bthen hb hs
      clear hs
      obtain ⟨f0, f1, f2, f3, f4, f5⟩ := ba.c6
      have v0 := bv.cell 0
      have v1 := bv.cell 1
      have v2 := bv.cell 2
      have v3 := bv.cell 3
      have v4 := bv.cell 4
      have v5 := bv.cell 5
      have v6 := bv.cell 6
      have v7 := bv.cell 7
      obtain ⟨u0, u1⟩ := bu.c2
      cases rv with
      | false =>
        have HB : Hid (rb = true) := by (show _ = _); rw [HRB2.out]; rfl
        have HF : Hid (2 = ck) := by (show _ = _); rw [HC2.out, HB.out]; rfl
        go_wp2_with fail
        go_ret
        exact ⟨ret_int (by have := HF.out; omega), hb⟩
      | true =>
        have HB : Hid (rb = false) := by (show _ = _); rw [HRB2.out]; rfl
        go_wp2_with fail
        refine (E6.out _).mono ?_
        rintro e w9 ⟨rfl, hs⟩
        clear f0 f1 f2 f3 f4 f5
        clear v0 v1 v2 v3 v4 v5 v6 v7
        clear u0 u1
        replace ba := ba.all hs
        replace hS := hS.below hs
        replace bv := bv.all hs
        replace bu := bu.all hs
        replace hb := bthen hb hs
        clear hs
        obtain ⟨f0, f1, f2, f3, f4, f5⟩ := ba.c6
        have v0 := bv.cell 0
        have v1 := bv.cell 1
        have v2 := bv.cell 2
        have v3 := bv.cell 3
        have v4 := bv.cell 4
        have v5 := bv.cell 5
        have v6 := bv.cell 6
        have v7 := bv.cell 7
        obtain ⟨u0, u1⟩ := bu.c2
        cases pw with
        | none =>
          have HB2 : Hid (wb = false) := by (show _ = _); rw [← HWBE.out]; exact writeBad_none HPW.out
          unfold tellP at E5
          simp only at E5
          go_wp2_with fail
          refine (E5.out _).mono ?_
          rintro e w10 ⟨rfl, hs⟩
          clear f0 f1 f2 f3 f4 f5
          clear v0 v1 v2 v3 v4 v5 v6 v7
          clear u0 u1
          replace ba := ba.all hs
          replace hS := hS.below hs
          replace bv := bv.all hs
          replace bu := bu.all hs
          replace hb := bthen hb hs
          clear hs
          obtain ⟨f0, f1, f2, f3, f4, f5⟩ := ba.c6
          have v0 := bv.cell 0
          have v1 := bv.cell 1
          have v2 := bv.cell 2
          have v3 := bv.cell 3
          have v4 := bv.cell 4
          have v5 := bv.cell 5
          have v6 := bv.cell 6
          have v7 := bv.cell 7
          obtain ⟨u0, u1⟩ := bu.c2
          have HF : Hid (0 = ck) := by (show _ = _); rw [HC2.out, HB.out, HB2.out]; rfl
          go_wp2_with fail
          go_ret
          exact ⟨ret_int (by have := HF.out; omega), hb⟩
        | some P2 =>
          have M3 := meth_wr P2
          have M4 := entr_wr P2
          have E8 := Lib.hid (fun W h => pl_writable P2 s q z3 z3 z3 z3 tt tm W h hsk hsf htt htm)
          have HWB2 : Hid (wb = !writableT (s.at_ P2) tt tm) := by (show _ = _); rw [← HWBE.out, ← HTTE.out, ← HTME.out]; exact writeBad_some HPW.out
          generalize writableT (s.at_ P2) tt tm = wv at *
          unfold tellP at E5
          simp only at E5
          obtain ⟨pv2, hpv⟩ : ∃ v, P2.val s q ⟨none, 0, 0⟩ ⟨none, 0, 0⟩ ⟨none, 0, 0⟩ ⟨none, 0, 0⟩ = v := ⟨_, rfl⟩
          rw [hpv] at E5
          have E8' : Hid (∀ W, SpR W s q → Calls Try.prog P2.fwr #[pv2, .int .i64 (tt : Int), .int .i64 (tm : Int)] W fun e w' => e = .returned (.bool wv) ∧ Below W.heap.size W w') := by rw [← hpv]; exact E8
          clear hpv
          go_wp2_with fail
          refine (E5.out _).mono ?_
          rintro e w10 ⟨rfl, hs⟩
          clear f0 f1 f2 f3 f4 f5
          clear v0 v1 v2 v3 v4 v5 v6 v7
          clear u0 u1
          replace ba := ba.all hs
          replace hS := hS.below hs
          replace bv := bv.all hs
          replace bu := bu.all hs
          replace hb := bthen hb hs
          clear hs
          obtain ⟨f0, f1, f2, f3, f4, f5⟩ := ba.c6
          have v0 := bv.cell 0
          have v1 := bv.cell 1
          have v2 := bv.cell 2
          have v3 := bv.cell 3
          have v4 := bv.cell 4
          have v5 := bv.cell 5
          have v6 := bv.cell 6
          have v7 := bv.cell 7
          obtain ⟨u0, u1⟩ := bu.c2
          go_wp2_with fail
          refine (E8'.out _ hS).mono ?_
          rintro e w11 ⟨rfl, hs⟩
          clear f0 f1 f2 f3 f4 f5
          clear v0 v1 v2 v3 v4 v5 v6 v7
          clear u0 u1
          replace ba := ba.all hs
          replace hS := hS.below hs
          replace bv := bv.all hs
          replace bu := bu.all hs
          replace hb := bthen hb hs
          clear hs
          obtain ⟨f0, f1, f2, f3, f4, f5⟩ := ba.c6
          have v0 := bv.cell 0
          have v1 := bv.cell 1
          have v2 := bv.cell 2
          have v3 := bv.cell 3
          have v4 := bv.cell 4
          have v5 := bv.cell 5
          have v6 := bv.cell 6
          have v7 := bv.cell 7
          obtain ⟨u0, u1⟩ := bu.c2
          cases wv with
          | false =>
            have HB2 : Hid (wb = true) := by (show _ = _); rw [HWB2.out]; rfl
            have HF : Hid (2 = ck) := by (show _ = _); rw [HC2.out, HB.out, HB2.out]; rfl
            go_wp2_with fail
            go_ret
            exact ⟨ret_int (by have := HF.out; omega), hb⟩
          | true =>
            have HB2 : Hid (wb = false) := by (show _ = _); rw [HWB2.out]; rfl
            have HF : Hid (0 = ck) := by (show _ = _); rw [HC2.out, HB.out, HB2.out]; rfl
            go_wp2_with fail
            go_ret
            exact ⟨ret_int (by have := HF.out; omega), hb⟩
end Go.Proofs.Ytechhidfgheejaa
