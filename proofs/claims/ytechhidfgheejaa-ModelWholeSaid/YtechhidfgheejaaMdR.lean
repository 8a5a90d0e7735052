/- Spaces as values; the walks of model.open, model.Right and server.ranges (written by gen_mdr.py). -/
import Derived.Test.YtechhidfgheejaaMdO
import Derived.Test.YtechhidfgheejaaMdF
namespace Go.Proofs.Ytechhidfgheejaa
open Go.RowKit
set_option linter.unusedSimpArgs false
set_option linter.unusedVariables false

/-- the addresses and capacities of four slices -/
structure Q8 where
  A1 : Option Addr
  c1 : Nat
  A2 : Option Addr
  c2 : Nat
  A3 : Option Addr
  c3 : Nat
  A4 : Option Addr
  c4 : Nat
/-- a slice -/
structure Q3 where
  A : Option Addr
  n : Nat
  c : Nat
def Sp.v (s : Sp) (q : Q8) : Value := .agg #[.slice q.A1 s.coils.length q.c1, .slice q.A2 s.inputs.length q.c2, .slice q.A3 s.holding.length q.c3, .slice q.A4 s.words.length q.c4]
def memV (m1 m2 m3 m4 : Q3) : Value := .agg #[.slice m1.A m1.n m1.c, .slice m2.A m2.n m2.c, .slice m3.A m3.n m3.c, .slice m4.A m4.n m4.c]
/-- a server's value -/
def srvV (s : Sp) (q : Q8) (m1 m2 m3 m4 : Q3) : Value := .agg #[.slice q.A1 s.coils.length q.c1, .slice m1.A m1.n m1.c, .slice q.A2 s.inputs.length q.c2, .slice m2.A m2.n m2.c, .slice q.A3 s.holding.length q.c3, .slice m3.A m3.n m3.c, .slice q.A4 s.words.length q.c4, .slice m4.A m4.n m4.c]
structure SpR (w : World) (s : Sp) (q : Q8) : Prop where
  coils : Rd w q.A1 (ars s.coils)
  inputs : Rd w q.A2 (ars s.inputs)
  holding : Rd w q.A3 (ars s.holding)
  words : Rd w q.A4 (ars s.words)
theorem SpR.below {w w' : World} {s : Sp} {q : Q8} (h : SpR w s q) (hb : Below w.heap.size w w') : SpR w' s q := ⟨h.coils.below hb, h.inputs.below hb, h.holding.below hb, h.words.below hb⟩
structure Sp.ok (s : Sp) : Prop where
  coils : ∀ x ∈ s.coils, x.ok
  inputs : ∀ x ∈ s.inputs, x.ok
  holding : ∀ x ∈ s.holding, x.ok
  words : ∀ x ∈ s.words, x.ok
structure Sp.few (s : Sp) (k : Nat) : Prop where
  coils : s.coils.length ≤ k
  inputs : s.inputs.length ≤ k
  holding : s.holding.length ≤ k
  words : s.words.length ≤ k
set_option maxRecDepth 100000 in
set_option maxHeartbeats 4000000 in
theorem md_open (s : Sp) (q : Q8) (m1 m2 m3 m4 : Q3) (w : World) :
    Calls Try.prog 66 #[s.v q, memV m1 m2 m3 m4] w fun e w' => e = .returned (srvV s q m1 m2 m3 m4) ∧ Below w.heap.size w w' := by
  have hb := (((Below.refl w.heap.size w).alloc (Nat.le_refl _) (.cells #[.slice q.A1 s.coils.length q.c1, .slice q.A2 s.inputs.length q.c2, .slice q.A3 s.holding.length q.c3, .slice q.A4 s.words.length q.c4] 24)).alloc (by simp) (.cells #[.slice m1.A m1.n m1.c, .slice m2.A m2.n m2.c, .slice m3.A m3.n m3.c, .slice m4.A m4.n m4.c] 28)).alloc (by simp; omega) (.cells #[.slice none 0 0, .slice none 0 0, .slice none 0 0, .slice none 0 0, .slice none 0 0, .slice none 0 0, .slice none 0 0, .slice none 0 0] 100)
  have bx := ((Blk.new w 24 #[.slice q.A1 s.coils.length q.c1, .slice q.A2 s.inputs.length q.c2, .slice q.A3 s.holding.length q.c3, .slice q.A4 s.words.length q.c4]).alloc (.cells #[.slice m1.A m1.n m1.c, .slice m2.A m2.n m2.c, .slice m3.A m3.n m3.c, .slice m4.A m4.n m4.c] 28)).alloc (.cells #[.slice none 0 0, .slice none 0 0, .slice none 0 0, .slice none 0 0, .slice none 0 0, .slice none 0 0, .slice none 0 0, .slice none 0 0] 100)
  have by_ := (Blk.newAt (w.alloc (.cells #[.slice q.A1 s.coils.length q.c1, .slice q.A2 s.inputs.length q.c2, .slice q.A3 s.holding.length q.c3, .slice q.A4 s.words.length q.c4] 24)) 28 #[.slice m1.A m1.n m1.c, .slice m2.A m2.n m2.c, .slice m3.A m3.n m3.c, .slice m4.A m4.n m4.c] (w.heap.size + 1) (World.size_alloc _ _)).alloc (.cells #[.slice none 0 0, .slice none 0 0, .slice none 0 0, .slice none 0 0, .slice none 0 0, .slice none 0 0, .slice none 0 0, .slice none 0 0] 100)
  have bz := Blk.newAt ((w.alloc (.cells #[.slice q.A1 s.coils.length q.c1, .slice q.A2 s.inputs.length q.c2, .slice q.A3 s.holding.length q.c3, .slice q.A4 s.words.length q.c4] 24)).alloc (.cells #[.slice m1.A m1.n m1.c, .slice m2.A m2.n m2.c, .slice m3.A m3.n m3.c, .slice m4.A m4.n m4.c] 28)) 100 #[.slice none 0 0, .slice none 0 0, .slice none 0 0, .slice none 0 0, .slice none 0 0, .slice none 0 0, .slice none 0 0, .slice none 0 0] (w.heap.size + 1 + 1) (by simp [World.size_alloc])
  simp only [Sp.v, memV, srvV]
  go_enter Try.func66, Try.ntmps66
  go_upto_region 1 with fail
  obtain ⟨g, hg⟩ : ∃ g, w.heap.size = g := ⟨_, rfl⟩
  obtain ⟨g1, hg1⟩ : ∃ g, w.heap.size + 1 = g := ⟨_, rfl⟩
  rw [hg1] at by_ bz ⊢
  obtain ⟨g2, hg2⟩ : ∃ g, g1 + 1 = g := ⟨_, rfl⟩
  rw [hg2] at bz ⊢
  have hgw2 : w.heap.size ≤ g2 := by omega
  rw [hg] at bx ⊢
  generalize ((w.alloc (.cells #[.slice q.A1 s.coils.length q.c1, .slice q.A2 s.inputs.length q.c2, .slice q.A3 s.holding.length q.c3, .slice q.A4 s.words.length q.c4] 24)).alloc (.cells #[.slice m1.A m1.n m1.c, .slice m2.A m2.n m2.c, .slice m3.A m3.n m3.c, .slice m4.A m4.n m4.c] 28)).alloc (.cells #[.slice none 0 0, .slice none 0 0, .slice none 0 0, .slice none 0 0, .slice none 0 0, .slice none 0 0, .slice none 0 0, .slice none 0 0] 100) = w1 at *
  clear hg hg1 hg2
  obtain ⟨d0, d1, d2, d3⟩ := bx.c4
  obtain ⟨e0, e1, e2, e3⟩ := by_.c4
  have z0 := bz.cell 0
  have z1 := bz.cell 1
  have z2 := bz.cell 2
  have z3 := bz.cell 3
  have z4 := bz.cell 4
  have z5 := bz.cell 5
  have z6 := bz.cell 6
  have z7 := bz.cell 7
  have y0 := bz.frozen 0
  have y1 := bz.frozen 1
  have y2 := bz.frozen 2
  have y3 := bz.frozen 3
  have y4 := bz.frozen 4
  have y5 := bz.frozen 5
  have y6 := bz.frozen 6
  have y7 := bz.frozen 7
  go_wp2_with fail
  refine bodyPost_ret (v := .agg #[.slice q.A1 s.coils.length q.c1, .slice m1.A m1.n m1.c, .slice q.A2 s.inputs.length q.c2, .slice m2.A m2.n m2.c, .slice q.A3 s.holding.length q.c3, .slice m3.A m3.n m3.c, .slice q.A4 s.words.length q.c4, .slice m4.A m4.n m4.c]) (by simp [results, Try.results66, go_sem, z0, z1, z2, z3, z4, z5, z6, z7]) rfl ⟨rfl, ?_⟩
  exact bset1 (bset1 (bset1 (bset1 (bset1 (bset1 (bset1 (bset1 hb hgw2 0 _) hgw2 1 _) hgw2 2 _) hgw2 3 _) hgw2 4 _) hgw2 5 _) hgw2 6 _) hgw2 7 _
set_option maxRecDepth 100000 in
set_option maxHeartbeats 4000000 in
theorem md_Right (s : Sp) (q : Q8) (m : Mm) (p : Q8) (w : World) (hS : SpR w s q) (hok : s.ok) (hf : s.few 1000000) :
    Calls Try.prog 38 #[s.v q, m.v p.A1 p.c1 p.A2 p.c2 p.A3 p.c3 p.A4 p.c4] w fun e w' => e = .returned (.bool (rightSM s m)) ∧ Below w.heap.size w w' := by
  have HR : Hid (rightSM s m = (rightT s.coils m.coils.length false && rightT s.inputs m.inputs.length true && rightT s.holding m.holding.length false && rightT s.words m.words.length true)) := rfl
  have E0 := Lib.hid (fun W => md_open s q ⟨p.A1, m.coils.length, p.c1⟩ ⟨p.A2, m.inputs.length, p.c2⟩ ⟨p.A3, m.holding.length, p.c3⟩ ⟨p.A4, m.words.length, p.c4⟩ W)
  have E1 := Lib.hid (fun (W : World) (h : SpR W s q) => md_right_b q.A1 _ q.c1 s.coils p.A1 m.coils.length p.c1 false W h.coils rfl hok.coils hf.coils)
  have E2 := Lib.hid (fun (W : World) (h : SpR W s q) => md_right_b q.A2 _ q.c2 s.inputs p.A2 m.inputs.length p.c2 true W h.inputs rfl hok.inputs hf.inputs)
  have E3 := Lib.hid (fun (W : World) (h : SpR W s q) => md_right_w q.A3 _ q.c3 s.holding p.A3 m.holding.length p.c3 false W h.holding rfl hok.holding hf.holding)
  have E4 := Lib.hid (fun (W : World) (h : SpR W s q) => md_right_w q.A4 _ q.c4 s.words p.A4 m.words.length p.c4 true W h.words rfl hok.words hf.words)
  generalize rightSM s m = R at *
  generalize rightT s.coils m.coils.length false = r1 at *
  generalize rightT s.inputs m.inputs.length true = r2 at *
  generalize rightT s.holding m.holding.length false = r3 at *
  generalize rightT s.words m.words.length true = r4 at *
  simp only [Sp.v, memV, srvV, Mm.v] at E0 ⊢
  have hb := ((Below.refl w.heap.size w).alloc (Nat.le_refl _) (.cells #[.slice q.A1 s.coils.length q.c1, .slice q.A2 s.inputs.length q.c2, .slice q.A3 s.holding.length q.c3, .slice q.A4 s.words.length q.c4] 24)).alloc (by simp) (.cells #[.slice p.A1 m.coils.length p.c1, .slice p.A2 m.inputs.length p.c2, .slice p.A3 m.holding.length p.c3, .slice p.A4 m.words.length p.c4] 28)
  have hS1 := hS.below hb
  go_enter Try.func38, Try.ntmps38
  go_upto_region 1 with fail
  have d := (Blk.new w 24 #[.slice q.A1 s.coils.length q.c1, .slice q.A2 s.inputs.length q.c2, .slice q.A3 s.holding.length q.c3, .slice q.A4 s.words.length q.c4]).alloc (.cells #[.slice p.A1 m.coils.length p.c1, .slice p.A2 m.inputs.length p.c2, .slice p.A3 m.holding.length p.c3, .slice p.A4 m.words.length p.c4] 28)
  have d' := Blk.newAt (w.alloc (.cells #[.slice q.A1 s.coils.length q.c1, .slice q.A2 s.inputs.length q.c2, .slice q.A3 s.holding.length q.c3, .slice q.A4 s.words.length q.c4] 24)) 28 #[.slice p.A1 m.coils.length p.c1, .slice p.A2 m.inputs.length p.c2, .slice p.A3 m.holding.length p.c3, .slice p.A4 m.words.length p.c4] (w.heap.size + 1) (World.size_alloc _ _)
  obtain ⟨g, hg⟩ : ∃ g, w.heap.size = g := ⟨_, rfl⟩
  obtain ⟨g1, hg1⟩ : ∃ g, w.heap.size + 1 = g := ⟨_, rfl⟩
  rw [hg1] at d' ⊢
  rw [hg] at d ⊢
  generalize (w.alloc (.cells #[.slice q.A1 s.coils.length q.c1, .slice q.A2 s.inputs.length q.c2, .slice q.A3 s.holding.length q.c3, .slice q.A4 s.words.length q.c4] 24)).alloc (.cells #[.slice p.A1 m.coils.length p.c1, .slice p.A2 m.inputs.length p.c2, .slice p.A3 m.holding.length p.c3, .slice p.A4 m.words.length p.c4] 28) = w1 at *
  clear hg hg1
  obtain ⟨d0, d1, d2, d3⟩ := d.c4
  obtain ⟨e0, e1, e2, e3⟩ := d'.c4
  go_wp2_with fail
  refine (E0.out _).mono ?_
  rintro e w2 ⟨rfl, hs⟩
  have hS2 := hS1.below hs
  replace hb := bthen hb hs
  have bv := Blk.new w2 100 #[.slice q.A1 s.coils.length q.c1, .slice p.A1 m.coils.length p.c1, .slice q.A2 s.inputs.length q.c2, .slice p.A2 m.inputs.length p.c2, .slice q.A3 s.holding.length q.c3, .slice p.A3 m.holding.length p.c3, .slice q.A4 s.words.length q.c4, .slice p.A4 m.words.length p.c4]
  have ha := (Below.refl _ w2).alloc (Nat.le_refl _) (.cells #[.slice q.A1 s.coils.length q.c1, .slice p.A1 m.coils.length p.c1, .slice q.A2 s.inputs.length q.c2, .slice p.A2 m.inputs.length p.c2, .slice q.A3 s.holding.length q.c3, .slice p.A3 m.holding.length p.c3, .slice q.A4 s.words.length q.c4, .slice p.A4 m.words.length p.c4] 100)
  clear hs d0 d1 d2 d3 e0 e1 e2 e3 d d'
  go_upto_region 2 with fail
  obtain ⟨gv, hgv⟩ : ∃ g, w2.heap.size = g := ⟨_, rfl⟩
  rw [hgv] at bv ⊢
  generalize w2.alloc (.cells #[.slice q.A1 s.coils.length q.c1, .slice p.A1 m.coils.length p.c1, .slice q.A2 s.inputs.length q.c2, .slice p.A2 m.inputs.length p.c2, .slice q.A3 s.holding.length q.c3, .slice p.A3 m.holding.length p.c3, .slice q.A4 s.words.length q.c4, .slice p.A4 m.words.length p.c4] 100) = w3 at *
  clear hgv
  have hS3 := hS2.below ha
  replace hb := bthen hb ha
  clear ha hS1 hS2
  have z0 := bv.cell 0
  have z1 := bv.cell 1
  have z2 := bv.cell 2
  have z3 := bv.cell 3
  have z4 := bv.cell 4
  have z5 := bv.cell 5
  have z6 := bv.cell 6
  have z7 := bv.cell 7
  cases r1 with
  | false =>
    have HF : Hid (R = false) := by (show _ = _); rw [HR.out]; rfl
    go_wp2_with fail
    refine (E1.out _ hS3).mono ?_
    rintro e w4 ⟨rfl, hs⟩
    go_wp2_with fail
    go_ret
    exact ⟨ret_b HF.out, bthen hb hs⟩
  | true =>
    go_wp2_with fail
    refine (E1.out _ hS3).mono ?_
    rintro e w4 ⟨rfl, hs⟩
    have hS4 := hS3.below hs
    replace hb := bthen hb hs
    replace bv := bv.all hs
    clear hs
    clear z0 z1 z2 z3 z4 z5 z6 z7
    have z0 := bv.cell 0
    have z1 := bv.cell 1
    have z2 := bv.cell 2
    have z3 := bv.cell 3
    have z4 := bv.cell 4
    have z5 := bv.cell 5
    have z6 := bv.cell 6
    have z7 := bv.cell 7
    cases r2 with
    | false =>
      have HF : Hid (R = false) := by (show _ = _); rw [HR.out]; rfl
      go_wp2_with fail
      refine (E2.out _ hS4).mono ?_
      rintro e w5 ⟨rfl, hs⟩
      go_wp2_with fail
      go_ret
      exact ⟨ret_b HF.out, bthen hb hs⟩
    | true =>
      go_wp2_with fail
      refine (E2.out _ hS4).mono ?_
      rintro e w5 ⟨rfl, hs⟩
      have hS5 := hS4.below hs
      replace hb := bthen hb hs
      replace bv := bv.all hs
      clear hs
      clear z0 z1 z2 z3 z4 z5 z6 z7
      have z0 := bv.cell 0
      have z1 := bv.cell 1
      have z2 := bv.cell 2
      have z3 := bv.cell 3
      have z4 := bv.cell 4
      have z5 := bv.cell 5
      have z6 := bv.cell 6
      have z7 := bv.cell 7
      cases r3 with
      | false =>
        have HF : Hid (R = false) := by (show _ = _); rw [HR.out]; rfl
        go_wp2_with fail
        refine (E3.out _ hS5).mono ?_
        rintro e w6 ⟨rfl, hs⟩
        go_wp2_with fail
        go_ret
        exact ⟨ret_b HF.out, bthen hb hs⟩
      | true =>
        go_wp2_with fail
        refine (E3.out _ hS5).mono ?_
        rintro e w6 ⟨rfl, hs⟩
        have hS6 := hS5.below hs
        replace hb := bthen hb hs
        replace bv := bv.all hs
        clear hs
        clear z0 z1 z2 z3 z4 z5 z6 z7
        have z0 := bv.cell 0
        have z1 := bv.cell 1
        have z2 := bv.cell 2
        have z3 := bv.cell 3
        have z4 := bv.cell 4
        have z5 := bv.cell 5
        have z6 := bv.cell 6
        have z7 := bv.cell 7
        cases r4 with
        | false =>
          have HF : Hid (R = false) := by (show _ = _); rw [HR.out]; rfl
          go_wp2_with fail
          refine (E4.out _ hS6).mono ?_
          rintro e w7 ⟨rfl, hs⟩
          go_wp2_with fail
          go_ret
          exact ⟨ret_b HF.out, bthen hb hs⟩
        | true =>
          go_wp2_with fail
          refine (E4.out _ hS6).mono ?_
          rintro e w7 ⟨rfl, hs⟩
          have HF : Hid (R = true) := by (show _ = _); rw [HR.out]; rfl
          go_wp2_with fail
          go_ret
          exact ⟨ret_b HF.out, bthen hb hs⟩
/-- a table's place -/
inductive Pl where
  | c | i | h | r
deriving DecidableEq
def plc (p : Nat) : Option Pl := if p = 1 then some .c else if p = 2 then some .i else if p = 3 then some .h else if p = 4 then some .r else none
def Pl.T : Pl → TypeId
  | .c | .i => 96
  | .h | .r => 98
def Pl.frd : Pl → FuncId
  | .c | .i => 121
  | .h | .r => 127
def Pl.fwr : Pl → FuncId
  | .c | .i => 122
  | .h | .r => 128
def Sp.at_ (s : Sp) : Pl → List Ar
  | .c => s.coils
  | .i => s.inputs
  | .h => s.holding
  | .r => s.words
theorem Sp.tab_eq (s : Sp) (p : Nat) : s.tab p = (plc p).map s.at_ := by
  unfold Sp.tab plc
  repeat' split
  all_goals rfl
def Pl.val (s : Sp) (q : Q8) (m1 m2 m3 m4 : Q3) : Pl → Value
  | .c => .agg #[.slice q.A1 s.coils.length q.c1, .slice m1.A m1.n m1.c]
  | .i => .agg #[.slice q.A2 s.inputs.length q.c2, .slice m2.A m2.n m2.c]
  | .h => .agg #[.slice q.A3 s.holding.length q.c3, .slice m3.A m3.n m3.c]
  | .r => .agg #[.slice q.A4 s.words.length q.c4, .slice m4.A m4.n m4.c]
def tellP (s : Sp) (q : Q8) (m1 m2 m3 m4 : Q3) : Option Pl → Value
  | none => .tuple #[.nilIface, .bool false]
  | some P => .tuple #[.iface P.T (P.val s q m1 m2 m3 m4), .bool true]
theorem meth_rd (P : Pl) (v : Value) (W : World) : (method 273 P.T v "saucier/model.readable").run Try.prog W = .ok (P.frd, v) W := by
  cases P <;> kernel_rfl
theorem meth_wr (P : Pl) (v : Value) (W : World) : (method 273 P.T v "saucier/model.writable").run Try.prog W = .ok (P.fwr, v) W := by
  cases P <;> kernel_rfl
theorem entr_rd (P : Pl) (args : Array Value) (W : World) : (callFunc P.frd args).run Try.prog W = .ok (.enter P.frd args) W := by
  cases P <;> kernel_rfl
theorem entr_wr (P : Pl) (args : Array Value) (W : World) : (callFunc P.fwr args).run Try.prog W = .ok (.enter P.fwr args) W := by
  cases P <;> kernel_rfl
theorem pl_readable (P : Pl) (s : Sp) (q : Q8) (m1 m2 m3 m4 : Q3) (t n : Nat) (w : World) (hS : SpR w s q) (hok : s.ok) (hf : s.few 1000000) (ht : t ≤ 65535) (hn : n ≤ 100000) :
    Calls Try.prog P.frd #[P.val s q m1 m2 m3 m4, .int .i64 (t : Int), .int .i64 (n : Int)] w fun e w' => e = .returned (.bool (readableT (s.at_ P) t n)) ∧ Below w.heap.size w w' := by
  cases P with
  | c => exact md_readable_b q.A1 _ q.c1 s.coils _ t n w hS.coils rfl hok.coils ht hn hf.coils ⟨_, _, _, rfl⟩
  | i => exact md_readable_b q.A2 _ q.c2 s.inputs _ t n w hS.inputs rfl hok.inputs ht hn hf.inputs ⟨_, _, _, rfl⟩
  | h => exact md_readable_w q.A3 _ q.c3 s.holding _ t n w hS.holding rfl hok.holding ht hn hf.holding ⟨_, _, _, rfl⟩
  | r => exact md_readable_w q.A4 _ q.c4 s.words _ t n w hS.words rfl hok.words ht hn hf.words ⟨_, _, _, rfl⟩
theorem pl_writable (P : Pl) (s : Sp) (q : Q8) (m1 m2 m3 m4 : Q3) (t n : Nat) (w : World) (hS : SpR w s q) (hok : s.ok) (hf : s.few 1000000) (ht : t ≤ 65535) (hn : n ≤ 100000) :
    Calls Try.prog P.fwr #[P.val s q m1 m2 m3 m4, .int .i64 (t : Int), .int .i64 (n : Int)] w fun e w' => e = .returned (.bool (writableT (s.at_ P) t n)) ∧ Below w.heap.size w w' := by
  cases P with
  | c => exact md_writable_b q.A1 _ q.c1 s.coils _ t n w hS.coils rfl hok.coils ht hn hf.coils ⟨_, _, _, rfl⟩
  | i => exact md_writable_b q.A2 _ q.c2 s.inputs _ t n w hS.inputs rfl hok.inputs ht hn hf.inputs ⟨_, _, _, rfl⟩
  | h => exact md_writable_w q.A3 _ q.c3 s.holding _ t n w hS.holding rfl hok.holding ht hn hf.holding ⟨_, _, _, rfl⟩
  | r => exact md_writable_w q.A4 _ q.c4 s.words _ t n w hS.words rfl hok.words ht hn hf.words ⟨_, _, _, rfl⟩
set_option maxRecDepth 100000 in
set_option maxHeartbeats 4000000 in
theorem md_ranges (s : Sp) (q : Q8) (m1 m2 m3 m4 : Q3) (p : Nat) (w : World) (hp : p ≤ 4) :
    Calls Try.prog 90 #[srvV s q m1 m2 m3 m4, .int .i64 (p : Int)] w fun e w' => e = .returned (tellP s q m1 m2 m3 m4 (plc p)) ∧ Below w.heap.size w w' := by
  have hb := (Below.refl w.heap.size w).alloc (Nat.le_refl _) (.cells #[.slice q.A1 s.coils.length q.c1, .slice m1.A m1.n m1.c, .slice q.A2 s.inputs.length q.c2, .slice m2.A m2.n m2.c, .slice q.A3 s.holding.length q.c3, .slice m3.A m3.n m3.c, .slice q.A4 s.words.length q.c4, .slice m4.A m4.n m4.c] 100)
  have bx := Blk.new w 100 #[.slice q.A1 s.coils.length q.c1, .slice m1.A m1.n m1.c, .slice q.A2 s.inputs.length q.c2, .slice m2.A m2.n m2.c, .slice q.A3 s.holding.length q.c3, .slice m3.A m3.n m3.c, .slice q.A4 s.words.length q.c4, .slice m4.A m4.n m4.c]
  obtain ⟨tv, htv⟩ : ∃ v, tellP s q m1 m2 m3 m4 (plc p) = v := ⟨_, rfl⟩
  rw [htv]
  simp only [srvV]
  have hc : p = 0 ∨ p = 1 ∨ p = 2 ∨ p = 3 ∨ p = 4 := by omega
  have HTV := Lib.hid htv
  clear htv
  go_enter Try.func90, Try.ntmps90
  go_upto_region 1 with fail
  obtain ⟨g, hg⟩ : ∃ g, w.heap.size = g := ⟨_, rfl⟩
  rw [hg] at bx ⊢
  generalize w.alloc (.cells #[.slice q.A1 s.coils.length q.c1, .slice m1.A m1.n m1.c, .slice q.A2 s.inputs.length q.c2, .slice m2.A m2.n m2.c, .slice q.A3 s.holding.length q.c3, .slice m3.A m3.n m3.c, .slice q.A4 s.words.length q.c4, .slice m4.A m4.n m4.c] 100) = w1 at *
  clear hg
  have z0 := bx.cell 0
  have z1 := bx.cell 1
  have z2 := bx.cell 2
  have z3 := bx.cell 3
  have z4 := bx.cell 4
  have z5 := bx.cell 5
  have z6 := bx.cell 6
  have z7 := bx.cell 7
  rcases hc with rfl | rfl | rfl | rfl | rfl
  all_goals
    simp only [Int.cast_ofNat_Int, Int.natCast_one, Int.natCast_zero] at *
    go_wp2_with fail
    go_ret2
    exact ⟨by rw [← HTV.out]; rfl, hb⟩
end Go.Proofs.Ytechhidfgheejaa
