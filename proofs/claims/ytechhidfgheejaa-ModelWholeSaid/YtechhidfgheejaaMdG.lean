/- The walk of model.Do (written by gen_mdg.py). -/
import Derived.Test.YtechhidfgheejaaMdLaw
namespace Go.Proofs.Ytechhidfgheejaa
open Go.RowKit
set_option linter.unusedSimpArgs false
set_option linter.unusedVariables false

section
variable {w : World} {g k : Nat} {t : TypeId} {cs : Array Value} {x0 x1 x2 x3 x4 x5 a0 a1 a2 a3 a4 a5 : Value}
theorem Blk.far4 (h : Blk w k t cs) (hp : k ≠ g) : Blk ((((w.setCell ⟨g, 0, none⟩ x0).setCell ⟨g, 1, none⟩ x1).setCell ⟨g, 2, none⟩ x2).setCell ⟨g, 3, none⟩ x3) k t cs := (((h.far (p := ⟨g, 0, none⟩) hp _).far (p := ⟨g, 1, none⟩) hp _).far (p := ⟨g, 2, none⟩) hp _).far (p := ⟨g, 3, none⟩) hp _
theorem Blk.far6 (h : Blk w k t cs) (hp : k ≠ g) : Blk ((((((w.setCell ⟨g, 0, none⟩ x0).setCell ⟨g, 1, none⟩ x1).setCell ⟨g, 2, none⟩ x2).setCell ⟨g, 3, none⟩ x3).setCell ⟨g, 4, none⟩ x4).setCell ⟨g, 5, none⟩ x5) k t cs := (h.far4 hp).far (p := ⟨g, 4, none⟩) hp _ |>.far (p := ⟨g, 5, none⟩) hp _
theorem Blk.put4 (h : Blk w g t #[a0, a1, a2, a3]) : Blk ((((w.setCell ⟨g, 0, none⟩ x0).setCell ⟨g, 1, none⟩ x1).setCell ⟨g, 2, none⟩ x2).setCell ⟨g, 3, none⟩ x3) g t #[x0, x1, x2, x3] := by
  have := (((h.set_ 0 x0).set_ 1 x1).set_ 2 x2).set_ 3 x3
  simpa only [List.setIfInBounds_toArray, List.set_cons_zero, List.set_cons_succ] using this
theorem Blk.put6 (h : Blk w g t #[a0, a1, a2, a3, a4, a5]) : Blk ((((((w.setCell ⟨g, 0, none⟩ x0).setCell ⟨g, 1, none⟩ x1).setCell ⟨g, 2, none⟩ x2).setCell ⟨g, 3, none⟩ x3).setCell ⟨g, 4, none⟩ x4).setCell ⟨g, 5, none⟩ x5) g t #[x0, x1, x2, x3, x4, x5] := by
  have := (((((h.set_ 0 x0).set_ 1 x1).set_ 2 x2).set_ 3 x3).set_ 4 x4).set_ 5 x5
  simpa only [List.setIfInBounds_toArray, List.set_cons_zero, List.set_cons_succ] using this
theorem OwnM.far4 {B : Nat} {m : Mm} {A1 A2 A3 A4 : Option Addr} {c1 c2 c3 c4 k1 k2 k3 : Nat} (h : OwnM w B m A1 c1 A2 c2 A3 c3 A4 c4 k1 k2 k3) (hN : g < B) : OwnM ((((w.setCell ⟨g, 0, none⟩ x0).setCell ⟨g, 1, none⟩ x1).setCell ⟨g, 2, none⟩ x2).setCell ⟨g, 3, none⟩ x3) B m A1 c1 A2 c2 A3 c3 A4 c4 k1 k2 k3 :=
  (((h.far hN 0 _).far hN 1 _).far hN 2 _).far hN 3 _
theorem OwnM.far6 {B : Nat} {m : Mm} {A1 A2 A3 A4 : Option Addr} {c1 c2 c3 c4 k1 k2 k3 : Nat} (h : OwnM w B m A1 c1 A2 c2 A3 c3 A4 c4 k1 k2 k3) (hN : g < B) : OwnM ((((((w.setCell ⟨g, 0, none⟩ x0).setCell ⟨g, 1, none⟩ x1).setCell ⟨g, 2, none⟩ x2).setCell ⟨g, 3, none⟩ x3).setCell ⟨g, 4, none⟩ x4).setCell ⟨g, 5, none⟩ x5) B m A1 c1 A2 c2 A3 c3 A4 c4 k1 k2 k3 :=
  ((h.far4 hN).far hN 4 _).far hN 5 _
theorem below_put4 {B : Nat} {a : World} (h : Below B a w) (hg : B ≤ g) : Below B a ((((w.setCell ⟨g, 0, none⟩ x0).setCell ⟨g, 1, none⟩ x1).setCell ⟨g, 2, none⟩ x2).setCell ⟨g, 3, none⟩ x3) := bset1 (bset1 (bset1 (bset1 h hg 0 _) hg 1 _) hg 2 _) hg 3 _
theorem below_put6 {B : Nat} {a : World} (h : Below B a w) (hg : B ≤ g) : Below B a ((((((w.setCell ⟨g, 0, none⟩ x0).setCell ⟨g, 1, none⟩ x1).setCell ⟨g, 2, none⟩ x2).setCell ⟨g, 3, none⟩ x3).setCell ⟨g, 4, none⟩ x4).setCell ⟨g, 5, none⟩ x5) := bset6 h hg _ _ _ _ _ _
theorem RdN.far4 {B' : Nat} {A : Option Addr} {xs : List Value} (h : RdN B' w A xs) (hg : g < B') : RdN B' ((((w.setCell ⟨g, 0, none⟩ x0).setCell ⟨g, 1, none⟩ x1).setCell ⟨g, 2, none⟩ x2).setCell ⟨g, 3, none⟩ x3) A xs := (((h.stored ⟨g, 0, none⟩ _ hg).stored ⟨g, 1, none⟩ _ hg).stored ⟨g, 2, none⟩ _ hg).stored ⟨g, 3, none⟩ _ hg
theorem RdN.far6 {B' : Nat} {A : Option Addr} {xs : List Value} (h : RdN B' w A xs) (hg : g < B') : RdN B' ((((((w.setCell ⟨g, 0, none⟩ x0).setCell ⟨g, 1, none⟩ x1).setCell ⟨g, 2, none⟩ x2).setCell ⟨g, 3, none⟩ x3).setCell ⟨g, 4, none⟩ x4).setCell ⟨g, 5, none⟩ x5) A xs := ((h.far4 hg).stored ⟨g, 4, none⟩ _ hg).stored ⟨g, 5, none⟩ _ hg
end
theorem OwnM.ne {A : Option Addr} {n c g k : Nat} (h : ∀ g, A.map (·.block) = some g → g < k) (hk : k ≤ g) : Value.ownBlock (.slice A n c) = none ∨ Value.ownBlock (.slice A n c) ≠ some g := by
  cases A with
  | none => exact .inl rfl
  | some a =>
    right
    intro e
    have := h g (by simpa [Value.ownBlock] using e)
    omega
/-- a memory in blocks from B on -/
structure MmN (B : Nat) (w : World) (m : Mm) (A1 A2 A3 A4 : Option Addr) : Prop where
  coils : RdN B w A1 (os m.coils)
  inputs : RdN B w A2 (os m.inputs)
  holding : RdN B w A3 (ws m.holding)
  words : RdN B w A4 (ws m.words)
theorem MmN.rd {B : Nat} {w : World} {m : Mm} {A1 A2 A3 A4 : Option Addr} (h : MmN B w m A1 A2 A3 A4) : MmR w m A1 A2 A3 A4 := ⟨h.coils.rd, h.inputs.rd, h.holding.rd, h.words.rd⟩
theorem OwnM.rdn {w : World} {B B' : Nat} {m : Mm} {A1 A2 A3 A4 : Option Addr} {c1 c2 c3 c4 k1 k2 k3 : Nat} (h : OwnM w B m A1 c1 A2 c2 A3 c3 A4 c4 k1 k2 k3) (hB : B' ≤ B) : MmN B' w m A1 A2 A3 A4 :=
  ⟨h.o1.rdN.base hB, h.o2.rdN.base (by have := h.b1; omega), h.o3.rdN.base (by have := h.b1; have := h.k12; omega), h.o4.rdN.base (by have := h.b1; have := h.k12; have := h.k23; omega)⟩
/-- a memory and a reply, told -/
def ToldD (w : World) (ec : Option Rp) (r : Mm × Rp) (e : Ending) (w' : World) : Prop :=
  ∃ P1 q1 P2 q2 P3 q3 P4 q4 A c B d, e = .returned (.tuple #[r.1.v P1 q1 P2 q2 P3 q3 P4 q4, r.2.v A c B d]) ∧ MmN w.heap.size w' r.1 P1 P2 P3 P4 ∧ r.1.cap q1 q2 q3 q4 ∧ RpR w' r.2 A B ∧ (ec = none → r.2.bits.length ≤ d) ∧ Below w.heap.size w w'
set_option maxRecDepth 100000 in
set_option maxHeartbeats 2000000 in
theorem md_Do (s : Sp) (q : Q8) (m : Mm) (p : Q8) (a : Ak) (A : Option Addr) (c : Nat) (B : Option Addr) (d : Nat) (w : World) (hS : SpR w s q) (hsk : s.ok) (hsf : s.few 1000000) (hM : MmR w m p.A1 p.A2 p.A3 p.A4) (hmf : m.few 100000)
    (hR : AkR w a A B) (hok : a.ok) (hw : a.words.length ≤ 1000000) (hk : a.bits.length ≤ 1000000) :
    Calls Try.prog 19 #[s.v q, m.v p.A1 p.c1 p.A2 p.c2 p.A3 p.c3 p.A4 p.c4, a.v A c B d] w fun e w' => ToldD w (echoA a) (doM s m a) e w' := by
  have HD : Hid (doM s m a = if checkN s a ≠ 0 then (m, wrongR a.fn (checkN s a)) else if rightSM s m = false then (m, wrongR a.fn 4) else (writtenM m a, (echoA a).getD (answerM (writtenM m a) a))) := rfl
  have E1 := Lib.hid (fun W h => md_own m p.A1 p.c1 p.A2 p.c2 p.A3 p.c3 p.A4 p.c4 W h ⟨by have := hmf.coils; omega, by have := hmf.inputs; omega, by have := hmf.holding; omega, by have := hmf.words; omega⟩)
  have E2 := Lib.hid (fun W h => md_Check s q a A c B d W h hsk hsf hok hw hk)
  have E3 := Lib.hid (fun W h => md_Right s q m p W h hsk hsf)
  have hfn := hok.fn
  have hckl := checkN_lt s a
  obtain ⟨ck, hck⟩ : ∃ n, checkN s a = n := ⟨_, rfl⟩
  obtain ⟨rs, hrs⟩ : ∃ b, rightSM s m = b := ⟨_, rfl⟩
  obtain ⟨fm, hfm⟩ : ∃ n, a.fn % 128 = n := ⟨_, rfl⟩
  have EW := Lib.hid (fun W => reply_Wrong a.fn (checkN s a) W hfn hckl)
  have EW4 := Lib.hid (fun W => reply_Wrong a.fn 4 W hfn (by omega))
  rw [hck] at E2 EW hckl
  rw [hrs] at E3
  rw [show (wrongR a.fn ck).v none 0 none 0 = .agg #[.int .u8 (fm : Int), .int .u8 (ck : Int), .slice none 0 0, .slice none 0 0, .int .u16 0, .int .u16 0] from by rw [← hfm]; rfl] at EW
  rw [show (wrongR a.fn 4).v none 0 none 0 = .agg #[.int .u8 (fm : Int), .int .u8 4, .slice none 0 0, .slice none 0 0, .int .u16 0, .int .u16 0] from by rw [← hfm]; rfl] at EW4
  have HCK := Lib.hid hck
  have HRS := Lib.hid hrs
  have HFM := Lib.hid hfm
  clear hck hrs hfm
  obtain ⟨DM, hDM⟩ : ∃ r, doM s m a = r := ⟨_, rfl⟩
  rw [hDM] at HD
  rw [hDM]
  clear hDM
  obtain ⟨EC, hEC⟩ : ∃ r, echoA a = r := ⟨_, rfl⟩
  have HEC := Lib.hid hEC
  rw [hEC]
  clear hEC
  simp only [Ak.v, akV, Sp.v, Mm.v] at E1 E2 E3 ⊢
  have hb := (((((Below.refl w.heap.size w).alloc (Nat.le_refl _) (.cells #[.slice q.A1 s.coils.length q.c1, .slice q.A2 s.inputs.length q.c2, .slice q.A3 s.holding.length q.c3, .slice q.A4 s.words.length q.c4] 24)).alloc (by simp) (.cells #[.slice p.A1 m.coils.length p.c1, .slice p.A2 m.inputs.length p.c2, .slice p.A3 m.holding.length p.c3, .slice p.A4 m.words.length p.c4] 28)).alloc (by simp; omega) (.cells #[.int .u8 (a.fn : Int), .int .u16 (a.at_ : Int), .int .u16 (a.many : Int), .int .u16 (a.to_ : Int), .slice A a.words.length c, .slice B a.bits.length d] 41)).alloc (by simp; omega) (.cells #[.slice none 0 0, .slice none 0 0, .slice none 0 0, .slice none 0 0] 28)).alloc (by simp; omega) (.cells #[.int .u8 0, .int .u8 0, .slice none 0 0, .slice none 0 0, .int .u16 0, .int .u16 0] 36)
  have bs := ((((Blk.newAt w 24 #[.slice q.A1 s.coils.length q.c1, .slice q.A2 s.inputs.length q.c2, .slice q.A3 s.holding.length q.c3, .slice q.A4 s.words.length q.c4] (w.heap.size) rfl).alloc (.cells #[.slice p.A1 m.coils.length p.c1, .slice p.A2 m.inputs.length p.c2, .slice p.A3 m.holding.length p.c3, .slice p.A4 m.words.length p.c4] 28)).alloc (.cells #[.int .u8 (a.fn : Int), .int .u16 (a.at_ : Int), .int .u16 (a.many : Int), .int .u16 (a.to_ : Int), .slice A a.words.length c, .slice B a.bits.length d] 41)).alloc (.cells #[.slice none 0 0, .slice none 0 0, .slice none 0 0, .slice none 0 0] 28)).alloc (.cells #[.int .u8 0, .int .u8 0, .slice none 0 0, .slice none 0 0, .int .u16 0, .int .u16 0] 36)
  have bm := (((Blk.newAt (w.alloc (.cells #[.slice q.A1 s.coils.length q.c1, .slice q.A2 s.inputs.length q.c2, .slice q.A3 s.holding.length q.c3, .slice q.A4 s.words.length q.c4] 24)) 28 #[.slice p.A1 m.coils.length p.c1, .slice p.A2 m.inputs.length p.c2, .slice p.A3 m.holding.length p.c3, .slice p.A4 m.words.length p.c4] (w.heap.size + 1) (by simp [World.size_alloc])).alloc (.cells #[.int .u8 (a.fn : Int), .int .u16 (a.at_ : Int), .int .u16 (a.many : Int), .int .u16 (a.to_ : Int), .slice A a.words.length c, .slice B a.bits.length d] 41)).alloc (.cells #[.slice none 0 0, .slice none 0 0, .slice none 0 0, .slice none 0 0] 28)).alloc (.cells #[.int .u8 0, .int .u8 0, .slice none 0 0, .slice none 0 0, .int .u16 0, .int .u16 0] 36)
  have ba := ((Blk.newAt ((w.alloc (.cells #[.slice q.A1 s.coils.length q.c1, .slice q.A2 s.inputs.length q.c2, .slice q.A3 s.holding.length q.c3, .slice q.A4 s.words.length q.c4] 24)).alloc (.cells #[.slice p.A1 m.coils.length p.c1, .slice p.A2 m.inputs.length p.c2, .slice p.A3 m.holding.length p.c3, .slice p.A4 m.words.length p.c4] 28)) 41 #[.int .u8 (a.fn : Int), .int .u16 (a.at_ : Int), .int .u16 (a.many : Int), .int .u16 (a.to_ : Int), .slice A a.words.length c, .slice B a.bits.length d] (w.heap.size + 1 + 1) (by simp [World.size_alloc])).alloc (.cells #[.slice none 0 0, .slice none 0 0, .slice none 0 0, .slice none 0 0] 28)).alloc (.cells #[.int .u8 0, .int .u8 0, .slice none 0 0, .slice none 0 0, .int .u16 0, .int .u16 0] 36)
  have b6 := (Blk.newAt (((w.alloc (.cells #[.slice q.A1 s.coils.length q.c1, .slice q.A2 s.inputs.length q.c2, .slice q.A3 s.holding.length q.c3, .slice q.A4 s.words.length q.c4] 24)).alloc (.cells #[.slice p.A1 m.coils.length p.c1, .slice p.A2 m.inputs.length p.c2, .slice p.A3 m.holding.length p.c3, .slice p.A4 m.words.length p.c4] 28)).alloc (.cells #[.int .u8 (a.fn : Int), .int .u16 (a.at_ : Int), .int .u16 (a.many : Int), .int .u16 (a.to_ : Int), .slice A a.words.length c, .slice B a.bits.length d] 41)) 28 #[.slice none 0 0, .slice none 0 0, .slice none 0 0, .slice none 0 0] (w.heap.size + 1 + 1 + 1) (by simp [World.size_alloc])).alloc (.cells #[.int .u8 0, .int .u8 0, .slice none 0 0, .slice none 0 0, .int .u16 0, .int .u16 0] 36)
  have b7 := Blk.newAt ((((w.alloc (.cells #[.slice q.A1 s.coils.length q.c1, .slice q.A2 s.inputs.length q.c2, .slice q.A3 s.holding.length q.c3, .slice q.A4 s.words.length q.c4] 24)).alloc (.cells #[.slice p.A1 m.coils.length p.c1, .slice p.A2 m.inputs.length p.c2, .slice p.A3 m.holding.length p.c3, .slice p.A4 m.words.length p.c4] 28)).alloc (.cells #[.int .u8 (a.fn : Int), .int .u16 (a.at_ : Int), .int .u16 (a.many : Int), .int .u16 (a.to_ : Int), .slice A a.words.length c, .slice B a.bits.length d] 41)).alloc (.cells #[.slice none 0 0, .slice none 0 0, .slice none 0 0, .slice none 0 0] 28)) 36 #[.int .u8 0, .int .u8 0, .slice none 0 0, .slice none 0 0, .int .u16 0, .int .u16 0] (w.heap.size + 1 + 1 + 1 + 1) (by simp [World.size_alloc])
  go_enter Try.func19, Try.ntmps19
  go_upto_region 1 with fail
  obtain ⟨gs, hgs⟩ : ∃ g, w.heap.size = g := ⟨_, rfl⟩
  obtain ⟨gm, hgm⟩ : ∃ g, w.heap.size + 1 = g := ⟨_, rfl⟩
  rw [hgm] at bm ba b6 b7 ⊢
  obtain ⟨ga, hga⟩ : ∃ g, gm + 1 = g := ⟨_, rfl⟩
  rw [hga] at ba b6 b7 ⊢
  obtain ⟨g6, hg6⟩ : ∃ g, ga + 1 = g := ⟨_, rfl⟩
  rw [hg6] at b6 b7 ⊢
  obtain ⟨g7, hg7⟩ : ∃ g, g6 + 1 = g := ⟨_, rfl⟩
  rw [hg7] at b7 ⊢
  have hwg6 : w.heap.size ≤ g6 := by omega
  have hwg7 : w.heap.size ≤ g7 := by omega
  have ha6 : ga ≠ g6 := by omega
  have ha7 : ga ≠ g7 := by omega
  have h67 : g6 ≠ g7 := by omega
  have h76 : g7 ≠ g6 := by omega
  rw [hgs] at bs ⊢
  generalize ((((w.alloc (.cells #[.slice q.A1 s.coils.length q.c1, .slice q.A2 s.inputs.length q.c2, .slice q.A3 s.holding.length q.c3, .slice q.A4 s.words.length q.c4] 24)).alloc (.cells #[.slice p.A1 m.coils.length p.c1, .slice p.A2 m.inputs.length p.c2, .slice p.A3 m.holding.length p.c3, .slice p.A4 m.words.length p.c4] 28)).alloc (.cells #[.int .u8 (a.fn : Int), .int .u16 (a.at_ : Int), .int .u16 (a.many : Int), .int .u16 (a.to_ : Int), .slice A a.words.length c, .slice B a.bits.length d] 41)).alloc (.cells #[.slice none 0 0, .slice none 0 0, .slice none 0 0, .slice none 0 0] 28)).alloc (.cells #[.int .u8 0, .int .u8 0, .slice none 0 0, .slice none 0 0, .int .u16 0, .int .u16 0] 36) = w1 at *
  clear hgs hgm hga hg6 hg7
  have hga1 : ga < w1.heap.size := ba.lt
  have h61 : g6 < w1.heap.size := b6.lt
  have h71 : g7 < w1.heap.size := b7.lt
  obtain ⟨KB, hKB⟩ : ∃ k, w1.heap.size = k := ⟨_, rfl⟩
  obtain ⟨m0, m1, m2, m3⟩ := bm.c4
  go_wp2_with fail
  refine (E1.out _ (hM.below hb)).mono ?_
  rintro e w2 ⟨P1, q1, P2, q2, P3, q3, P4, q4, k1, k2, k3, rfl, HO, hs⟩
  rw [hKB] at HO hga1 h61 h71
  have hKB1 : KB ≤ w1.heap.size := by omega
  clear hKB
  clear m0 m1 m2 m3
  replace bs := bs.all hs
  replace bm := bm.all hs
  replace ba := ba.all hs
  replace b6 := b6.all hs
  replace b7 := b7.all hs
  replace hb := bthen hb hs
  clear hs
  obtain ⟨m0, m1, m2, m3⟩ := bm.c4
  have hKBw : w.heap.size ≤ KB := by omega
  have bo := Blk.new w2 28 #[.slice P1 m.coils.length q1, .slice P2 m.inputs.length q2, .slice P3 m.holding.length q3, .slice P4 m.words.length q4]
  have hs := (Below.refl w2.heap.size w2).alloc (Nat.le_refl _) (.cells #[.slice P1 m.coils.length q1, .slice P2 m.inputs.length q2, .slice P3 m.holding.length q3, .slice P4 m.words.length q4] 28)
  have hP1 := HO.o1.under
  have hP3 := HO.o3.under
  have hk12 := HO.k12
  have hb1 := HO.b1
  obtain ⟨gx, hgx⟩ : ∃ g, w2.heap.size = g := ⟨_, rfl⟩
  have h7x : g7 < gx := by rw [← hgx]; exact b7.lt
  have h6x : g6 < gx := by rw [← hgx]; exact b6.lt
  have hax : ga < gx := by rw [← hgx]; exact ba.lt
  have hxw : w.heap.size ≤ gx := by omega
  rw [hgx] at hP1 hP3
  go_upto_region 2 with fail
  generalize w2.alloc (.cells #[.slice P1 m.coils.length q1, .slice P2 m.inputs.length q2, .slice P3 m.holding.length q3, .slice P4 m.words.length q4] 28) = w3 at *
  clear m0 m1 m2 m3
  replace bs := bs.all hs
  replace bm := bm.all hs
  replace ba := ba.all hs
  replace b6 := b6.all hs
  replace b7 := b7.all hs
  replace HO := HO.below hs
  replace hb := bthen hb hs
  clear hs
  obtain ⟨m0, m1, m2, m3⟩ := bm.c4
  rw [hgx] at bo
  (try rw [hgx])
  clear hgx
  have hx6 : gx ≠ g6 := by omega
  have hx7 : gx ≠ g7 := by omega
  obtain ⟨s0, s1, s2, s3⟩ := bs.c4
  obtain ⟨f0, f1, f2, f3, f4, f5⟩ := ba.c6
  go_wp2_with fail
  refine (E2.out _ (hS.below hb)).mono ?_
  rintro e w4 ⟨rfl, hs⟩
  clear m0 m1 m2 m3
  clear s0 s1 s2 s3
  clear f0 f1 f2 f3 f4 f5
  replace bs := bs.all hs
  replace bm := bm.all hs
  replace ba := ba.all hs
  replace b6 := b6.all hs
  replace b7 := b7.all hs
  replace HO := HO.below hs
  replace bo := bo.all hs
  replace hb := bthen hb hs
  clear hs
  obtain ⟨m0, m1, m2, m3⟩ := bm.c4
  obtain ⟨s0, s1, s2, s3⟩ := bs.c4
  obtain ⟨f0, f1, f2, f3, f4, f5⟩ := ba.c6
  by_cases hc0 : ck = 0
  rotate_left
  · clear s0 s1 s2 s3
    clear f0 f1 f2 f3 f4 f5
    clear m0 m1 m2 m3
    have HDM : Hid (DM = (m, wrongR a.fn ck)) := by (show _ = _); rw [HD.out, HCK.out, if_pos hc0]
    have v1 : ((ck : Int) != 0) = true := by simp; omega
    clear HD hc0
    go_upto_region 4 with fail
    have KK : Hid (∀ W : World, Blk W gx 28 #[.slice P1 m.coils.length q1, .slice P2 m.inputs.length q2, .slice P3 m.holding.length q3, .slice P4 m.words.length q4] → Blk W ga 41 #[.int .u8 (a.fn : Int), .int .u16 (a.at_ : Int), .int .u16 (a.many : Int), .int .u16 (a.to_ : Int), .slice A a.words.length c, .slice B a.bits.length d] → W.cell? ⟨gx, 0, none⟩ = some (.slice P1 m.coils.length q1) ∧ W.cell? ⟨gx, 1, none⟩ = some (.slice P2 m.inputs.length q2) ∧ W.cell? ⟨gx, 2, none⟩ = some (.slice P3 m.holding.length q3) ∧ W.cell? ⟨gx, 3, none⟩ = some (.slice P4 m.words.length q4) ∧ W.cell? ⟨ga, 0, none⟩ = some (.int .u8 (a.fn : Int))) := fun W h0 h1 => by obtain ⟨c00, c01, c02, c03⟩ := h0.c4; obtain ⟨c10, c11, c12, c13, c14, c15⟩ := h1.c6; exact ⟨c00, c01, c02, c03, c10⟩
    have bod := bo.drew
    have bad := ba.drew
    have hsd : Below w4.heap.size w4 w4.drew := (Below.refl _ _).drew
    have hbd := bthen hb hsd
    have b6d := b6.drew
    have b7d := b7.drew
    have HOd := HO.below hsd
    refine wp_region_held_drew (S := fun W => W.cell? ⟨gx, 0, none⟩ = some (.slice P1 m.coils.length q1) ∧ W.cell? ⟨gx, 1, none⟩ = some (.slice P2 m.inputs.length q2) ∧ W.cell? ⟨gx, 2, none⟩ = some (.slice P3 m.holding.length q3) ∧ W.cell? ⟨gx, 3, none⟩ = some (.slice P4 m.words.length q4) ∧ W.cell? ⟨ga, 0, none⟩ = some (.int .u8 (a.fn : Int))) (by kernel_rfl) ?_ (fun hHeld => ?_)
    · (with_reducible first | exact KK.out _ bog bag | exact KK.out _ bof baf | exact KK.out _ boe bae | exact KK.out _ bod bad)
    generalize w4.drew = wD at *
    refine takeRun (i := 0) (v := ?_) rfl (by kernel_rfl) (by kernel_rfl) (by kernel_rfl) (fun _ _ _ h => h) rfl ?_ (by assumption) ?_
    rotate_left
    · (intro w hSw; (try dsimp only at hSw); go_simp; (try with_reducible rfl))
    try simp only [Act.put, List.setIfInBounds_toArray, List.set_cons_zero, List.set_cons_succ]
    refine takeRun (i := 1) (v := ?_) rfl (by kernel_rfl) (by kernel_rfl) (by kernel_rfl) (fun _ _ _ h => h) rfl ?_ (by assumption) ?_
    rotate_left
    · (intro w hSw; (try dsimp only at hSw); go_simp; (try with_reducible rfl))
    try simp only [Act.put, List.setIfInBounds_toArray, List.set_cons_zero, List.set_cons_succ]
    refine takeRun (i := 2) (v := ?_) rfl (by kernel_rfl) (by kernel_rfl) (by kernel_rfl) (fun _ _ _ h => h) rfl ?_ (by assumption) ?_
    rotate_left
    · (intro w hSw; (try dsimp only at hSw); go_simp; (try with_reducible rfl))
    try simp only [Act.put, List.setIfInBounds_toArray, List.set_cons_zero, List.set_cons_succ]
    refine takeRun (i := 3) (v := ?_) rfl (by kernel_rfl) (by kernel_rfl) (by kernel_rfl) (fun _ _ _ h => h) rfl ?_ (by assumption) ?_
    rotate_left
    · (intro w hSw; (try dsimp only at hSw); go_simp; (try with_reducible rfl))
    try simp only [Act.put, List.setIfInBounds_toArray, List.set_cons_zero, List.set_cons_succ]
    refine goOne (i := 4) (by kernel_rfl) rfl (fun K hK => ?_)
    go_simp
    refine Calls.mono (EW.out _) ?_; rintro e wE ⟨rfl, hse⟩; have boe := bod.all hse; have bae := bad.all hse; have b6e := b6d.all hse; have b7e := b7d.all hse; have HOe := HOd.below hse; have hbe := bthen hbd hse
    go_wp2_with fail
    refine hK.out _ _ ?_ (fun hHeld => ?_)
    · (with_reducible first | exact KK.out _ bog bag | exact KK.out _ bof baf | exact KK.out _ boe bae | exact KK.out _ bod bad)
    clear hK K
    try simp only [Act.put, List.setIfInBounds_toArray, List.set_cons_zero, List.set_cons_succ]
    refine goOne (i := 5) (by kernel_rfl) rfl (fun K hK => ?_)
    have z6 := b6e
    obtain ⟨z0, z1, z2, z3⟩ := z6.c4
    have y0 := z6.frozen 0
    have y1 := z6.frozen 1
    have y2 := z6.frozen 2
    have y3 := z6.frozen 3
    have bof := Blk.far4 (x0 := .slice P1 m.coils.length q1) (x1 := .slice P2 m.inputs.length q2) (x2 := .slice P3 m.holding.length q3) (x3 := .slice P4 m.words.length q4) boe hx6
    have baf := Blk.far4 (x0 := .slice P1 m.coils.length q1) (x1 := .slice P2 m.inputs.length q2) (x2 := .slice P3 m.holding.length q3) (x3 := .slice P4 m.words.length q4) bae ha6
    have b7f := Blk.far4 (x0 := .slice P1 m.coils.length q1) (x1 := .slice P2 m.inputs.length q2) (x2 := .slice P3 m.holding.length q3) (x3 := .slice P4 m.words.length q4) b7e h76
    have b6f := Blk.put4 (x0 := .slice P1 m.coils.length q1) (x1 := .slice P2 m.inputs.length q2) (x2 := .slice P3 m.holding.length q3) (x3 := .slice P4 m.words.length q4) b6e
    have HOf := OwnM.far4 (x0 := .slice P1 m.coils.length q1) (x1 := .slice P2 m.inputs.length q2) (x2 := .slice P3 m.holding.length q3) (x3 := .slice P4 m.words.length q4) HOe h61
    have hbf := below_put4 (x0 := .slice P1 m.coils.length q1) (x1 := .slice P2 m.inputs.length q2) (x2 := .slice P3 m.holding.length q3) (x3 := .slice P4 m.words.length q4) hbe hwg6

    go_simp
    refine hK.out _ _ ?_ (fun hHeld => ?_)
    · (with_reducible first | exact KK.out _ bog bag | exact KK.out _ bof baf | exact KK.out _ boe bae | exact KK.out _ bod bad)
    clear hK K
    try simp only [Act.put, List.setIfInBounds_toArray, List.set_cons_zero, List.set_cons_succ]
    refine goOne (i := 6) (by kernel_rfl) rfl (fun K hK => ?_)
    generalize ((((wE.setCell ⟨g6, 0, none⟩ (.slice P1 m.coils.length q1)).setCell ⟨g6, 1, none⟩ (.slice P2 m.inputs.length q2)).setCell ⟨g6, 2, none⟩ (.slice P3 m.holding.length q3)).setCell ⟨g6, 3, none⟩ (.slice P4 m.words.length q4)) = wF at *
    clear z0 z1 z2 z3 y0 y1 y2 y3
    obtain ⟨z0, z1, z2, z3, z4, z5⟩ := b7f.c6
    have y0 := b7f.frozen 0
    have y1 := b7f.frozen 1
    have y2 := b7f.frozen 2
    have y3 := b7f.frozen 3
    have y4 := b7f.frozen 4
    have y5 := b7f.frozen 5
    have bog := Blk.far6 (x0 := .int .u8 (fm : Int)) (x1 := .int .u8 (ck : Int)) (x2 := .slice none 0 0) (x3 := .slice none 0 0) (x4 := .int .u16 0) (x5 := .int .u16 0) bof hx7
    have bag := Blk.far6 (x0 := .int .u8 (fm : Int)) (x1 := .int .u8 (ck : Int)) (x2 := .slice none 0 0) (x3 := .slice none 0 0) (x4 := .int .u16 0) (x5 := .int .u16 0) baf ha7
    have b6g := Blk.far6 (x0 := .int .u8 (fm : Int)) (x1 := .int .u8 (ck : Int)) (x2 := .slice none 0 0) (x3 := .slice none 0 0) (x4 := .int .u16 0) (x5 := .int .u16 0) b6f h67
    have b7g := Blk.put6 (x0 := .int .u8 (fm : Int)) (x1 := .int .u8 (ck : Int)) (x2 := .slice none 0 0) (x3 := .slice none 0 0) (x4 := .int .u16 0) (x5 := .int .u16 0) b7f
    have HOg := OwnM.far6 (x0 := .int .u8 (fm : Int)) (x1 := .int .u8 (ck : Int)) (x2 := .slice none 0 0) (x3 := .slice none 0 0) (x4 := .int .u16 0) (x5 := .int .u16 0) HOf h71
    have hbg := below_put6 (x0 := .int .u8 (fm : Int)) (x1 := .int .u8 (ck : Int)) (x2 := .slice none 0 0) (x3 := .slice none 0 0) (x4 := .int .u16 0) (x5 := .int .u16 0) hbf hwg7

    go_simp
    refine hK.out _ _ ?_ (fun hHeld => ?_)
    · (with_reducible first | exact KK.out _ bog bag | exact KK.out _ bof baf | exact KK.out _ boe bae | exact KK.out _ bod bad)
    clear hK K
    try simp only [Act.put, List.setIfInBounds_toArray, List.set_cons_zero, List.set_cons_succ]
    refine wpAnyH_done (by kernel_rfl) ?_ _
    clear z0 z1 z2 z3 z4 z5 y0 y1 y2 y3 y4 y5
    generalize ((((((wF.setCell ⟨g7, 0, none⟩ (.int .u8 (fm : Int))).setCell ⟨g7, 1, none⟩ (.int .u8 (ck : Int))).setCell ⟨g7, 2, none⟩ (.slice none 0 0)).setCell ⟨g7, 3, none⟩ (.slice none 0 0)).setCell ⟨g7, 4, none⟩ (.int .u16 0)).setCell ⟨g7, 5, none⟩ (.int .u16 0)) = wG at *
    obtain ⟨z0, z1, z2, z3⟩ := b6g.c4
    obtain ⟨z4, z5, z6', z7, z8, z9⟩ := b7g.c6
    go_wp2_with fail
    refine bodyPost_ret (v := .tuple #[.agg #[.slice P1 m.coils.length q1, .slice P2 m.inputs.length q2, .slice P3 m.holding.length q3, .slice P4 m.words.length q4], .agg #[.int .u8 (fm : Int), .int .u8 (ck : Int), .slice none 0 0, .slice none 0 0, .int .u16 0, .int .u16 0]]) (by simp [results, Try.results19, go_sem, z0, z1, z2, z3, z4, z5, z6', z7, z8, z9]) rfl ?_
    rw [HDM.out]
    exact ⟨P1, q1, P2, q2, P3, q3, P4, q4, none, 0, none, 0, by rw [← HFM.out]; rfl, HOg.rdn hKBw, HOg.cap, ⟨.inl rfl, .inl rfl⟩, fun _ => Nat.zero_le _, hbg⟩
  have HD2 : Hid (DM = if rs = false then (m, wrongR a.fn 4) else (writtenM m a, EC.getD (answerM (writtenM m a) a))) := by (show _ = _); rw [HD.out, HCK.out, if_neg (by simpa using hc0), HRS.out, HEC.out]
  have v1 : ((ck : Int) != 0) = false := by simp; omega
  have hck0 : checkN s a = 0 := by rw [HCK.out]; exact hc0
  have HCZ := Lib.hid (checkN_zero hck0)
  clear HD hc0 hck0
  clear f0 f1 f2 f3 f4 f5
  go_wp2_with fail
  refine (E3.out _ (hS.below hb)).mono ?_
  rintro e w5 ⟨rfl, hs⟩
  clear m0 m1 m2 m3
  clear s0 s1 s2 s3
  replace bs := bs.all hs
  replace bm := bm.all hs
  replace ba := ba.all hs
  replace b6 := b6.all hs
  replace b7 := b7.all hs
  replace HO := HO.below hs
  replace bo := bo.all hs
  replace hb := bthen hb hs
  clear hs
  obtain ⟨m0, m1, m2, m3⟩ := bm.c4
  obtain ⟨s0, s1, s2, s3⟩ := bs.c4
  cases rs with
  | false =>
    clear s0 s1 s2 s3
    clear m0 m1 m2 m3
    have HDM : Hid (DM = (m, wrongR a.fn 4)) := by (show _ = _); rw [HD2.out, if_pos rfl]
    clear HD2
    go_upto_region 6 with fail
    have KK : Hid (∀ W : World, Blk W gx 28 #[.slice P1 m.coils.length q1, .slice P2 m.inputs.length q2, .slice P3 m.holding.length q3, .slice P4 m.words.length q4] → Blk W ga 41 #[.int .u8 (a.fn : Int), .int .u16 (a.at_ : Int), .int .u16 (a.many : Int), .int .u16 (a.to_ : Int), .slice A a.words.length c, .slice B a.bits.length d] → W.cell? ⟨gx, 0, none⟩ = some (.slice P1 m.coils.length q1) ∧ W.cell? ⟨gx, 1, none⟩ = some (.slice P2 m.inputs.length q2) ∧ W.cell? ⟨gx, 2, none⟩ = some (.slice P3 m.holding.length q3) ∧ W.cell? ⟨gx, 3, none⟩ = some (.slice P4 m.words.length q4) ∧ W.cell? ⟨ga, 0, none⟩ = some (.int .u8 (a.fn : Int))) := fun W h0 h1 => by obtain ⟨c00, c01, c02, c03⟩ := h0.c4; obtain ⟨c10, c11, c12, c13, c14, c15⟩ := h1.c6; exact ⟨c00, c01, c02, c03, c10⟩
    have bod := bo.drew
    have bad := ba.drew
    have hsd : Below w5.heap.size w5 w5.drew := (Below.refl _ _).drew
    have hbd := bthen hb hsd
    have b6d := b6.drew
    have b7d := b7.drew
    have HOd := HO.below hsd
    refine wp_region_held_drew (S := fun W => W.cell? ⟨gx, 0, none⟩ = some (.slice P1 m.coils.length q1) ∧ W.cell? ⟨gx, 1, none⟩ = some (.slice P2 m.inputs.length q2) ∧ W.cell? ⟨gx, 2, none⟩ = some (.slice P3 m.holding.length q3) ∧ W.cell? ⟨gx, 3, none⟩ = some (.slice P4 m.words.length q4) ∧ W.cell? ⟨ga, 0, none⟩ = some (.int .u8 (a.fn : Int))) (by kernel_rfl) ?_ (fun hHeld => ?_)
    · (with_reducible first | exact KK.out _ bog bag | exact KK.out _ bof baf | exact KK.out _ boe bae | exact KK.out _ bod bad)
    generalize w5.drew = wD at *
    refine takeRun (i := 0) (v := ?_) rfl (by kernel_rfl) (by kernel_rfl) (by kernel_rfl) (fun _ _ _ h => h) rfl ?_ (by assumption) ?_
    rotate_left
    · (intro w hSw; (try dsimp only at hSw); go_simp; (try with_reducible rfl))
    try simp only [Act.put, List.setIfInBounds_toArray, List.set_cons_zero, List.set_cons_succ]
    refine takeRun (i := 1) (v := ?_) rfl (by kernel_rfl) (by kernel_rfl) (by kernel_rfl) (fun _ _ _ h => h) rfl ?_ (by assumption) ?_
    rotate_left
    · (intro w hSw; (try dsimp only at hSw); go_simp; (try with_reducible rfl))
    try simp only [Act.put, List.setIfInBounds_toArray, List.set_cons_zero, List.set_cons_succ]
    refine takeRun (i := 2) (v := ?_) rfl (by kernel_rfl) (by kernel_rfl) (by kernel_rfl) (fun _ _ _ h => h) rfl ?_ (by assumption) ?_
    rotate_left
    · (intro w hSw; (try dsimp only at hSw); go_simp; (try with_reducible rfl))
    try simp only [Act.put, List.setIfInBounds_toArray, List.set_cons_zero, List.set_cons_succ]
    refine goOne (i := 3) (by kernel_rfl) rfl (fun K hK => ?_)
    go_simp
    refine Calls.mono (EW4.out _) ?_; rintro e wE ⟨rfl, hse⟩; have boe := bod.all hse; have bae := bad.all hse; have b6e := b6d.all hse; have b7e := b7d.all hse; have HOe := HOd.below hse; have hbe := bthen hbd hse
    go_wp2_with fail
    refine hK.out _ _ ?_ (fun hHeld => ?_)
    · (with_reducible first | exact KK.out _ bog bag | exact KK.out _ bof baf | exact KK.out _ boe bae | exact KK.out _ bod bad)
    clear hK K
    try simp only [Act.put, List.setIfInBounds_toArray, List.set_cons_zero, List.set_cons_succ]
    refine goOne (i := 4) (by kernel_rfl) rfl (fun K hK => ?_)
    have z6 := b6e
    obtain ⟨z0, z1, z2, z3⟩ := z6.c4
    have y0 := z6.frozen 0
    have y1 := z6.frozen 1
    have y2 := z6.frozen 2
    have y3 := z6.frozen 3
    have bof := Blk.far4 (x0 := .slice P1 m.coils.length q1) (x1 := .slice P2 m.inputs.length q2) (x2 := .slice P3 m.holding.length q3) (x3 := .slice P4 m.words.length q4) boe hx6
    have baf := Blk.far4 (x0 := .slice P1 m.coils.length q1) (x1 := .slice P2 m.inputs.length q2) (x2 := .slice P3 m.holding.length q3) (x3 := .slice P4 m.words.length q4) bae ha6
    have b7f := Blk.far4 (x0 := .slice P1 m.coils.length q1) (x1 := .slice P2 m.inputs.length q2) (x2 := .slice P3 m.holding.length q3) (x3 := .slice P4 m.words.length q4) b7e h76
    have b6f := Blk.put4 (x0 := .slice P1 m.coils.length q1) (x1 := .slice P2 m.inputs.length q2) (x2 := .slice P3 m.holding.length q3) (x3 := .slice P4 m.words.length q4) b6e
    have HOf := OwnM.far4 (x0 := .slice P1 m.coils.length q1) (x1 := .slice P2 m.inputs.length q2) (x2 := .slice P3 m.holding.length q3) (x3 := .slice P4 m.words.length q4) HOe h61
    have hbf := below_put4 (x0 := .slice P1 m.coils.length q1) (x1 := .slice P2 m.inputs.length q2) (x2 := .slice P3 m.holding.length q3) (x3 := .slice P4 m.words.length q4) hbe hwg6

    go_simp
    refine hK.out _ _ ?_ (fun hHeld => ?_)
    · (with_reducible first | exact KK.out _ bog bag | exact KK.out _ bof baf | exact KK.out _ boe bae | exact KK.out _ bod bad)
    clear hK K
    try simp only [Act.put, List.setIfInBounds_toArray, List.set_cons_zero, List.set_cons_succ]
    refine goOne (i := 5) (by kernel_rfl) rfl (fun K hK => ?_)
    generalize ((((wE.setCell ⟨g6, 0, none⟩ (.slice P1 m.coils.length q1)).setCell ⟨g6, 1, none⟩ (.slice P2 m.inputs.length q2)).setCell ⟨g6, 2, none⟩ (.slice P3 m.holding.length q3)).setCell ⟨g6, 3, none⟩ (.slice P4 m.words.length q4)) = wF at *
    clear z0 z1 z2 z3 y0 y1 y2 y3
    obtain ⟨z0, z1, z2, z3, z4, z5⟩ := b7f.c6
    have y0 := b7f.frozen 0
    have y1 := b7f.frozen 1
    have y2 := b7f.frozen 2
    have y3 := b7f.frozen 3
    have y4 := b7f.frozen 4
    have y5 := b7f.frozen 5
    have bog := Blk.far6 (x0 := .int .u8 (fm : Int)) (x1 := .int .u8 4) (x2 := .slice none 0 0) (x3 := .slice none 0 0) (x4 := .int .u16 0) (x5 := .int .u16 0) bof hx7
    have bag := Blk.far6 (x0 := .int .u8 (fm : Int)) (x1 := .int .u8 4) (x2 := .slice none 0 0) (x3 := .slice none 0 0) (x4 := .int .u16 0) (x5 := .int .u16 0) baf ha7
    have b6g := Blk.far6 (x0 := .int .u8 (fm : Int)) (x1 := .int .u8 4) (x2 := .slice none 0 0) (x3 := .slice none 0 0) (x4 := .int .u16 0) (x5 := .int .u16 0) b6f h67
    have b7g := Blk.put6 (x0 := .int .u8 (fm : Int)) (x1 := .int .u8 4) (x2 := .slice none 0 0) (x3 := .slice none 0 0) (x4 := .int .u16 0) (x5 := .int .u16 0) b7f
    have HOg := OwnM.far6 (x0 := .int .u8 (fm : Int)) (x1 := .int .u8 4) (x2 := .slice none 0 0) (x3 := .slice none 0 0) (x4 := .int .u16 0) (x5 := .int .u16 0) HOf h71
    have hbg := below_put6 (x0 := .int .u8 (fm : Int)) (x1 := .int .u8 4) (x2 := .slice none 0 0) (x3 := .slice none 0 0) (x4 := .int .u16 0) (x5 := .int .u16 0) hbf hwg7

    go_simp
    refine hK.out _ _ ?_ (fun hHeld => ?_)
    · (with_reducible first | exact KK.out _ bog bag | exact KK.out _ bof baf | exact KK.out _ boe bae | exact KK.out _ bod bad)
    clear hK K
    try simp only [Act.put, List.setIfInBounds_toArray, List.set_cons_zero, List.set_cons_succ]
    refine wpAnyH_done (by kernel_rfl) ?_ _
    clear z0 z1 z2 z3 z4 z5 y0 y1 y2 y3 y4 y5
    generalize ((((((wF.setCell ⟨g7, 0, none⟩ (.int .u8 (fm : Int))).setCell ⟨g7, 1, none⟩ (.int .u8 4)).setCell ⟨g7, 2, none⟩ (.slice none 0 0)).setCell ⟨g7, 3, none⟩ (.slice none 0 0)).setCell ⟨g7, 4, none⟩ (.int .u16 0)).setCell ⟨g7, 5, none⟩ (.int .u16 0)) = wG at *
    obtain ⟨z0, z1, z2, z3⟩ := b6g.c4
    obtain ⟨z4, z5, z6', z7, z8, z9⟩ := b7g.c6
    go_wp2_with fail
    refine bodyPost_ret (v := .tuple #[.agg #[.slice P1 m.coils.length q1, .slice P2 m.inputs.length q2, .slice P3 m.holding.length q3, .slice P4 m.words.length q4], .agg #[.int .u8 (fm : Int), .int .u8 4, .slice none 0 0, .slice none 0 0, .int .u16 0, .int .u16 0]]) (by simp [results, Try.results19, go_sem, z0, z1, z2, z3, z4, z5, z6', z7, z8, z9]) rfl ?_
    rw [HDM.out]
    exact ⟨P1, q1, P2, q2, P3, q3, P4, q4, none, 0, none, 0, by rw [← HFM.out]; rfl, HOg.rdn hKBw, HOg.cap, ⟨.inl rfl, .inl rfl⟩, fun _ => Nat.zero_le _, hbg⟩
  | true =>
    clear m0 m1 m2 m3
    clear bm
    have HDM : Hid (DM = (writtenM m a, EC.getD (answerM (writtenM m a) a))) := by (show _ = _); rw [HD2.out, if_neg (by simp)]
    clear HD2
    have WF := Lib.hid (writeBad_fit (m := m) HCZ.out.1 HRS.out HCZ.out.2.2)
    have LN := Lib.hid (writtenM_lens (m := m) HCZ.out.1 HRS.out HCZ.out.2.2)
    have RF : Hid (readsP a.fn ≠ 0 → a.at_ + a.many ≤ (writtenM m a).lenR a.fn) := fun h => by rw [writtenM_lenR HCZ.out.1 HRS.out HCZ.out.2.2]; exact readBad_fit HCZ.out.1 HRS.out HCZ.out.2.1 h
    have HEI : Hid (EC = none → readsP a.fn ≠ 0) := fun h => (right_uses HCZ.out.1).2.2.2.2.2.1 (by rw [HEC.out]; exact h)
    obtain ⟨m', hm'⟩ : ∃ x, writtenM m a = x := ⟨_, rfl⟩
    have HM' := Lib.hid hm'
    rw [hm'] at HDM LN RF
    clear hm'
    have E7 := Lib.hid (fun W => md_open s q ⟨P1, m.coils.length, q1⟩ ⟨P2, m.inputs.length, q2⟩ ⟨P3, m.holding.length, q3⟩ ⟨P4, m.words.length, q4⟩ W)
    have E8 := Lib.hid (fun W => md_uses a.fn W hfn)
    have E9 := Lib.hid (fun W => md_target a A c B d W hok (by omega) (by omega))
    have E15 := Lib.hid (fun W h => reply_Echo a A c B d W h hok hw hk)
    rw [HEC.out] at E15
    simp only [Ak.v, akV, Sp.v, memV, srvV, useV] at E7 E8 E9 E15
    obtain ⟨nr, hnr⟩ : ∃ n, readsP a.fn = n := ⟨_, rfl⟩
    obtain ⟨nw, hnw⟩ : ∃ n, writesP a.fn = n := ⟨_, rfl⟩
    obtain ⟨tt, htt⟩ : ∃ n, targetT a = n := ⟨_, rfl⟩
    rw [hnr, hnw] at E8
    rw [htt] at E9 WF
    have HNR := Lib.hid hnr
    have HNW := Lib.hid hnw
    have HTT := Lib.hid htt
    have httb : tt ≤ 65535 := by rw [← htt]; have := hok.at_; have := hok.to_; unfold targetT; split <;> omega
    clear hnr hnw htt
    obtain ⟨f0, f1, f2, f3, f4, f5⟩ := ba.c6
    clear s0 s1 s2 s3
    obtain ⟨s0, s1, s2, s3⟩ := bs.c4
    obtain ⟨o0, o1, o2, o3⟩ := bo.c4
    go_wp2_with fail
    refine (E7.out _).mono ?_
    rintro e w6 ⟨rfl, hs⟩
    clear f0 f1 f2 f3 f4 f5
    clear s0 s1 s2 s3
    clear o0 o1 o2 o3
    replace bs := bs.all hs
    replace ba := ba.all hs
    replace b6 := b6.all hs
    replace b7 := b7.all hs
    replace HO := HO.below hs
    replace bo := bo.all hs
    replace hb := bthen hb hs
    clear hs
    obtain ⟨f0, f1, f2, f3, f4, f5⟩ := ba.c6
    obtain ⟨s0, s1, s2, s3⟩ := bs.c4
    obtain ⟨o0, o1, o2, o3⟩ := bo.c4
    go_upto_region 8 with fail
    have bv := Blk.new w6 100 #[.slice q.A1 s.coils.length q.c1, .slice P1 m.coils.length q1, .slice q.A2 s.inputs.length q.c2, .slice P2 m.inputs.length q2, .slice q.A3 s.holding.length q.c3, .slice P3 m.holding.length q3, .slice q.A4 s.words.length q.c4, .slice P4 m.words.length q4]
    have hs := (Below.refl w6.heap.size w6).alloc (Nat.le_refl _) (.cells #[.slice q.A1 s.coils.length q.c1, .slice P1 m.coils.length q1, .slice q.A2 s.inputs.length q.c2, .slice P2 m.inputs.length q2, .slice q.A3 s.holding.length q.c3, .slice P3 m.holding.length q3, .slice q.A4 s.words.length q.c4, .slice P4 m.words.length q4] 100)
    obtain ⟨gv, hgv⟩ : ∃ g, w6.heap.size = g := ⟨_, rfl⟩
    have hvp : gx < gv := by rw [← hgv]; exact bo.lt
    generalize w6.alloc (.cells #[.slice q.A1 s.coils.length q.c1, .slice P1 m.coils.length q1, .slice q.A2 s.inputs.length q.c2, .slice P2 m.inputs.length q2, .slice q.A3 s.holding.length q.c3, .slice P3 m.holding.length q3, .slice q.A4 s.words.length q.c4, .slice P4 m.words.length q4] 100) = w7 at *
    clear f0 f1 f2 f3 f4 f5
    clear s0 s1 s2 s3
    clear o0 o1 o2 o3
    replace bs := bs.all hs
    replace ba := ba.all hs
    replace b6 := b6.all hs
    replace b7 := b7.all hs
    replace HO := HO.below hs
    replace bo := bo.all hs
    replace hb := bthen hb hs
    clear hs
    obtain ⟨f0, f1, f2, f3, f4, f5⟩ := ba.c6
    obtain ⟨s0, s1, s2, s3⟩ := bs.c4
    obtain ⟨o0, o1, o2, o3⟩ := bo.c4
    rw [hgv] at bv ⊢
    clear hgv
    have hv6 : gv ≠ g6 := by omega
    have hv7 : gv ≠ g7 := by omega
    clear o0 o1 o2 o3
    clear s0 s1 s2 s3
    clear bs
    go_wp2_with fail
    refine (E8.out _).mono ?_
    rintro e w8 ⟨rfl, hs⟩
    clear f0 f1 f2 f3 f4 f5
    replace ba := ba.all hs
    replace b6 := b6.all hs
    replace b7 := b7.all hs
    replace HO := HO.below hs
    replace bo := bo.all hs
    replace bv := bv.all hs
    replace hb := bthen hb hs
    clear hs
    obtain ⟨f0, f1, f2, f3, f4, f5⟩ := ba.c6
    go_upto_region 9 with fail
    have bu := Blk.new w8 104 #[.int .i64 (nr : Int), .int .i64 (nw : Int)]
    have hs := (Below.refl w8.heap.size w8).alloc (Nat.le_refl _) (.cells #[.int .i64 (nr : Int), .int .i64 (nw : Int)] 104)
    obtain ⟨gu, hgu⟩ : ∃ g, w8.heap.size = g := ⟨_, rfl⟩
    have hup : gv < gu := by rw [← hgu]; exact bv.lt
    generalize w8.alloc (.cells #[.int .i64 (nr : Int), .int .i64 (nw : Int)] 104) = w9 at *
    clear f0 f1 f2 f3 f4 f5
    replace ba := ba.all hs
    replace b6 := b6.all hs
    replace b7 := b7.all hs
    replace HO := HO.below hs
    replace bo := bo.all hs
    replace bv := bv.all hs
    replace hb := bthen hb hs
    clear hs
    obtain ⟨f0, f1, f2, f3, f4, f5⟩ := ba.c6
    rw [hgu] at bu ⊢
    clear hgu
    have hu6 : gu ≠ g6 := by omega
    have hu7 : gu ≠ g7 := by omega
    go_wp2_with fail
    refine (E9.out _).mono ?_
    rintro e w10 ⟨rfl, hs⟩
    clear f0 f1 f2 f3 f4 f5
    replace ba := ba.all hs
    replace b6 := b6.all hs
    replace b7 := b7.all hs
    replace HO := HO.below hs
    replace bo := bo.all hs
    replace bv := bv.all hs
    replace bu := bu.all hs
    replace hb := bthen hb hs
    clear hs
    obtain ⟨f0, f1, f2, f3, f4, f5⟩ := ba.c6
    have v0 := bv.cell 0
    have v1 := bv.cell 1
    have v2 := bv.cell 2
    have v3 := bv.cell 3
    have v4 := bv.cell 4
    have v5 := bv.cell 5
    have v6 := bv.cell 6
    have v7 := bv.cell 7
    obtain ⟨u0, u1⟩ := bu.c2
    go_upto_block 0 with fail
    go_cut [] (fun wc => Blk wc ga 41 #[.int .u8 (a.fn : Int), .int .u16 (a.at_ : Int), .int .u16 (a.many : Int), .int .u16 (a.to_ : Int), .slice A a.words.length c, .slice B a.bits.length d] ∧ Blk wc g6 28 #[.slice none 0 0, .slice none 0 0, .slice none 0 0, .slice none 0 0] ∧ Blk wc g7 36 #[.int .u8 0, .int .u8 0, .slice none 0 0, .slice none 0 0, .int .u16 0, .int .u16 0] ∧ Blk wc gx 28 #[.slice P1 m.coils.length q1, .slice P2 m.inputs.length q2, .slice P3 m.holding.length q3, .slice P4 m.words.length q4] ∧ Blk wc gv 100 #[.slice q.A1 s.coils.length q.c1, .slice P1 m.coils.length q1, .slice q.A2 s.inputs.length q.c2, .slice P2 m.inputs.length q2, .slice q.A3 s.holding.length q.c3, .slice P3 m.holding.length q3, .slice q.A4 s.words.length q.c4, .slice P4 m.words.length q4] ∧ Blk wc gu 104 #[.int .i64 (nr : Int), .int .i64 (nw : Int)] ∧ OwnM wc KB m' P1 q1 P2 q2 P3 q3 P4 q4 k1 k2 k3 ∧ Below w.heap.size w wc)
    case first =>
      have hcs : nw = 1 ∨ nw = 3 ∨ nw = 0 := by rw [← HNW.out]; unfold writesP; repeat' split
                                                all_goals omega
      rcases hcs with rfl | rfl | rfl
      · have WX := Lib.hid (WF.out.1 HNW.out)
        obtain ⟨hx1, hx2⟩ := WX.out
        have hmx : m' = { m with coils := putAt m.coils tt a.bits } := by rw [← HM'.out]; unfold writtenM; rw [HNW.out, HTT.out]; rfl
        have HMX := Lib.hid hmx
        have hcp := HO.cap
        have hlb := hmf.coils
        obtain ⟨g, hgP, hgB, hgl, -, -⟩ := HO.o1.head (by simp only [os, ws, List.length_map]; omega)
        subst hgP
        have hgB2 := hP1 g rfl
        have E10 := Lib.hid (md_write_b (.slice q.A1 s.coils.length q.c1) g m.coils.length q1 m.coils B a.bits.length d a.bits tt w10 KB ⟨_, _, _, rfl⟩ HO.o1 rfl hcp.coils (hR.bits.below hb) rfl hx2 hx1 hlb hgl)
        clear hmx hcp
        simp only [Int.cast_ofNat_Int, Int.natCast_one] at *
        go_wp2_with fail
        refine E10.out.mono ?_
        rintro e wX ⟨rfl, ow, hg3⟩
        go_wp2_with fail
        go_meet
        have hk1 := HO.b1
        have hk2 := HO.k12
        have hk3 := HO.k23
        have hl1 := HO.l1
        have hl2 := HO.l2
        have hl3 := HO.l3
        refine ⟨ba.grown hg3 ?_, b6.grown hg3 ?_, b7.grown hg3 ?_, bo.grown hg3 ?_, bv.grown hg3 ?_, bu.grown hg3 ?_, ?_, hb.grown hg3 hb.size (fun k e => by injection e with e; omega)⟩
        · intro e; injection e with e; omega
        · intro e; injection e with e; omega
        · intro e; injection e with e; omega
        · intro e; injection e with e; omega
        · intro e; injection e with e; omega
        · intro e; injection e with e; omega
        rw [HMX.out]
        have hg1 := hl1 g rfl
        exact ⟨ow, HO.o2.past hg3 hg1, HO.o3.past hg3 (by omega), HO.o4.past hg3 (by omega), hl1, hl2, hl3, hk1, hk2, hk3⟩
      · have WX := Lib.hid (WF.out.2 HNW.out)
        obtain ⟨hx1, hx2⟩ := WX.out
        have hmx : m' = { m with holding := putAt m.holding tt a.words } := by rw [← HM'.out]; unfold writtenM; rw [HNW.out, HTT.out]; rfl
        have HMX := Lib.hid hmx
        have hcp := HO.cap
        have hlb := hmf.holding
        obtain ⟨g, hgP, hgB, hgl, -, -⟩ := HO.o3.head (by simp only [os, ws, List.length_map]; omega)
        subst hgP
        have hgB2 := hP3 g rfl
        have E10 := Lib.hid (md_write_w (.slice q.A3 s.holding.length q.c3) g m.holding.length q3 m.holding A a.words.length c a.words tt w10 k2 ⟨_, _, _, rfl⟩ HO.o3 rfl hcp.holding (hR.words.below hb) rfl hx2 hx1 hlb hgl)
        clear hmx hcp
        simp only [Int.cast_ofNat_Int, Int.natCast_one] at *
        go_wp2_with fail
        refine E10.out.mono ?_
        rintro e wX ⟨rfl, ow, hg3⟩
        go_wp2_with fail
        go_meet
        have hk1 := HO.b1
        have hk2 := HO.k12
        have hk3 := HO.k23
        have hl1 := HO.l1
        have hl2 := HO.l2
        have hl3 := HO.l3
        refine ⟨ba.grown hg3 ?_, b6.grown hg3 ?_, b7.grown hg3 ?_, bo.grown hg3 ?_, bv.grown hg3 ?_, bu.grown hg3 ?_, ?_, hb.grown hg3 hb.size (fun k e => by injection e with e; omega)⟩
        · intro e; injection e with e; omega
        · intro e; injection e with e; omega
        · intro e; injection e with e; omega
        · intro e; injection e with e; omega
        · intro e; injection e with e; omega
        · intro e; injection e with e; omega
        rw [HMX.out]
        have hg1 := hl3 g rfl
        exact ⟨HO.o1.kept hg3 (OwnM.ne hl1 (by omega)), HO.o2.kept hg3 (OwnM.ne hl2 (by omega)), ow, HO.o4.past hg3 hg1, hl1, hl2, hl3, hk1, hk2, hk3⟩
      · have hmx : m' = m := by rw [← HM'.out]; unfold writtenM; rw [HNW.out]; rfl
        have HMX := Lib.hid hmx
        clear hmx
        simp only [Int.cast_ofNat_Int, Int.natCast_zero] at *
        go_wp2_with fail
        go_meet
        refine ⟨ba, b6, b7, bo, bv, bu, ?_, hb⟩
        rw [HMX.out]
        exact HO
    case rest =>
      clear f0 f1 f2 f3 f4 f5
      clear v0 v1 v2 v3 v4 v5 v6 v7
      clear u0 u1
      clear ba b6 b7 bo bv bu HO hb
      obtain ⟨ba, b6, b7, bo, bv, bu, HO, hb⟩ := hcut
      generalize hwz : wc = w20 at *
      clear hwz
      obtain ⟨f0, f1, f2, f3, f4, f5⟩ := ba.c6
      go_wp2_with fail
      cases EC with
      | some r =>
        have HDM2 : Hid (DM = (m', r)) := by (show _ = _); rw [HDM.out]; rfl
        clear HDM
        unfold ToldQ at E15
        simp only at E15
        have hsz6 := b6.lt
        have hsz7 := b7.lt
        refine (E15.out _ (hR.below hb)).mono ?_
        rintro e w21 ⟨Ae, ce, Be, de, hev, rwE, rbE, hs⟩
        simp only [Rp.v, rpV] at hev
        subst hev
        have hbE := hb.size
        clear f0 f1 f2 f3 f4 f5
        replace ba := ba.all hs
        replace b6 := b6.all hs
        replace b7 := b7.all hs
        replace HO := HO.below hs
        replace bo := bo.all hs
        replace bv := bv.all hs
        replace bu := bu.all hs
        replace hb := bthen hb hs
        clear hs
        obtain ⟨f0, f1, f2, f3, f4, f5⟩ := ba.c6
        clear f0 f1 f2 f3 f4 f5
        have be := Blk.new w21 36 #[.int .u8 (r.fn : Int), .int .u8 (r.ex : Int), .slice Be r.bits.length de, .slice Ae r.words.length ce, .int .u16 (r.at_ : Int), .int .u16 (r.many : Int)]
        have hs := (Below.refl w21.heap.size w21).alloc (Nat.le_refl _) (.cells #[.int .u8 (r.fn : Int), .int .u8 (r.ex : Int), .slice Be r.bits.length de, .slice Ae r.words.length ce, .int .u16 (r.at_ : Int), .int .u16 (r.many : Int)] 36)
        obtain ⟨ge, hge⟩ : ∃ g, w21.heap.size = g := ⟨_, rfl⟩
        have hep : gu < ge := by rw [← hge]; exact bu.lt
        have rwE2 := rwE.below hs
        have rbE2 := rbE.below hs
        go_upto_region 17 with fail
        generalize w21.alloc (.cells #[.int .u8 (r.fn : Int), .int .u8 (r.ex : Int), .slice Be r.bits.length de, .slice Ae r.words.length ce, .int .u16 (r.at_ : Int), .int .u16 (r.many : Int)] 36) = w22 at *
        clear bv bu
        replace ba := ba.all hs
        replace b6 := b6.all hs
        replace b7 := b7.all hs
        replace HO := HO.below hs
        replace bo := bo.all hs
        replace hb := bthen hb hs
        clear hs
        rw [hge] at be
        (try rw [hge])
        have he6 : ge ≠ g6 := by omega
        have he7 : ge ≠ g7 := by omega
        clear hge rwE rbE
        replace rwE2 := rwE2.below ((Below.refl w22.heap.size w22).drew)
        replace rbE2 := rbE2.below ((Below.refl w22.heap.size w22).drew)
        have KK : Hid (∀ W : World, Blk W gx 28 #[.slice P1 m.coils.length q1, .slice P2 m.inputs.length q2, .slice P3 m.holding.length q3, .slice P4 m.words.length q4] → Blk W ge 36 #[.int .u8 (r.fn : Int), .int .u8 (r.ex : Int), .slice Be r.bits.length de, .slice Ae r.words.length ce, .int .u16 (r.at_ : Int), .int .u16 (r.many : Int)] → W.cell? ⟨gx, 0, none⟩ = some (.slice P1 m.coils.length q1) ∧ W.cell? ⟨gx, 1, none⟩ = some (.slice P2 m.inputs.length q2) ∧ W.cell? ⟨gx, 2, none⟩ = some (.slice P3 m.holding.length q3) ∧ W.cell? ⟨gx, 3, none⟩ = some (.slice P4 m.words.length q4) ∧ W.cell? ⟨ge, 0, none⟩ = some (.int .u8 (r.fn : Int)) ∧ W.cell? ⟨ge, 1, none⟩ = some (.int .u8 (r.ex : Int)) ∧ W.cell? ⟨ge, 2, none⟩ = some (.slice Be r.bits.length de) ∧ W.cell? ⟨ge, 3, none⟩ = some (.slice Ae r.words.length ce) ∧ W.cell? ⟨ge, 4, none⟩ = some (.int .u16 (r.at_ : Int)) ∧ W.cell? ⟨ge, 5, none⟩ = some (.int .u16 (r.many : Int))) := fun W h0 h1 => by obtain ⟨c00, c01, c02, c03⟩ := h0.c4; obtain ⟨c10, c11, c12, c13, c14, c15⟩ := h1.c6; exact ⟨c00, c01, c02, c03, c10, c11, c12, c13, c14, c15⟩
        have bod := bo.drew
        have bed := be.drew
        have hsd : Below w22.heap.size w22 w22.drew := (Below.refl _ _).drew
        have hbd := bthen hb hsd
        have b6d := b6.drew
        have b7d := b7.drew
        have HOd := HO.below hsd
        refine wp_region_held_drew (S := fun W => W.cell? ⟨gx, 0, none⟩ = some (.slice P1 m.coils.length q1) ∧ W.cell? ⟨gx, 1, none⟩ = some (.slice P2 m.inputs.length q2) ∧ W.cell? ⟨gx, 2, none⟩ = some (.slice P3 m.holding.length q3) ∧ W.cell? ⟨gx, 3, none⟩ = some (.slice P4 m.words.length q4) ∧ W.cell? ⟨ge, 0, none⟩ = some (.int .u8 (r.fn : Int)) ∧ W.cell? ⟨ge, 1, none⟩ = some (.int .u8 (r.ex : Int)) ∧ W.cell? ⟨ge, 2, none⟩ = some (.slice Be r.bits.length de) ∧ W.cell? ⟨ge, 3, none⟩ = some (.slice Ae r.words.length ce) ∧ W.cell? ⟨ge, 4, none⟩ = some (.int .u16 (r.at_ : Int)) ∧ W.cell? ⟨ge, 5, none⟩ = some (.int .u16 (r.many : Int))) (by kernel_rfl) ?_ (fun hHeld => ?_)
        · (with_reducible first | exact KK.out _ bog beg | exact KK.out _ bof bef | exact KK.out _ bod bed)
        generalize w22.drew = wD at *
        refine takeRun (i := 0) (v := ?_) rfl (by kernel_rfl) (by kernel_rfl) (by kernel_rfl) (fun _ _ _ h => h) rfl ?_ (by assumption) ?_
        rotate_left
        · (intro w hSw; (try dsimp only at hSw); go_simp; (try with_reducible rfl))
        try simp only [Act.put, List.setIfInBounds_toArray, List.set_cons_zero, List.set_cons_succ]
        refine takeRun (i := 1) (v := ?_) rfl (by kernel_rfl) (by kernel_rfl) (by kernel_rfl) (fun _ _ _ h => h) rfl ?_ (by assumption) ?_
        rotate_left
        · (intro w hSw; (try dsimp only at hSw); go_simp; (try with_reducible rfl))
        try simp only [Act.put, List.setIfInBounds_toArray, List.set_cons_zero, List.set_cons_succ]
        refine goOne (i := 2) (by kernel_rfl) rfl (fun K hK => ?_)
        have z6 := b6d
        obtain ⟨z0, z1, z2, z3⟩ := z6.c4
        have y0 := z6.frozen 0
        have y1 := z6.frozen 1
        have y2 := z6.frozen 2
        have y3 := z6.frozen 3
        have bof := Blk.far4 (x0 := .slice P1 m.coils.length q1) (x1 := .slice P2 m.inputs.length q2) (x2 := .slice P3 m.holding.length q3) (x3 := .slice P4 m.words.length q4) bod hx6
        have bef := Blk.far4 (x0 := .slice P1 m.coils.length q1) (x1 := .slice P2 m.inputs.length q2) (x2 := .slice P3 m.holding.length q3) (x3 := .slice P4 m.words.length q4) bed he6
        have b7f := Blk.far4 (x0 := .slice P1 m.coils.length q1) (x1 := .slice P2 m.inputs.length q2) (x2 := .slice P3 m.holding.length q3) (x3 := .slice P4 m.words.length q4) b7d h76
        have b6f := Blk.put4 (x0 := .slice P1 m.coils.length q1) (x1 := .slice P2 m.inputs.length q2) (x2 := .slice P3 m.holding.length q3) (x3 := .slice P4 m.words.length q4) b6d
        have HOf := OwnM.far4 (x0 := .slice P1 m.coils.length q1) (x1 := .slice P2 m.inputs.length q2) (x2 := .slice P3 m.holding.length q3) (x3 := .slice P4 m.words.length q4) HOd h61
        have hbf := below_put4 (x0 := .slice P1 m.coils.length q1) (x1 := .slice P2 m.inputs.length q2) (x2 := .slice P3 m.holding.length q3) (x3 := .slice P4 m.words.length q4) hbd hwg6
        have rwf := RdN.far4 (x0 := .slice P1 m.coils.length q1) (x1 := .slice P2 m.inputs.length q2) (x2 := .slice P3 m.holding.length q3) (x3 := .slice P4 m.words.length q4) rwE2 hsz6
        have rbf := RdN.far4 (x0 := .slice P1 m.coils.length q1) (x1 := .slice P2 m.inputs.length q2) (x2 := .slice P3 m.holding.length q3) (x3 := .slice P4 m.words.length q4) rbE2 hsz6
        go_simp
        refine hK.out _ _ ?_ (fun hHeld => ?_)
        · (with_reducible first | exact KK.out _ bog beg | exact KK.out _ bof bef | exact KK.out _ bod bed)
        clear hK K
        try simp only [Act.put, List.setIfInBounds_toArray, List.set_cons_zero, List.set_cons_succ]
        refine goOne (i := 3) (by kernel_rfl) rfl (fun K hK => ?_)
        generalize ((((wD.setCell ⟨g6, 0, none⟩ (.slice P1 m.coils.length q1)).setCell ⟨g6, 1, none⟩ (.slice P2 m.inputs.length q2)).setCell ⟨g6, 2, none⟩ (.slice P3 m.holding.length q3)).setCell ⟨g6, 3, none⟩ (.slice P4 m.words.length q4)) = wF at *
        clear z0 z1 z2 z3 y0 y1 y2 y3
        obtain ⟨z0, z1, z2, z3, z4, z5⟩ := b7f.c6
        have y0 := b7f.frozen 0
        have y1 := b7f.frozen 1
        have y2 := b7f.frozen 2
        have y3 := b7f.frozen 3
        have y4 := b7f.frozen 4
        have y5 := b7f.frozen 5
        have bog := Blk.far6 (x0 := .int .u8 (r.fn : Int)) (x1 := .int .u8 (r.ex : Int)) (x2 := .slice Be r.bits.length de) (x3 := .slice Ae r.words.length ce) (x4 := .int .u16 (r.at_ : Int)) (x5 := .int .u16 (r.many : Int)) bof hx7
        have beg := Blk.far6 (x0 := .int .u8 (r.fn : Int)) (x1 := .int .u8 (r.ex : Int)) (x2 := .slice Be r.bits.length de) (x3 := .slice Ae r.words.length ce) (x4 := .int .u16 (r.at_ : Int)) (x5 := .int .u16 (r.many : Int)) bef he7
        have b6g := Blk.far6 (x0 := .int .u8 (r.fn : Int)) (x1 := .int .u8 (r.ex : Int)) (x2 := .slice Be r.bits.length de) (x3 := .slice Ae r.words.length ce) (x4 := .int .u16 (r.at_ : Int)) (x5 := .int .u16 (r.many : Int)) b6f h67
        have b7g := Blk.put6 (x0 := .int .u8 (r.fn : Int)) (x1 := .int .u8 (r.ex : Int)) (x2 := .slice Be r.bits.length de) (x3 := .slice Ae r.words.length ce) (x4 := .int .u16 (r.at_ : Int)) (x5 := .int .u16 (r.many : Int)) b7f
        have HOg := OwnM.far6 (x0 := .int .u8 (r.fn : Int)) (x1 := .int .u8 (r.ex : Int)) (x2 := .slice Be r.bits.length de) (x3 := .slice Ae r.words.length ce) (x4 := .int .u16 (r.at_ : Int)) (x5 := .int .u16 (r.many : Int)) HOf h71
        have hbg := below_put6 (x0 := .int .u8 (r.fn : Int)) (x1 := .int .u8 (r.ex : Int)) (x2 := .slice Be r.bits.length de) (x3 := .slice Ae r.words.length ce) (x4 := .int .u16 (r.at_ : Int)) (x5 := .int .u16 (r.many : Int)) hbf hwg7
        have rwg := RdN.far6 (x0 := .int .u8 (r.fn : Int)) (x1 := .int .u8 (r.ex : Int)) (x2 := .slice Be r.bits.length de) (x3 := .slice Ae r.words.length ce) (x4 := .int .u16 (r.at_ : Int)) (x5 := .int .u16 (r.many : Int)) rwf hsz7
        have rbg := RdN.far6 (x0 := .int .u8 (r.fn : Int)) (x1 := .int .u8 (r.ex : Int)) (x2 := .slice Be r.bits.length de) (x3 := .slice Ae r.words.length ce) (x4 := .int .u16 (r.at_ : Int)) (x5 := .int .u16 (r.many : Int)) rbf hsz7
        go_simp
        refine hK.out _ _ ?_ (fun hHeld => ?_)
        · (with_reducible first | exact KK.out _ bog beg | exact KK.out _ bof bef | exact KK.out _ bod bed)
        clear hK K
        try simp only [Act.put, List.setIfInBounds_toArray, List.set_cons_zero, List.set_cons_succ]
        refine wpAnyH_done (by kernel_rfl) ?_ _
        clear z0 z1 z2 z3 z4 z5 y0 y1 y2 y3 y4 y5
        generalize ((((((wF.setCell ⟨g7, 0, none⟩ (.int .u8 (r.fn : Int))).setCell ⟨g7, 1, none⟩ (.int .u8 (r.ex : Int))).setCell ⟨g7, 2, none⟩ (.slice Be r.bits.length de)).setCell ⟨g7, 3, none⟩ (.slice Ae r.words.length ce)).setCell ⟨g7, 4, none⟩ (.int .u16 (r.at_ : Int))).setCell ⟨g7, 5, none⟩ (.int .u16 (r.many : Int))) = wG at *
        obtain ⟨z0, z1, z2, z3⟩ := b6g.c4
        obtain ⟨z4, z5, z6', z7, z8, z9⟩ := b7g.c6
        go_wp2_with fail
        refine bodyPost_ret (v := .tuple #[.agg #[.slice P1 m.coils.length q1, .slice P2 m.inputs.length q2, .slice P3 m.holding.length q3, .slice P4 m.words.length q4], .agg #[.int .u8 (r.fn : Int), .int .u8 (r.ex : Int), .slice Be r.bits.length de, .slice Ae r.words.length ce, .int .u16 (r.at_ : Int), .int .u16 (r.many : Int)]]) (by simp [results, Try.results19, go_sem, z0, z1, z2, z3, z4, z5, z6', z7, z8, z9]) rfl ?_
        rw [HDM2.out]
        refine ⟨P1, q1, P2, q2, P3, q3, P4, q4, Ae, ce, Be, de, ?_, HOg.rdn hKBw, HOg.cap, ⟨rwg.rd, rbg.rd⟩, fun h => (by cases h), hbg⟩
        simp only [Mm.v, Rp.v, rpV]
        rw [LN.out.1, LN.out.2.1, LN.out.2.2.1, LN.out.2.2.2]
      | none =>
        have hnr := HEI.out rfl
        have hfit := RF.out hnr
        obtain ⟨R, hRR⟩ : ∃ r, answerM m' a = r := ⟨_, rfl⟩
        have HDM2 : Hid (DM = (m', R)) := by (show _ = _); rw [HDM.out, ← hRR]; rfl
        have E18 := Lib.hid (fun W (hM : MmR W m' P1 P2 P3 P4) => md_answer s q m' ⟨P1, q1, P2, q2, P3, q3, P4, q4⟩ a A c B d W hM HO.cap ⟨by rw [LN.out.1]; exact hmf.coils, by rw [LN.out.2.1]; exact hmf.inputs, by rw [LN.out.2.2.1]; exact hmf.holding, by rw [LN.out.2.2.2]; exact hmf.words⟩ hok hnr hfit)
        rw [hRR, HNR.out] at E18
        simp only [srvV, Ak.v, akV, LN.out.1, LN.out.2.1, LN.out.2.2.1, LN.out.2.2.2] at E18
        clear HDM hRR hnr hfit
        unfold ToldQ at E15
        simp only at E15
        rw [show Rp.zero.v none 0 none 0 = .agg #[.int .u8 0, .int .u8 0, .slice none 0 0, .slice none 0 0, .int .u16 0, .int .u16 0] from rfl] at E15
        refine (E15.out _ (hR.below hb)).mono ?_
        rintro e w21 ⟨rfl, hs⟩
        clear f0 f1 f2 f3 f4 f5
        replace ba := ba.all hs
        replace b6 := b6.all hs
        replace b7 := b7.all hs
        replace HO := HO.below hs
        replace bo := bo.all hs
        replace bv := bv.all hs
        replace bu := bu.all hs
        replace hb := bthen hb hs
        clear hs
        obtain ⟨f0, f1, f2, f3, f4, f5⟩ := ba.c6
        clear f0 f1 f2 f3 f4 f5
        have hs := (Below.refl w21.heap.size w21).alloc (Nat.le_refl _) (.cells #[.int .u8 0, .int .u8 0, .slice none 0 0, .slice none 0 0, .int .u16 0, .int .u16 0] 36)
        go_upto_region 18 with fail
        generalize w21.alloc (.cells #[.int .u8 0, .int .u8 0, .slice none 0 0, .slice none 0 0, .int .u16 0, .int .u16 0] 36) = w22 at *
        replace ba := ba.all hs
        replace b6 := b6.all hs
        replace b7 := b7.all hs
        replace HO := HO.below hs
        replace bo := bo.all hs
        replace bv := bv.all hs
        replace bu := bu.all hs
        replace hb := bthen hb hs
        clear hs
        have KK : Hid (∀ W : World, Blk W gx 28 #[.slice P1 m.coils.length q1, .slice P2 m.inputs.length q2, .slice P3 m.holding.length q3, .slice P4 m.words.length q4] → Blk W gv 100 #[.slice q.A1 s.coils.length q.c1, .slice P1 m.coils.length q1, .slice q.A2 s.inputs.length q.c2, .slice P2 m.inputs.length q2, .slice q.A3 s.holding.length q.c3, .slice P3 m.holding.length q3, .slice q.A4 s.words.length q.c4, .slice P4 m.words.length q4] → Blk W gu 104 #[.int .i64 (nr : Int), .int .i64 (nw : Int)] → Blk W ga 41 #[.int .u8 (a.fn : Int), .int .u16 (a.at_ : Int), .int .u16 (a.many : Int), .int .u16 (a.to_ : Int), .slice A a.words.length c, .slice B a.bits.length d] → W.cell? ⟨gx, 0, none⟩ = some (.slice P1 m.coils.length q1) ∧ W.cell? ⟨gx, 1, none⟩ = some (.slice P2 m.inputs.length q2) ∧ W.cell? ⟨gx, 2, none⟩ = some (.slice P3 m.holding.length q3) ∧ W.cell? ⟨gx, 3, none⟩ = some (.slice P4 m.words.length q4) ∧ W.cell? ⟨gv, 0, none⟩ = some (.slice q.A1 s.coils.length q.c1) ∧ W.cell? ⟨gv, 1, none⟩ = some (.slice P1 m.coils.length q1) ∧ W.cell? ⟨gv, 2, none⟩ = some (.slice q.A2 s.inputs.length q.c2) ∧ W.cell? ⟨gv, 3, none⟩ = some (.slice P2 m.inputs.length q2) ∧ W.cell? ⟨gv, 4, none⟩ = some (.slice q.A3 s.holding.length q.c3) ∧ W.cell? ⟨gv, 5, none⟩ = some (.slice P3 m.holding.length q3) ∧ W.cell? ⟨gv, 6, none⟩ = some (.slice q.A4 s.words.length q.c4) ∧ W.cell? ⟨gv, 7, none⟩ = some (.slice P4 m.words.length q4) ∧ W.cell? ⟨gu, 0, none⟩ = some (.int .i64 (nr : Int)) ∧ W.cell? ⟨ga, 0, none⟩ = some (.int .u8 (a.fn : Int)) ∧ W.cell? ⟨ga, 1, none⟩ = some (.int .u16 (a.at_ : Int)) ∧ W.cell? ⟨ga, 2, none⟩ = some (.int .u16 (a.many : Int)) ∧ W.cell? ⟨ga, 3, none⟩ = some (.int .u16 (a.to_ : Int)) ∧ W.cell? ⟨ga, 4, none⟩ = some (.slice A a.words.length c) ∧ W.cell? ⟨ga, 5, none⟩ = some (.slice B a.bits.length d)) := fun W h0 h1 h2 h3 => by obtain ⟨c00, c01, c02, c03⟩ := h0.c4; have c10 := h1.cell 0; have c11 := h1.cell 1; have c12 := h1.cell 2; have c13 := h1.cell 3; have c14 := h1.cell 4; have c15 := h1.cell 5; have c16 := h1.cell 6; have c17 := h1.cell 7; obtain ⟨c20, c21⟩ := h2.c2; obtain ⟨c30, c31, c32, c33, c34, c35⟩ := h3.c6; exact ⟨c00, c01, c02, c03, c10, c11, c12, c13, c14, c15, c16, c17, c20, c30, c31, c32, c33, c34, c35⟩
        have bod := bo.drew
        have bvd := bv.drew
        have bud := bu.drew
        have bad := ba.drew
        have hsd : Below w22.heap.size w22 w22.drew := (Below.refl _ _).drew
        have hbd := bthen hb hsd
        have b6d := b6.drew
        have b7d := b7.drew
        have HOd := HO.below hsd
        refine wp_region_held_drew (S := fun W => W.cell? ⟨gx, 0, none⟩ = some (.slice P1 m.coils.length q1) ∧ W.cell? ⟨gx, 1, none⟩ = some (.slice P2 m.inputs.length q2) ∧ W.cell? ⟨gx, 2, none⟩ = some (.slice P3 m.holding.length q3) ∧ W.cell? ⟨gx, 3, none⟩ = some (.slice P4 m.words.length q4) ∧ W.cell? ⟨gv, 0, none⟩ = some (.slice q.A1 s.coils.length q.c1) ∧ W.cell? ⟨gv, 1, none⟩ = some (.slice P1 m.coils.length q1) ∧ W.cell? ⟨gv, 2, none⟩ = some (.slice q.A2 s.inputs.length q.c2) ∧ W.cell? ⟨gv, 3, none⟩ = some (.slice P2 m.inputs.length q2) ∧ W.cell? ⟨gv, 4, none⟩ = some (.slice q.A3 s.holding.length q.c3) ∧ W.cell? ⟨gv, 5, none⟩ = some (.slice P3 m.holding.length q3) ∧ W.cell? ⟨gv, 6, none⟩ = some (.slice q.A4 s.words.length q.c4) ∧ W.cell? ⟨gv, 7, none⟩ = some (.slice P4 m.words.length q4) ∧ W.cell? ⟨gu, 0, none⟩ = some (.int .i64 (nr : Int)) ∧ W.cell? ⟨ga, 0, none⟩ = some (.int .u8 (a.fn : Int)) ∧ W.cell? ⟨ga, 1, none⟩ = some (.int .u16 (a.at_ : Int)) ∧ W.cell? ⟨ga, 2, none⟩ = some (.int .u16 (a.many : Int)) ∧ W.cell? ⟨ga, 3, none⟩ = some (.int .u16 (a.to_ : Int)) ∧ W.cell? ⟨ga, 4, none⟩ = some (.slice A a.words.length c) ∧ W.cell? ⟨ga, 5, none⟩ = some (.slice B a.bits.length d)) (by kernel_rfl) ?_ (fun hHeld => ?_)
        · (with_reducible first | exact KK.out _ bog bvg bug bag | exact KK.out _ bof bvf buf baf | exact KK.out _ boe bve bue bae | exact KK.out _ bod bvd bud bad)
        generalize w22.drew = wD at *
        refine takeRun (i := 0) (v := ?_) rfl (by kernel_rfl) (by kernel_rfl) (by kernel_rfl) (fun _ _ _ h => h) rfl ?_ (by assumption) ?_
        rotate_left
        · (intro w hSw; (try dsimp only at hSw); go_simp; (try with_reducible rfl))
        try simp only [Act.put, List.setIfInBounds_toArray, List.set_cons_zero, List.set_cons_succ]
        refine takeRun (i := 1) (v := ?_) rfl (by kernel_rfl) (by kernel_rfl) (by kernel_rfl) (fun _ _ _ h => h) rfl ?_ (by assumption) ?_
        rotate_left
        · (intro w hSw; (try dsimp only at hSw); go_simp; (try with_reducible rfl))
        try simp only [Act.put, List.setIfInBounds_toArray, List.set_cons_zero, List.set_cons_succ]
        refine takeRun (i := 2) (v := ?_) rfl (by kernel_rfl) (by kernel_rfl) (by kernel_rfl) (fun _ _ _ h => h) rfl ?_ (by assumption) ?_
        rotate_left
        · (intro w hSw; (try dsimp only at hSw); go_simp; (try with_reducible rfl))
        try simp only [Act.put, List.setIfInBounds_toArray, List.set_cons_zero, List.set_cons_succ]
        refine takeRun (i := 3) (v := ?_) rfl (by kernel_rfl) (by kernel_rfl) (by kernel_rfl) (fun _ _ _ h => h) rfl ?_ (by assumption) ?_
        rotate_left
        · (intro w hSw; (try dsimp only at hSw); go_simp; (try with_reducible rfl))
        try simp only [Act.put, List.setIfInBounds_toArray, List.set_cons_zero, List.set_cons_succ]
        refine takeRun (i := 4) (v := ?_) rfl (by kernel_rfl) (by kernel_rfl) (by kernel_rfl) (fun _ _ _ h => h) rfl ?_ (by assumption) ?_
        rotate_left
        · (intro w hSw; (try dsimp only at hSw); go_simp; (try with_reducible rfl))
        try simp only [Act.put, List.setIfInBounds_toArray, List.set_cons_zero, List.set_cons_succ]
        refine goOne (i := 5) (by kernel_rfl) rfl (fun K hK => ?_)
        go_simp
        refine Calls.mono (E18.out _ HOd.rd) ?_; rintro e wE ⟨Aw, cw, Bw, dw, hev, rwE, rbE, hcapE, hse⟩; simp only [Rp.v, rpV] at hev; subst hev; have boe := bod.all hse; have bve := bvd.all hse; have bue := bud.all hse; have bae := bad.all hse; have b6e := b6d.all hse; have b7e := b7d.all hse; have HOe := HOd.below hse; have hbe := bthen hbd hse; have hsz6 := b6d.lt; have hsz7 := b7d.lt
        go_wp2_with fail
        refine hK.out _ _ ?_ (fun hHeld => ?_)
        · (with_reducible first | exact KK.out _ bog bvg bug bag | exact KK.out _ bof bvf buf baf | exact KK.out _ boe bve bue bae | exact KK.out _ bod bvd bud bad)
        clear hK K
        try simp only [Act.put, List.setIfInBounds_toArray, List.set_cons_zero, List.set_cons_succ]
        refine goOne (i := 6) (by kernel_rfl) rfl (fun K hK => ?_)
        have z6 := b6e
        obtain ⟨z0, z1, z2, z3⟩ := z6.c4
        have y0 := z6.frozen 0
        have y1 := z6.frozen 1
        have y2 := z6.frozen 2
        have y3 := z6.frozen 3
        have bof := Blk.far4 (x0 := .slice P1 m.coils.length q1) (x1 := .slice P2 m.inputs.length q2) (x2 := .slice P3 m.holding.length q3) (x3 := .slice P4 m.words.length q4) boe hx6
        have bvf := Blk.far4 (x0 := .slice P1 m.coils.length q1) (x1 := .slice P2 m.inputs.length q2) (x2 := .slice P3 m.holding.length q3) (x3 := .slice P4 m.words.length q4) bve hv6
        have buf := Blk.far4 (x0 := .slice P1 m.coils.length q1) (x1 := .slice P2 m.inputs.length q2) (x2 := .slice P3 m.holding.length q3) (x3 := .slice P4 m.words.length q4) bue hu6
        have baf := Blk.far4 (x0 := .slice P1 m.coils.length q1) (x1 := .slice P2 m.inputs.length q2) (x2 := .slice P3 m.holding.length q3) (x3 := .slice P4 m.words.length q4) bae ha6
        have b7f := Blk.far4 (x0 := .slice P1 m.coils.length q1) (x1 := .slice P2 m.inputs.length q2) (x2 := .slice P3 m.holding.length q3) (x3 := .slice P4 m.words.length q4) b7e h76
        have b6f := Blk.put4 (x0 := .slice P1 m.coils.length q1) (x1 := .slice P2 m.inputs.length q2) (x2 := .slice P3 m.holding.length q3) (x3 := .slice P4 m.words.length q4) b6e
        have HOf := OwnM.far4 (x0 := .slice P1 m.coils.length q1) (x1 := .slice P2 m.inputs.length q2) (x2 := .slice P3 m.holding.length q3) (x3 := .slice P4 m.words.length q4) HOe h61
        have hbf := below_put4 (x0 := .slice P1 m.coils.length q1) (x1 := .slice P2 m.inputs.length q2) (x2 := .slice P3 m.holding.length q3) (x3 := .slice P4 m.words.length q4) hbe hwg6
        have rwf := RdN.far4 (x0 := .slice P1 m.coils.length q1) (x1 := .slice P2 m.inputs.length q2) (x2 := .slice P3 m.holding.length q3) (x3 := .slice P4 m.words.length q4) rwE hsz6
        have rbf := RdN.far4 (x0 := .slice P1 m.coils.length q1) (x1 := .slice P2 m.inputs.length q2) (x2 := .slice P3 m.holding.length q3) (x3 := .slice P4 m.words.length q4) rbE hsz6
        go_simp
        refine hK.out _ _ ?_ (fun hHeld => ?_)
        · (with_reducible first | exact KK.out _ bog bvg bug bag | exact KK.out _ bof bvf buf baf | exact KK.out _ boe bve bue bae | exact KK.out _ bod bvd bud bad)
        clear hK K
        try simp only [Act.put, List.setIfInBounds_toArray, List.set_cons_zero, List.set_cons_succ]
        refine goOne (i := 7) (by kernel_rfl) rfl (fun K hK => ?_)
        generalize ((((wE.setCell ⟨g6, 0, none⟩ (.slice P1 m.coils.length q1)).setCell ⟨g6, 1, none⟩ (.slice P2 m.inputs.length q2)).setCell ⟨g6, 2, none⟩ (.slice P3 m.holding.length q3)).setCell ⟨g6, 3, none⟩ (.slice P4 m.words.length q4)) = wF at *
        clear z0 z1 z2 z3 y0 y1 y2 y3
        obtain ⟨z0, z1, z2, z3, z4, z5⟩ := b7f.c6
        have y0 := b7f.frozen 0
        have y1 := b7f.frozen 1
        have y2 := b7f.frozen 2
        have y3 := b7f.frozen 3
        have y4 := b7f.frozen 4
        have y5 := b7f.frozen 5
        have bog := Blk.far6 (x0 := .int .u8 (R.fn : Int)) (x1 := .int .u8 (R.ex : Int)) (x2 := .slice Bw R.bits.length dw) (x3 := .slice Aw R.words.length cw) (x4 := .int .u16 (R.at_ : Int)) (x5 := .int .u16 (R.many : Int)) bof hx7
        have bvg := Blk.far6 (x0 := .int .u8 (R.fn : Int)) (x1 := .int .u8 (R.ex : Int)) (x2 := .slice Bw R.bits.length dw) (x3 := .slice Aw R.words.length cw) (x4 := .int .u16 (R.at_ : Int)) (x5 := .int .u16 (R.many : Int)) bvf hv7
        have bug := Blk.far6 (x0 := .int .u8 (R.fn : Int)) (x1 := .int .u8 (R.ex : Int)) (x2 := .slice Bw R.bits.length dw) (x3 := .slice Aw R.words.length cw) (x4 := .int .u16 (R.at_ : Int)) (x5 := .int .u16 (R.many : Int)) buf hu7
        have bag := Blk.far6 (x0 := .int .u8 (R.fn : Int)) (x1 := .int .u8 (R.ex : Int)) (x2 := .slice Bw R.bits.length dw) (x3 := .slice Aw R.words.length cw) (x4 := .int .u16 (R.at_ : Int)) (x5 := .int .u16 (R.many : Int)) baf ha7
        have b6g := Blk.far6 (x0 := .int .u8 (R.fn : Int)) (x1 := .int .u8 (R.ex : Int)) (x2 := .slice Bw R.bits.length dw) (x3 := .slice Aw R.words.length cw) (x4 := .int .u16 (R.at_ : Int)) (x5 := .int .u16 (R.many : Int)) b6f h67
        have b7g := Blk.put6 (x0 := .int .u8 (R.fn : Int)) (x1 := .int .u8 (R.ex : Int)) (x2 := .slice Bw R.bits.length dw) (x3 := .slice Aw R.words.length cw) (x4 := .int .u16 (R.at_ : Int)) (x5 := .int .u16 (R.many : Int)) b7f
        have HOg := OwnM.far6 (x0 := .int .u8 (R.fn : Int)) (x1 := .int .u8 (R.ex : Int)) (x2 := .slice Bw R.bits.length dw) (x3 := .slice Aw R.words.length cw) (x4 := .int .u16 (R.at_ : Int)) (x5 := .int .u16 (R.many : Int)) HOf h71
        have hbg := below_put6 (x0 := .int .u8 (R.fn : Int)) (x1 := .int .u8 (R.ex : Int)) (x2 := .slice Bw R.bits.length dw) (x3 := .slice Aw R.words.length cw) (x4 := .int .u16 (R.at_ : Int)) (x5 := .int .u16 (R.many : Int)) hbf hwg7
        have rwg := RdN.far6 (x0 := .int .u8 (R.fn : Int)) (x1 := .int .u8 (R.ex : Int)) (x2 := .slice Bw R.bits.length dw) (x3 := .slice Aw R.words.length cw) (x4 := .int .u16 (R.at_ : Int)) (x5 := .int .u16 (R.many : Int)) rwf hsz7
        have rbg := RdN.far6 (x0 := .int .u8 (R.fn : Int)) (x1 := .int .u8 (R.ex : Int)) (x2 := .slice Bw R.bits.length dw) (x3 := .slice Aw R.words.length cw) (x4 := .int .u16 (R.at_ : Int)) (x5 := .int .u16 (R.many : Int)) rbf hsz7
        go_simp
        refine hK.out _ _ ?_ (fun hHeld => ?_)
        · (with_reducible first | exact KK.out _ bog bvg bug bag | exact KK.out _ bof bvf buf baf | exact KK.out _ boe bve bue bae | exact KK.out _ bod bvd bud bad)
        clear hK K
        try simp only [Act.put, List.setIfInBounds_toArray, List.set_cons_zero, List.set_cons_succ]
        refine wpAnyH_done (by kernel_rfl) ?_ _
        clear z0 z1 z2 z3 z4 z5 y0 y1 y2 y3 y4 y5
        generalize ((((((wF.setCell ⟨g7, 0, none⟩ (.int .u8 (R.fn : Int))).setCell ⟨g7, 1, none⟩ (.int .u8 (R.ex : Int))).setCell ⟨g7, 2, none⟩ (.slice Bw R.bits.length dw)).setCell ⟨g7, 3, none⟩ (.slice Aw R.words.length cw)).setCell ⟨g7, 4, none⟩ (.int .u16 (R.at_ : Int))).setCell ⟨g7, 5, none⟩ (.int .u16 (R.many : Int))) = wG at *
        obtain ⟨z0, z1, z2, z3⟩ := b6g.c4
        obtain ⟨z4, z5, z6', z7, z8, z9⟩ := b7g.c6
        go_wp2_with fail
        refine bodyPost_ret (v := .tuple #[.agg #[.slice P1 m.coils.length q1, .slice P2 m.inputs.length q2, .slice P3 m.holding.length q3, .slice P4 m.words.length q4], .agg #[.int .u8 (R.fn : Int), .int .u8 (R.ex : Int), .slice Bw R.bits.length dw, .slice Aw R.words.length cw, .int .u16 (R.at_ : Int), .int .u16 (R.many : Int)]]) (by simp [results, Try.results19, go_sem, z0, z1, z2, z3, z4, z5, z6', z7, z8, z9]) rfl ?_
        rw [HDM2.out]
        refine ⟨P1, q1, P2, q2, P3, q3, P4, q4, Aw, cw, Bw, dw, ?_, HOg.rdn hKBw, HOg.cap, ⟨rwg.rd, rbg.rd⟩, fun _ => hcapE, hbg⟩
        simp only [Mm.v, Rp.v, rpV]
        rw [LN.out.1, LN.out.2.1, LN.out.2.2.1, LN.out.2.2.2]
end Go.Proofs.Ytechhidfgheejaa
