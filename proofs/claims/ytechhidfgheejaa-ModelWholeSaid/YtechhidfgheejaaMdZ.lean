/- The examples of chapter 7: saucierlaw07.awake (written by gen_mdz.py). -/
import Derived.Test.YtechhidfgheejaaMdG
import Derived.Test.YtechhidfgheejaaMdW
import Derived.RegionTactic
import Derived.Test.YtechhidfgheejaaMore
namespace Go.Proofs.Ytechhidfgheejaa
open Go.RowKit
set_option linter.unusedSimpArgs false
set_option linter.unusedVariables false

theorem Blk.rdl {w : World} {g : Nat} {t : TypeId} {cs : Array Value} {xs : List Value} (h : Blk w g t cs) (hx : xs = cs.toList) : Rd w (some ⟨g, 0, none⟩) xs :=
  .inr ⟨g, 0, rfl, fun j u hu => by rw [Nat.zero_add, h.cell]; subst hx; simpa using hu⟩
def awS : Sp := ⟨[⟨0, 10, true, false, false⟩], [], [⟨0, 4, true, false, false⟩, ⟨4, 4, false, true, true⟩], []⟩
def awM : Mm := ⟨List.replicate 10 false, [], List.replicate 8 0, []⟩
structure AwR (w : World) (g0 g1 : Nat) (A1 A3 : Option Addr) : Prop where
  s1 : Rd w (some ⟨g0, 0, none⟩) (ars awS.coils)
  s3 : Rd w (some ⟨g1, 0, none⟩) (ars awS.holding)
  m1 : Rd w A1 (os (List.replicate 10 false))
  m3 : Rd w A3 (ws (List.replicate 8 0))
theorem AwR.below {w w' : World} {g0 g1 : Nat} {A1 A3 : Option Addr} (h : AwR w g0 g1 A1 A3) (hb : Below w.heap.size w w') : AwR w' g0 g1 A1 A3 := ⟨h.s1.below hb, h.s3.below hb, h.m1.below hb, h.m3.below hb⟩
def awQ (g0 g1 : Nat) : Q8 := ⟨some ⟨g0, 0, none⟩, 1, none, 0, some ⟨g1, 0, none⟩, 2, none, 0⟩
def awP (A1 A3 : Option Addr) : Q8 := ⟨A1, 10, none, 0, A3, 8, none, 0⟩
theorem AwR.sp {w : World} {g0 g1 : Nat} {A1 A3 : Option Addr} (h : AwR w g0 g1 A1 A3) : SpR w awS (awQ g0 g1) := ⟨h.s1, .inl rfl, h.s3, .inl rfl⟩
theorem AwR.mm {w : World} {g0 g1 : Nat} {A1 A3 : Option Addr} (h : AwR w g0 g1 A1 A3) : MmR w awM (awP A1 A3).A1 (awP A1 A3).A2 (awP A1 A3).A3 (awP A1 A3).A4 := ⟨h.m1, .inl rfl, h.m3, .inl rfl⟩
theorem awS_ok : awS.ok := ⟨by intro x hx; simp [awS] at hx; subst hx; exact ⟨by decide, by decide, by decide, by decide⟩, by intro x hx; simp [awS] at hx, by intro x hx; simp [awS] at hx; rcases hx with rfl | rfl <;> exact ⟨by decide, by decide, by decide, by decide⟩, by intro x hx; simp [awS] at hx⟩
theorem awS_few : awS.few 1000000 := ⟨by decide, by decide, by decide, by decide⟩
theorem awM_few : awM.few 100000 := ⟨by decide, by decide, by decide, by decide⟩
def aw_a1 : Ak := ⟨16, 4, 4, 0, [1, 2, 3, 4], []⟩
theorem aw_a1_do : doM awS awM aw_a1 = (⟨List.replicate 10 false, [], [0, 0, 0, 0, 1, 2, 3, 4], []⟩, ⟨16, 0, [], [], 4, 4⟩) := by decide
theorem law07_a1 (g0 g1 : Nat) (A1 A3 : Option Addr) (X : Option Addr) (w : World) (h : AwR w g0 g1 A1 A3) (hX : Rd w X (ws [1, 2, 3, 4])) :
    Calls Try.prog 19 #[.agg #[.slice (some ⟨g0, 0, none⟩) 1 1, .slice none 0 0, .slice (some ⟨g1, 0, none⟩) 2 2, .slice none 0 0], .agg #[.slice A1 10 10, .slice none 0 0, .slice A3 8 8, .slice none 0 0], .agg #[.int .u8 16, .int .u16 4, .int .u16 4, .int .u16 0, .slice X 4 4, .slice none 0 0]] w fun e w' => ∃ P1 q1 P2 q2 P3 q3 P4 q4 A c B d, e = .returned (.tuple #[.agg #[.slice P1 10 q1, .slice P2 0 q2, .slice P3 8 q3, .slice P4 0 q4], .agg #[.int .u8 16, .int .u8 0, .slice B 0 d, .slice A 0 c, .int .u16 4, .int .u16 4]]) ∧ Rd w' P3 (ws ([0, 0, 0, 0, 1, 2, 3, 4])) ∧ Below w.heap.size w w' := by
  refine (md_Do awS (awQ g0 g1) awM (awP A1 A3) aw_a1 X 4 none 0 w h.sp awS_ok awS_few h.mm awM_few ⟨hX, .inl rfl⟩ ⟨by decide, by decide, by decide, by decide, by decide⟩ (by decide) (by decide)).mono ?_
  intro e w' hd
  rw [aw_a1_do] at hd
  obtain ⟨P1, q1, P2, q2, P3, q3, P4, q4, A, c, B, d, rfl, hm, -, -, -, hb⟩ := hd
  exact ⟨P1, q1, P2, q2, P3, q3, P4, q4, A, c, B, d, rfl, hm.rd.holding, hb⟩
def aw_a2 : Ak := ⟨16, 4, 2, 0, [1, 2], []⟩
theorem aw_a2_do : doM awS awM aw_a2 = (⟨List.replicate 10 false, [], List.replicate 8 0, []⟩, ⟨16, 2, [], [], 0, 0⟩) := by decide
theorem law07_a2 (g0 g1 : Nat) (A1 A3 : Option Addr) (X : Option Addr) (w : World) (h : AwR w g0 g1 A1 A3) (hX : Rd w X (ws [1, 2])) :
    Calls Try.prog 19 #[.agg #[.slice (some ⟨g0, 0, none⟩) 1 1, .slice none 0 0, .slice (some ⟨g1, 0, none⟩) 2 2, .slice none 0 0], .agg #[.slice A1 10 10, .slice none 0 0, .slice A3 8 8, .slice none 0 0], .agg #[.int .u8 16, .int .u16 4, .int .u16 2, .int .u16 0, .slice X 2 2, .slice none 0 0]] w fun e w' => ∃ P1 q1 P2 q2 P3 q3 P4 q4 A c B d, e = .returned (.tuple #[.agg #[.slice P1 10 q1, .slice P2 0 q2, .slice P3 8 q3, .slice P4 0 q4], .agg #[.int .u8 16, .int .u8 2, .slice B 0 d, .slice A 0 c, .int .u16 0, .int .u16 0]]) ∧ Rd w' P3 (ws (List.replicate 8 0)) ∧ Below w.heap.size w w' := by
  refine (md_Do awS (awQ g0 g1) awM (awP A1 A3) aw_a2 X 2 none 0 w h.sp awS_ok awS_few h.mm awM_few ⟨hX, .inl rfl⟩ ⟨by decide, by decide, by decide, by decide, by decide⟩ (by decide) (by decide)).mono ?_
  intro e w' hd
  rw [aw_a2_do] at hd
  obtain ⟨P1, q1, P2, q2, P3, q3, P4, q4, A, c, B, d, rfl, hm, -, -, -, hb⟩ := hd
  exact ⟨P1, q1, P2, q2, P3, q3, P4, q4, A, c, B, d, rfl, hm.rd.holding, hb⟩
def aw_a3 : Ak := ⟨3, 2, 4, 0, [], []⟩
theorem aw_a3_do : doM awS awM aw_a3 = (⟨List.replicate 10 false, [], List.replicate 8 0, []⟩, ⟨3, 2, [], [], 0, 0⟩) := by decide
theorem law07_a3 (g0 g1 : Nat) (A1 A3 : Option Addr) (w : World) (h : AwR w g0 g1 A1 A3)  :
    Calls Try.prog 19 #[.agg #[.slice (some ⟨g0, 0, none⟩) 1 1, .slice none 0 0, .slice (some ⟨g1, 0, none⟩) 2 2, .slice none 0 0], .agg #[.slice A1 10 10, .slice none 0 0, .slice A3 8 8, .slice none 0 0], .agg #[.int .u8 3, .int .u16 2, .int .u16 4, .int .u16 0, .slice none 0 0, .slice none 0 0]] w fun e w' => ∃ P1 q1 P2 q2 P3 q3 P4 q4 A c B d, e = .returned (.tuple #[.agg #[.slice P1 10 q1, .slice P2 0 q2, .slice P3 8 q3, .slice P4 0 q4], .agg #[.int .u8 3, .int .u8 2, .slice B 0 d, .slice A 0 c, .int .u16 0, .int .u16 0]]) ∧ Rd w' P3 (ws (List.replicate 8 0)) ∧ Below w.heap.size w w' := by
  refine (md_Do awS (awQ g0 g1) awM (awP A1 A3) aw_a3 none 0 none 0 w h.sp awS_ok awS_few h.mm awM_few ⟨.inl rfl, .inl rfl⟩ ⟨by decide, by decide, by decide, by decide, by decide⟩ (by decide) (by decide)).mono ?_
  intro e w' hd
  rw [aw_a3_do] at hd
  obtain ⟨P1, q1, P2, q2, P3, q3, P4, q4, A, c, B, d, rfl, hm, -, -, -, hb⟩ := hd
  exact ⟨P1, q1, P2, q2, P3, q3, P4, q4, A, c, B, d, rfl, hm.rd.holding, hb⟩
def aw_a4 : Ak := ⟨1, 0, 10, 0, [], []⟩
theorem aw_a4_do : doM awS awM aw_a4 = (⟨List.replicate 10 false, [], List.replicate 8 0, []⟩, ⟨1, 0, List.replicate 16 false, [], 0, 0⟩) := by decide
theorem law07_a4 (g0 g1 : Nat) (A1 A3 : Option Addr) (w : World) (h : AwR w g0 g1 A1 A3)  :
    Calls Try.prog 19 #[.agg #[.slice (some ⟨g0, 0, none⟩) 1 1, .slice none 0 0, .slice (some ⟨g1, 0, none⟩) 2 2, .slice none 0 0], .agg #[.slice A1 10 10, .slice none 0 0, .slice A3 8 8, .slice none 0 0], .agg #[.int .u8 1, .int .u16 0, .int .u16 10, .int .u16 0, .slice none 0 0, .slice none 0 0]] w fun e w' => ∃ P1 q1 P2 q2 P3 q3 P4 q4 A c B d, e = .returned (.tuple #[.agg #[.slice P1 10 q1, .slice P2 0 q2, .slice P3 8 q3, .slice P4 0 q4], .agg #[.int .u8 1, .int .u8 0, .slice B 16 d, .slice A 0 c, .int .u16 0, .int .u16 0]]) ∧ Rd w' P3 (ws (List.replicate 8 0)) ∧ Below w.heap.size w w' := by
  refine (md_Do awS (awQ g0 g1) awM (awP A1 A3) aw_a4 none 0 none 0 w h.sp awS_ok awS_few h.mm awM_few ⟨.inl rfl, .inl rfl⟩ ⟨by decide, by decide, by decide, by decide, by decide⟩ (by decide) (by decide)).mono ?_
  intro e w' hd
  rw [aw_a4_do] at hd
  obtain ⟨P1, q1, P2, q2, P3, q3, P4, q4, A, c, B, d, rfl, hm, -, -, -, hb⟩ := hd
  exact ⟨P1, q1, P2, q2, P3, q3, P4, q4, A, c, B, d, rfl, hm.rd.holding, hb⟩
theorem aw_right : rightSM awS awM = true := by decide
set_option maxRecDepth 100000 in
set_option maxHeartbeats 2000000 in
theorem law07_awake (w : World) :
    Calls Try.prog 12 #[] w fun e w' => e = .returned (.bool true) ∧ Below w.heap.size w w' := by
  have hbs : Below w.heap.size w (((w.alloc (.cells #[.int .i64 0, .int .i64 10, .bool true, .bool false, .bool false] 66)).alloc (.cells #[.int .i64 0, .int .i64 4, .bool true, .bool false, .bool false, .int .i64 4, .int .i64 4, .bool false, .bool true, .bool true] 66)).alloc (.cells #[.slice (some ⟨w.heap.size, 0, none⟩) 1 1, .slice none 0 0, .slice (some ⟨w.heap.size + 1, 0, none⟩) 2 2, .slice none 0 0] 24)) := (bx_space w _ _).alloc (by simp; omega) _
  have b0 := ((Blk.new w 66 #[.int .i64 0, .int .i64 10, .bool true, .bool false, .bool false]).alloc (.cells #[.int .i64 0, .int .i64 4, .bool true, .bool false, .bool false, .int .i64 4, .int .i64 4, .bool false, .bool true, .bool true] 66)).alloc (.cells #[.slice (some ⟨w.heap.size, 0, none⟩) 1 1, .slice none 0 0, .slice (some ⟨w.heap.size + 1, 0, none⟩) 2 2, .slice none 0 0] 24)
  have b1 := (Blk.newAt (w.alloc (.cells #[.int .i64 0, .int .i64 10, .bool true, .bool false, .bool false] 66)) 66 #[.int .i64 0, .int .i64 4, .bool true, .bool false, .bool false, .int .i64 4, .int .i64 4, .bool false, .bool true, .bool true] (w.heap.size + 1) (World.size_alloc _ _)).alloc (.cells #[.slice (some ⟨w.heap.size, 0, none⟩) 1 1, .slice none 0 0, .slice (some ⟨w.heap.size + 1, 0, none⟩) 2 2, .slice none 0 0] 24)
  have bs := Blk.newAt ((w.alloc (.cells #[.int .i64 0, .int .i64 10, .bool true, .bool false, .bool false] 66)).alloc (.cells #[.int .i64 0, .int .i64 4, .bool true, .bool false, .bool false, .int .i64 4, .int .i64 4, .bool false, .bool true, .bool true] 66)) 24 #[.slice (some ⟨w.heap.size, 0, none⟩) 1 1, .slice none 0 0, .slice (some ⟨w.heap.size + 1, 0, none⟩) 2 2, .slice none 0 0] (w.heap.size + 1 + 1) (by simp [World.size_alloc])
  have s1 : Rd (((w.alloc (.cells #[.int .i64 0, .int .i64 10, .bool true, .bool false, .bool false] 66)).alloc (.cells #[.int .i64 0, .int .i64 4, .bool true, .bool false, .bool false, .int .i64 4, .int .i64 4, .bool false, .bool true, .bool true] 66)).alloc (.cells #[.slice (some ⟨w.heap.size, 0, none⟩) 1 1, .slice none 0 0, .slice (some ⟨w.heap.size + 1, 0, none⟩) 2 2, .slice none 0 0] 24)) (some ⟨w.heap.size, 0, none⟩) (ars awS.coils) := b0.rdl rfl
  have s3 : Rd (((w.alloc (.cells #[.int .i64 0, .int .i64 10, .bool true, .bool false, .bool false] 66)).alloc (.cells #[.int .i64 0, .int .i64 4, .bool true, .bool false, .bool false, .int .i64 4, .int .i64 4, .bool false, .bool true, .bool true] 66)).alloc (.cells #[.slice (some ⟨w.heap.size, 0, none⟩) 1 1, .slice none 0 0, .slice (some ⟨w.heap.size + 1, 0, none⟩) 2 2, .slice none 0 0] 24)) (some ⟨w.heap.size + 1, 0, none⟩) (ars awS.holding) := b1.rdl rfl
  have hmk1 : ∀ W : World, (Instr.makeSlice 25 (.int .i64 10) (.int .i64 10)).run Try.prog W = .ok (.slice (some ⟨W.heap.size, 0, none⟩) 10 10) (W.alloc (.cells #[.bool false, .bool false, .bool false, .bool false, .bool false, .bool false, .bool false, .bool false, .bool false, .bool false] 4)) := fun _ => by kernel_rfl
  have hmk2 : ∀ W : World, (Instr.makeSlice 26 (.int .i64 8) (.int .i64 8)).run Try.prog W = .ok (.slice (some ⟨W.heap.size, 0, none⟩) 8 8) (W.alloc (.cells #[.int .u16 0, .int .u16 0, .int .u16 0, .int .u16 0, .int .u16 0, .int .u16 0, .int .u16 0, .int .u16 0] 34)) := fun _ => by kernel_rfl
  go_enter Try.func12, Try.ntmps12
  go_upto_region 2 with fail
  clear b0 b1
  obtain ⟨g0, hg0⟩ : ∃ g, w.heap.size = g := ⟨_, rfl⟩
  obtain ⟨g1, hg1⟩ : ∃ g, w.heap.size + 1 = g := ⟨_, rfl⟩
  rw [hg1] at bs s1 s3 hbs ⊢
  obtain ⟨gs, hgs⟩ : ∃ g, g1 + 1 = g := ⟨_, rfl⟩
  rw [hgs] at bs ⊢
  rw [hg0] at bs s1 s3 hbs ⊢
  generalize ((w.alloc (.cells #[.int .i64 0, .int .i64 10, .bool true, .bool false, .bool false] 66)).alloc (.cells #[.int .i64 0, .int .i64 4, .bool true, .bool false, .bool false, .int .i64 4, .int .i64 4, .bool false, .bool true, .bool true] 66)).alloc (.cells #[.slice (some ⟨g0, 0, none⟩) 1 1, .slice none 0 0, .slice (some ⟨g1, 0, none⟩) 2 2, .slice none 0 0] 24) = w2 at *
  have hb : Below w.heap.size w w2 := by rw [hg0]; exact hbs
  clear hg0 hg1 hgs hbs
  go_cut [2] (fun v wc => ∃ A1 A3 gm, v = .pointer (some ⟨gm, 0, none⟩) ∧ Blk wc gm 28 #[.slice A1 10 10, .slice none 0 0, .slice A3 8 8, .slice none 0 0] ∧ Rd wc A1 (os (List.replicate 10 false)) ∧ Rd wc A3 (ws (List.replicate 8 0)) ∧ Below w2.heap.size w2 wc)
  case first =>
    go_region
    all_goals
      go_wp2_with fail
      go_meet
      refine ⟨?_, ?_, ?_, ?_, ?_, ?_, ?_, ?_⟩
      rotate_left 3
      · rfl
      · refine Blk.drew ?_
        first | exact ((Blk.new w2 _ _).alloc _).alloc _ | exact (Blk.newAt _ _ _ _ (World.size_alloc _ _)).alloc _ | (refine Blk.newAt _ _ _ _ ?_; (try simp only [World.size_alloc]))
      · refine Rd.drew (Blk.rdl (t := 4) (cs := #[.bool false, .bool false, .bool false, .bool false, .bool false, .bool false, .bool false, .bool false, .bool false, .bool false]) ?_ rfl)
        first | exact ((Blk.new w2 _ _).alloc _).alloc _ | exact (Blk.newAt _ _ _ _ (World.size_alloc _ _)).alloc _ | (refine Blk.newAt _ _ _ _ ?_; (try simp only [World.size_alloc]))
      · refine Rd.drew (Blk.rdl (t := 34) (cs := #[.int .u16 0, .int .u16 0, .int .u16 0, .int .u16 0, .int .u16 0, .int .u16 0, .int .u16 0, .int .u16 0]) ?_ rfl)
        first | exact ((Blk.new w2 _ _).alloc _).alloc _ | exact (Blk.newAt _ _ _ _ (World.size_alloc _ _)).alloc _ | (refine Blk.newAt _ _ _ _ ?_; (try simp only [World.size_alloc]))
      · exact Below.drew ((((Below.refl _ _).alloc (Nat.le_refl _) _).alloc (by simp) _).alloc (by simp; omega) _)
  case rest =>
    obtain ⟨A1, A3, gm, rfl, bm, m1, m3, hs⟩ := hcut
    have HA : AwR wc g0 g1 A1 A3 := ⟨s1.below hs, s3.below hs, m1, m3⟩
    replace hb := bthen hb hs
    replace bs := bs.all hs
    clear hs s1 s3 m1 m3 hmk1 hmk2
    generalize hwz : wc = w3 at *
    clear hwz
    obtain ⟨s0, s1, s2, s3⟩ := bs.c4
    obtain ⟨m0, m1, m2, m3⟩ := bm.c4
    have hsx := (Below.refl w3.heap.size w3).alloc (Nat.le_refl _) (.cells #[.int .u16 1, .int .u16 2, .int .u16 3, .int .u16 4] 34)
    have bx := Blk.new w3 34 #[.int .u16 1, .int .u16 2, .int .u16 3, .int .u16 4]
    go_wp2_with fail
    generalize w3.alloc (.cells #[.int .u16 1, .int .u16 2, .int .u16 3, .int .u16 4] 34) = w4 at *
    obtain ⟨gx, hgx⟩ : ∃ g, w3.heap.size = g := ⟨_, rfl⟩
    rw [hgx] at bx
    (try rw [hgx])
    clear hgx
    clear s0 s1 s2 s3
    clear m0 m1 m2 m3
    replace bs := bs.all hsx
    replace bm := bm.all hsx
    replace HA := HA.below hsx
    replace hb := bthen hb hsx
    clear hsx
    obtain ⟨s0, s1, s2, s3⟩ := bs.c4
    obtain ⟨m0, m1, m2, m3⟩ := bm.c4
    have E := law07_a1 g0 g1 A1 A3 (some ⟨gx, 0, none⟩) w4 HA (bx.rdl rfl)
    refine E.mono ?_
    rintro e w5 ⟨P01, p01, P02, p02, P03, p03, P04, p04, Q0, j0, T0, i0, rfl, hold0, hs⟩
    clear s0 s1 s2 s3
    clear m0 m1 m2 m3
    replace bs := bs.all hs
    replace bm := bm.all hs
    replace HA := HA.below hs
    replace hb := bthen hb hs
    clear hs
    obtain ⟨s0, s1, s2, s3⟩ := bs.c4
    obtain ⟨m0, m1, m2, m3⟩ := bm.c4
    clear E bx
    have hs := bx_space w5 (.cells #[.slice P01 10 p01, .slice P02 0 p02, .slice P03 8 p03, .slice P04 0 p04] 28) (.cells #[.int .u8 16, .int .u8 0, .slice T0 0 i0, .slice Q0 0 j0, .int .u16 4, .int .u16 4] 36)
    have bn0 := (Blk.new w5 28 #[.slice P01 10 p01, .slice P02 0 p02, .slice P03 8 p03, .slice P04 0 p04]).alloc (.cells #[.int .u8 16, .int .u8 0, .slice T0 0 i0, .slice Q0 0 j0, .int .u16 4, .int .u16 4] 36)
    have br0 := Blk.newAt (w5.alloc (.cells #[.slice P01 10 p01, .slice P02 0 p02, .slice P03 8 p03, .slice P04 0 p04] 28)) 36 #[.int .u8 16, .int .u8 0, .slice T0 0 i0, .slice Q0 0 j0, .int .u16 4, .int .u16 4] (w5.heap.size + 1) (World.size_alloc _ _)
    go_upto_region 4 with fail
    generalize (w5.alloc (.cells #[.slice P01 10 p01, .slice P02 0 p02, .slice P03 8 p03, .slice P04 0 p04] 28)).alloc (.cells #[.int .u8 16, .int .u8 0, .slice T0 0 i0, .slice Q0 0 j0, .int .u16 4, .int .u16 4] 36) = w6 at *
    obtain ⟨gn0, hgn⟩ : ∃ g, w5.heap.size = g := ⟨_, rfl⟩
    obtain ⟨gr0, hgr⟩ : ∃ g, w5.heap.size + 1 = g := ⟨_, rfl⟩
    (try rw [hgr] at br0 ⊢)
    (try rw [hgr])
    rw [hgn] at bn0
    (try rw [hgn])
    replace hold0 := hold0.below hs
    clear hgn hgr
    clear s0 s1 s2 s3
    clear m0 m1 m2 m3
    replace bs := bs.all hs
    replace bm := bm.all hs
    replace HA := HA.below hs
    replace hb := bthen hb hs
    clear hs
    obtain ⟨s0, s1, s2, s3⟩ := bs.c4
    obtain ⟨m0, m1, m2, m3⟩ := bm.c4
    have hsx := (Below.refl w6.heap.size w6).alloc (Nat.le_refl _) (.cells #[.int .u16 1, .int .u16 2] 34)
    have bx := Blk.new w6 34 #[.int .u16 1, .int .u16 2]
    go_wp2_with fail
    generalize w6.alloc (.cells #[.int .u16 1, .int .u16 2] 34) = w7 at *
    obtain ⟨gx, hgx⟩ : ∃ g, w6.heap.size = g := ⟨_, rfl⟩
    rw [hgx] at bx
    (try rw [hgx])
    clear hgx
    clear s0 s1 s2 s3
    clear m0 m1 m2 m3
    replace bs := bs.all hsx
    replace bm := bm.all hsx
    replace HA := HA.below hsx
    replace bn0 := bn0.all hsx
    replace hold0 := hold0.below hsx
    replace br0 := br0.all hsx
    replace hb := bthen hb hsx
    clear hsx
    obtain ⟨s0, s1, s2, s3⟩ := bs.c4
    obtain ⟨m0, m1, m2, m3⟩ := bm.c4
    have E := law07_a2 g0 g1 A1 A3 (some ⟨gx, 0, none⟩) w7 HA (bx.rdl rfl)
    refine E.mono ?_
    rintro e w8 ⟨P11, p11, P12, p12, P13, p13, P14, p14, Q1, j1, T1, i1, rfl, hold1, hs⟩
    clear s0 s1 s2 s3
    clear m0 m1 m2 m3
    replace bs := bs.all hs
    replace bm := bm.all hs
    replace HA := HA.below hs
    replace bn0 := bn0.all hs
    replace hold0 := hold0.below hs
    replace br0 := br0.all hs
    replace hb := bthen hb hs
    clear hs
    obtain ⟨s0, s1, s2, s3⟩ := bs.c4
    obtain ⟨m0, m1, m2, m3⟩ := bm.c4
    clear E bx
    have hs := bx_space w8 (.cells #[.slice P11 10 p11, .slice P12 0 p12, .slice P13 8 p13, .slice P14 0 p14] 28) (.cells #[.int .u8 16, .int .u8 2, .slice T1 0 i1, .slice Q1 0 j1, .int .u16 0, .int .u16 0] 36)
    have bn1 := (Blk.new w8 28 #[.slice P11 10 p11, .slice P12 0 p12, .slice P13 8 p13, .slice P14 0 p14]).alloc (.cells #[.int .u8 16, .int .u8 2, .slice T1 0 i1, .slice Q1 0 j1, .int .u16 0, .int .u16 0] 36)
    have br1 := Blk.newAt (w8.alloc (.cells #[.slice P11 10 p11, .slice P12 0 p12, .slice P13 8 p13, .slice P14 0 p14] 28)) 36 #[.int .u8 16, .int .u8 2, .slice T1 0 i1, .slice Q1 0 j1, .int .u16 0, .int .u16 0] (w8.heap.size + 1) (World.size_alloc _ _)
    go_upto_region 5 with fail
    generalize (w8.alloc (.cells #[.slice P11 10 p11, .slice P12 0 p12, .slice P13 8 p13, .slice P14 0 p14] 28)).alloc (.cells #[.int .u8 16, .int .u8 2, .slice T1 0 i1, .slice Q1 0 j1, .int .u16 0, .int .u16 0] 36) = w9 at *
    obtain ⟨gn1, hgn⟩ : ∃ g, w8.heap.size = g := ⟨_, rfl⟩
    obtain ⟨gr1, hgr⟩ : ∃ g, w8.heap.size + 1 = g := ⟨_, rfl⟩
    (try rw [hgr] at br1 ⊢)
    (try rw [hgr])
    rw [hgn] at bn1
    (try rw [hgn])
    replace hold1 := hold1.below hs
    clear hgn hgr
    clear s0 s1 s2 s3
    clear m0 m1 m2 m3
    replace bs := bs.all hs
    replace bm := bm.all hs
    replace HA := HA.below hs
    replace bn0 := bn0.all hs
    replace hold0 := hold0.below hs
    replace br0 := br0.all hs
    replace hb := bthen hb hs
    clear hs
    obtain ⟨s0, s1, s2, s3⟩ := bs.c4
    obtain ⟨m0, m1, m2, m3⟩ := bm.c4
    clear bn1 hold1
    go_wp2_with fail
    have E := law07_a3 g0 g1 A1 A3 w9 HA
    refine E.mono ?_
    rintro e w10 ⟨P21, p21, P22, p22, P23, p23, P24, p24, Q2, j2, T2, i2, rfl, hold2, hs⟩
    clear s0 s1 s2 s3
    clear m0 m1 m2 m3
    replace bs := bs.all hs
    replace bm := bm.all hs
    replace HA := HA.below hs
    replace bn0 := bn0.all hs
    replace hold0 := hold0.below hs
    replace br0 := br0.all hs
    replace br1 := br1.all hs
    replace hb := bthen hb hs
    clear hs
    obtain ⟨s0, s1, s2, s3⟩ := bs.c4
    obtain ⟨m0, m1, m2, m3⟩ := bm.c4
    clear E
    have hs := bx_space w10 (.cells #[.slice P21 10 p21, .slice P22 0 p22, .slice P23 8 p23, .slice P24 0 p24] 28) (.cells #[.int .u8 3, .int .u8 2, .slice T2 0 i2, .slice Q2 0 j2, .int .u16 0, .int .u16 0] 36)
    have bn2 := (Blk.new w10 28 #[.slice P21 10 p21, .slice P22 0 p22, .slice P23 8 p23, .slice P24 0 p24]).alloc (.cells #[.int .u8 3, .int .u8 2, .slice T2 0 i2, .slice Q2 0 j2, .int .u16 0, .int .u16 0] 36)
    have br2 := Blk.newAt (w10.alloc (.cells #[.slice P21 10 p21, .slice P22 0 p22, .slice P23 8 p23, .slice P24 0 p24] 28)) 36 #[.int .u8 3, .int .u8 2, .slice T2 0 i2, .slice Q2 0 j2, .int .u16 0, .int .u16 0] (w10.heap.size + 1) (World.size_alloc _ _)
    go_upto_region 6 with fail
    generalize (w10.alloc (.cells #[.slice P21 10 p21, .slice P22 0 p22, .slice P23 8 p23, .slice P24 0 p24] 28)).alloc (.cells #[.int .u8 3, .int .u8 2, .slice T2 0 i2, .slice Q2 0 j2, .int .u16 0, .int .u16 0] 36) = w11 at *
    obtain ⟨gn2, hgn⟩ : ∃ g, w10.heap.size = g := ⟨_, rfl⟩
    obtain ⟨gr2, hgr⟩ : ∃ g, w10.heap.size + 1 = g := ⟨_, rfl⟩
    (try rw [hgr] at br2 ⊢)
    (try rw [hgr])
    rw [hgn] at bn2
    (try rw [hgn])
    replace hold2 := hold2.below hs
    clear hgn hgr
    clear s0 s1 s2 s3
    clear m0 m1 m2 m3
    replace bs := bs.all hs
    replace bm := bm.all hs
    replace HA := HA.below hs
    replace bn0 := bn0.all hs
    replace hold0 := hold0.below hs
    replace br0 := br0.all hs
    replace br1 := br1.all hs
    replace hb := bthen hb hs
    clear hs
    obtain ⟨s0, s1, s2, s3⟩ := bs.c4
    obtain ⟨m0, m1, m2, m3⟩ := bm.c4
    clear bn2 hold2
    go_wp2_with fail
    have E := law07_a4 g0 g1 A1 A3 w11 HA
    refine E.mono ?_
    rintro e w12 ⟨P31, p31, P32, p32, P33, p33, P34, p34, Q3, j3, T3, i3, rfl, hold3, hs⟩
    clear s0 s1 s2 s3
    clear m0 m1 m2 m3
    replace bs := bs.all hs
    replace bm := bm.all hs
    replace HA := HA.below hs
    replace bn0 := bn0.all hs
    replace hold0 := hold0.below hs
    replace br0 := br0.all hs
    replace br1 := br1.all hs
    replace br2 := br2.all hs
    replace hb := bthen hb hs
    clear hs
    obtain ⟨s0, s1, s2, s3⟩ := bs.c4
    obtain ⟨m0, m1, m2, m3⟩ := bm.c4
    clear E
    have hs := bx_space w12 (.cells #[.slice P31 10 p31, .slice P32 0 p32, .slice P33 8 p33, .slice P34 0 p34] 28) (.cells #[.int .u8 1, .int .u8 0, .slice T3 16 i3, .slice Q3 0 j3, .int .u16 0, .int .u16 0] 36)
    have bn3 := (Blk.new w12 28 #[.slice P31 10 p31, .slice P32 0 p32, .slice P33 8 p33, .slice P34 0 p34]).alloc (.cells #[.int .u8 1, .int .u8 0, .slice T3 16 i3, .slice Q3 0 j3, .int .u16 0, .int .u16 0] 36)
    have br3 := Blk.newAt (w12.alloc (.cells #[.slice P31 10 p31, .slice P32 0 p32, .slice P33 8 p33, .slice P34 0 p34] 28)) 36 #[.int .u8 1, .int .u8 0, .slice T3 16 i3, .slice Q3 0 j3, .int .u16 0, .int .u16 0] (w12.heap.size + 1) (World.size_alloc _ _)
    go_upto_region 7 with fail
    generalize (w12.alloc (.cells #[.slice P31 10 p31, .slice P32 0 p32, .slice P33 8 p33, .slice P34 0 p34] 28)).alloc (.cells #[.int .u8 1, .int .u8 0, .slice T3 16 i3, .slice Q3 0 j3, .int .u16 0, .int .u16 0] 36) = w13 at *
    obtain ⟨gn3, hgn⟩ : ∃ g, w12.heap.size = g := ⟨_, rfl⟩
    obtain ⟨gr3, hgr⟩ : ∃ g, w12.heap.size + 1 = g := ⟨_, rfl⟩
    (try rw [hgr] at br3 ⊢)
    (try rw [hgr])
    rw [hgn] at bn3
    (try rw [hgn])
    replace hold3 := hold3.below hs
    clear hgn hgr
    clear s0 s1 s2 s3
    clear m0 m1 m2 m3
    replace bs := bs.all hs
    replace bm := bm.all hs
    replace HA := HA.below hs
    replace bn0 := bn0.all hs
    replace hold0 := hold0.below hs
    replace br0 := br0.all hs
    replace br1 := br1.all hs
    replace br2 := br2.all hs
    replace hb := bthen hb hs
    clear hs
    obtain ⟨s0, s1, s2, s3⟩ := bs.c4
    obtain ⟨m0, m1, m2, m3⟩ := bm.c4
    clear bn3 hold3
    have ER := md_Right awS (awQ g0 g1) awM (awP A1 A3) w13 HA.sp awS_ok awS_few
    rw [aw_right] at ER
    go_wp2_with fail
    refine ER.mono ?_
    rintro e w14 ⟨rfl, hs⟩
    clear ER
    clear s0 s1 s2 s3
    clear m0 m1 m2 m3
    replace bs := bs.all hs
    replace bm := bm.all hs
    replace HA := HA.below hs
    replace bn0 := bn0.all hs
    replace hold0 := hold0.below hs
    replace br0 := br0.all hs
    replace br1 := br1.all hs
    replace br2 := br2.all hs
    replace br3 := br3.all hs
    replace hb := bthen hb hs
    clear hs
    obtain ⟨s0, s1, s2, s3⟩ := bs.c4
    obtain ⟨m0, m1, m2, m3⟩ := bm.c4
    clear s0 s1 s2 s3
    clear m0 m1 m2 m3
    obtain ⟨bh, hoff, hx7, hhA, hh7, ch7⟩ := hold0.word (k := 7) (by simp)
    obtain rfl : hx7 = 4 := by simpa using hh7.symm
    subst hhA
    clear hh7
    have n2 := bn0.cell 2
    have r00 := br0.cell 0
    have r01 := br0.cell 1
    have r02 := br0.cell 2
    have r03 := br0.cell 3
    have r04 := br0.cell 4
    have r05 := br0.cell 5
    have r10 := br1.cell 0
    have r11 := br1.cell 1
    have r12 := br1.cell 2
    have r13 := br1.cell 3
    have r14 := br1.cell 4
    have r15 := br1.cell 5
    have r20 := br2.cell 0
    have r21 := br2.cell 1
    have r22 := br2.cell 2
    have r23 := br2.cell 3
    have r24 := br2.cell 4
    have r25 := br2.cell 5
    have r30 := br3.cell 0
    have r31 := br3.cell 1
    have r32 := br3.cell 2
    have r33 := br3.cell 3
    have r34 := br3.cell 4
    have r35 := br3.cell 5
    have ES := Lib.hid (fun (W : World) => reply_Same ⟨16, 0, [], [], 4, 4⟩ ⟨16, 0, [], [], 4, 4⟩ Q0 j0 T0 i0 none 0 none 0 W ⟨.inl rfl, .inl rfl⟩ ⟨.inl rfl, .inl rfl⟩ (by simp) (by simp))
    rw [show sameR ⟨16, 0, [], [], 4, 4⟩ ⟨16, 0, [], [], 4, 4⟩ = true from by decide] at ES
    simp only [Rp.v, rpV, List.length_nil, Int.cast_ofNat_Int, Int.natCast_zero] at ES
    go_wp2_with fail
    refine (ES.out _).mono ?_
    rintro e w15 ⟨rfl, hs⟩
    clear n2 ch7 r00 r01 r02 r03 r04 r05 r10 r11 r12 r13 r14 r15 r20 r21 r22 r23 r24 r25 r30 r31 r32 r33 r34 r35
    clear ES
    clear hold0
    replace bs := bs.all hs
    replace bm := bm.all hs
    replace HA := HA.below hs
    replace bn0 := bn0.all hs
    replace br0 := br0.all hs
    replace br1 := br1.all hs
    replace br2 := br2.all hs
    replace br3 := br3.all hs
    replace hb := bthen hb hs
    clear hs
    have r10 := br1.cell 0
    have r11 := br1.cell 1
    have r12 := br1.cell 2
    have r13 := br1.cell 3
    have r14 := br1.cell 4
    have r15 := br1.cell 5
    have r20 := br2.cell 0
    have r21 := br2.cell 1
    have r22 := br2.cell 2
    have r23 := br2.cell 3
    have r24 := br2.cell 4
    have r25 := br2.cell 5
    have r30 := br3.cell 0
    have r31 := br3.cell 1
    have r32 := br3.cell 2
    have r33 := br3.cell 3
    have r34 := br3.cell 4
    have r35 := br3.cell 5
    go_wp2_with fail
    go_ret
    exact ⟨rfl, hb⟩
end Go.Proofs.Ytechhidfgheejaa
