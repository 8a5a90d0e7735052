/- Memories as values; the walk of model.own (written by gen_mdo.py). -/
import Derived.Test.YtechhidfgheejaaMdD
import Derived.Test.YtechhidfgheejaaRegion
import Derived.Test.YtechhidfgheejaaRpF
namespace Go.Proofs.Ytechhidfgheejaa
open Go.RowKit
set_option linter.unusedSimpArgs false
set_option linter.unusedVariables false

/-- a memory's value, by its slices' addresses and capacities -/
def Mm.v (m : Mm) (A1 : Option Addr) (c1 : Nat) (A2 : Option Addr) (c2 : Nat) (A3 : Option Addr) (c3 : Nat) (A4 : Option Addr) (c4 : Nat) : Value := .agg #[.slice A1 m.coils.length c1, .slice A2 m.inputs.length c2, .slice A3 m.holding.length c3, .slice A4 m.words.length c4]
structure MmR (w : World) (m : Mm) (A1 A2 A3 A4 : Option Addr) : Prop where
  coils : Rd w A1 (os m.coils)
  inputs : Rd w A2 (os m.inputs)
  holding : Rd w A3 (ws m.holding)
  words : Rd w A4 (ws m.words)
theorem MmR.below {w w' : World} {m : Mm} {A1 A2 A3 A4 : Option Addr} (h : MmR w m A1 A2 A3 A4) (hb : Below w.heap.size w w') : MmR w' m A1 A2 A3 A4 := ⟨h.coils.below hb, h.inputs.below hb, h.holding.below hb, h.words.below hb⟩
/-- no more than so many of each -/
structure Mm.few (m : Mm) (k : Nat) : Prop where
  coils : m.coils.length ≤ k
  inputs : m.inputs.length ≤ k
  holding : m.holding.length ≤ k
  words : m.words.length ≤ k
/-- capacities as they should be -/
structure Mm.cap (m : Mm) (c1 c2 c3 c4 : Nat) : Prop where
  coils : m.coils.length ≤ c1
  inputs : m.inputs.length ≤ c2
  holding : m.holding.length ≤ c3
  words : m.words.length ≤ c4
/-- a memory in rows of the call's own, one behind the other -/
structure OwnM (w : World) (B : Nat) (m : Mm) (A1 : Option Addr) (c1 : Nat) (A2 : Option Addr) (c2 : Nat) (A3 : Option Addr) (c3 : Nat) (A4 : Option Addr) (c4 : Nat) (k1 k2 k3 : Nat) : Prop where
  o1 : Ow w B 4 A1 c1 (os m.coils)
  o2 : Ow w k1 4 A2 c2 (os m.inputs)
  o3 : Ow w k2 34 A3 c3 (ws m.holding)
  o4 : Ow w k3 34 A4 c4 (ws m.words)
  l1 : ∀ g, A1.map (·.block) = some g → g < k1
  l2 : ∀ g, A2.map (·.block) = some g → g < k2
  l3 : ∀ g, A3.map (·.block) = some g → g < k3
  b1 : B ≤ k1
  k12 : k1 ≤ k2
  k23 : k2 ≤ k3
theorem Ow.under {w : World} {B : Nat} {e : TypeId} {A : Option Addr} {c : Nat} {xs : List Value} (h : Ow w B e A c xs) : ∀ g, A.map (·.block) = some g → B ≤ g ∧ g < w.heap.size := by
  intro g hg
  refine h.block ?_
  cases A with
  | none => cases hg
  | some a => simpa [Value.ownBlock] using hg
section
variable {w w' : World} {B : Nat} {m : Mm} {A1 A2 A3 A4 : Option Addr} {c1 c2 c3 c4 k1 k2 k3 : Nat}
theorem OwnM.below (h : OwnM w B m A1 c1 A2 c2 A3 c3 A4 c4 k1 k2 k3) (hb : Below w.heap.size w w') : OwnM w' B m A1 c1 A2 c2 A3 c3 A4 c4 k1 k2 k3 :=
  ⟨h.o1.below hb, h.o2.below hb, h.o3.below hb, h.o4.below hb, h.l1, h.l2, h.l3, h.b1, h.k12, h.k23⟩
theorem OwnM.rd (h : OwnM w B m A1 c1 A2 c2 A3 c3 A4 c4 k1 k2 k3) : MmR w m A1 A2 A3 A4 := ⟨h.o1.rd, h.o2.rd, h.o3.rd, h.o4.rd⟩
theorem OwnM.cap (h : OwnM w B m A1 c1 A2 c2 A3 c3 A4 c4 k1 k2 k3) : m.cap c1 c2 c3 c4 := ⟨by simpa [os] using h.o1.le.1, by simpa [os] using h.o2.le.1, by simpa [ws] using h.o3.le.1, by simpa [ws] using h.o4.le.1⟩
theorem OwnM.far {N : Nat} (h : OwnM w B m A1 c1 A2 c2 A3 c3 A4 c4 k1 k2 k3) (hN : N < B) (j : Nat) (u : Value) : OwnM (w.setCell ⟨N, j, none⟩ u) B m A1 c1 A2 c2 A3 c3 A4 c4 k1 k2 k3 :=
  ⟨h.o1.far hN j u, h.o2.far (by have := h.b1; omega) j u, h.o3.far (by have := h.b1; have := h.k12; omega) j u, h.o4.far (by have := h.b1; have := h.k12; have := h.k23; omega) j u, h.l1, h.l2, h.l3, h.b1, h.k12, h.k23⟩
end
set_option maxRecDepth 100000 in
set_option maxHeartbeats 4000000 in
theorem md_own (m : Mm) (A1 : Option Addr) (c1 : Nat) (A2 : Option Addr) (c2 : Nat) (A3 : Option Addr) (c3 : Nat) (A4 : Option Addr) (c4 : Nat) (w : World) (hR : MmR w m A1 A2 A3 A4) (hf : m.few 1000000) :
    Calls Try.prog 60 #[m.v A1 c1 A2 c2 A3 c3 A4 c4] w fun e w' => ∃ P1 q1 P2 q2 P3 q3 P4 q4 k1 k2 k3, e = .returned (m.v P1 q1 P2 q2 P3 q3 P4 q4) ∧ OwnM w' w.heap.size m P1 q1 P2 q2 P3 q3 P4 q4 k1 k2 k3 ∧ Below w.heap.size w w' := by
  obtain ⟨f1, f2, f3, f4⟩ := hf
  have hb := ((Below.refl w.heap.size w).alloc (Nat.le_refl _) (.cells #[.slice A1 m.coils.length c1, .slice A2 m.inputs.length c2, .slice A3 m.holding.length c3, .slice A4 m.words.length c4] 28)).alloc (by simp) (.cells #[.slice none 0 0, .slice none 0 0, .slice none 0 0, .slice none 0 0] 28)
  have bx := (Blk.new w 28 #[.slice A1 m.coils.length c1, .slice A2 m.inputs.length c2, .slice A3 m.holding.length c3, .slice A4 m.words.length c4]).alloc (.cells #[.slice none 0 0, .slice none 0 0, .slice none 0 0, .slice none 0 0] 28)
  have bz := Blk.newAt (w.alloc (.cells #[.slice A1 m.coils.length c1, .slice A2 m.inputs.length c2, .slice A3 m.holding.length c3, .slice A4 m.words.length c4] 28)) 28 #[.slice none 0 0, .slice none 0 0, .slice none 0 0, .slice none 0 0] (w.heap.size + 1) (World.size_alloc _ _)
  simp only [Mm.v]
  go_enter Try.func60, Try.ntmps60
  go_upto_region 1 with fail
  obtain ⟨g, hg⟩ : ∃ g, w.heap.size = g := ⟨_, rfl⟩
  obtain ⟨g2, hg2⟩ : ∃ g, w.heap.size + 1 = g := ⟨_, rfl⟩
  have hgg : g ≠ g2 := by omega
  have hgw2 : w.heap.size ≤ g2 := by omega
  rw [hg2] at bz ⊢
  rw [hg] at bx ⊢
  generalize (w.alloc (.cells #[.slice A1 m.coils.length c1, .slice A2 m.inputs.length c2, .slice A3 m.holding.length c3, .slice A4 m.words.length c4] 28)).alloc (.cells #[.slice none 0 0, .slice none 0 0, .slice none 0 0, .slice none 0 0] 28) = w1 at *
  clear hg hg2
  have hR1 := hR.below hb
  have hg2w : g2 < w1.heap.size := bz.lt
  have KK : Hid (∀ W : World, Blk W g 28 #[.slice A1 m.coils.length c1, .slice A2 m.inputs.length c2, .slice A3 m.holding.length c3, .slice A4 m.words.length c4] → W.cell? ⟨g, 0, none⟩ = some (.slice A1 m.coils.length c1) ∧ W.cell? ⟨g, 1, none⟩ = some (.slice A2 m.inputs.length c2) ∧ W.cell? ⟨g, 2, none⟩ = some (.slice A3 m.holding.length c3) ∧ W.cell? ⟨g, 3, none⟩ = some (.slice A4 m.words.length c4)) := fun W h => h.c4
  have b0 : Below w1.heap.size w1 w1.drew := (Below.refl _ _).drew
  have x0 := bx.drew
  refine wp_region_held_drew (S := fun W => W.cell? ⟨g, 0, none⟩ = some (.slice A1 m.coils.length c1) ∧ W.cell? ⟨g, 1, none⟩ = some (.slice A2 m.inputs.length c2) ∧ W.cell? ⟨g, 2, none⟩ = some (.slice A3 m.holding.length c3) ∧ W.cell? ⟨g, 3, none⟩ = some (.slice A4 m.words.length c4)) (by kernel_rfl) ?_ (fun hHeld => ?_)
  · (first | exact KK.out _ x6 | exact KK.out _ x5 | exact KK.out _ x4 | exact KK.out _ x3 | exact KK.out _ x2 | exact KK.out _ x0)
  refine takeRun (i := 0) (v := ?_) rfl (by kernel_rfl) (by kernel_rfl) (by kernel_rfl) (fun _ _ _ h => h) rfl ?_ (by assumption) ?_
  rotate_left
  · (intro w hSw; (try dsimp only at hSw); go_simp; (try with_reducible rfl))
  try simp only [Act.put, List.setIfInBounds_toArray, List.set_cons_zero, List.set_cons_succ]
  refine takeRun (i := 1) (v := ?_) rfl (by kernel_rfl) (by kernel_rfl) (by kernel_rfl) (fun _ _ _ h => h) rfl ?_ (by assumption) ?_
  rotate_left
  · (intro w hSw; (try dsimp only at hSw); go_simp; (try with_reducible rfl))
  try simp only [Act.put, List.setIfInBounds_toArray, List.set_cons_zero, List.set_cons_succ]
  refine takeRun (i := 3) (v := ?_) rfl (by kernel_rfl) (by kernel_rfl) (by kernel_rfl) (fun _ _ _ h => h) rfl ?_ (by assumption) ?_
  rotate_left
  · (intro w hSw; (try dsimp only at hSw); go_simp; (try with_reducible rfl))
  try simp only [Act.put, List.setIfInBounds_toArray, List.set_cons_zero, List.set_cons_succ]
  refine takeRun (i := 4) (v := ?_) rfl (by kernel_rfl) (by kernel_rfl) (by kernel_rfl) (fun _ _ _ h => h) rfl ?_ (by assumption) ?_
  rotate_left
  · (intro w hSw; (try dsimp only at hSw); go_simp; (try with_reducible rfl))
  try simp only [Act.put, List.setIfInBounds_toArray, List.set_cons_zero, List.set_cons_succ]
  refine takeRun (i := 6) (v := ?_) rfl (by kernel_rfl) (by kernel_rfl) (by kernel_rfl) (fun _ _ _ h => h) rfl ?_ (by assumption) ?_
  rotate_left
  · (intro w hSw; (try dsimp only at hSw); go_simp; (try with_reducible rfl))
  try simp only [Act.put, List.setIfInBounds_toArray, List.set_cons_zero, List.set_cons_succ]
  refine takeRun (i := 7) (v := ?_) rfl (by kernel_rfl) (by kernel_rfl) (by kernel_rfl) (fun _ _ _ h => h) rfl ?_ (by assumption) ?_
  rotate_left
  · (intro w hSw; (try dsimp only at hSw); go_simp; (try with_reducible rfl))
  try simp only [Act.put, List.setIfInBounds_toArray, List.set_cons_zero, List.set_cons_succ]
  refine takeRun (i := 9) (v := ?_) rfl (by kernel_rfl) (by kernel_rfl) (by kernel_rfl) (fun _ _ _ h => h) rfl ?_ (by assumption) ?_
  rotate_left
  · (intro w hSw; (try dsimp only at hSw); go_simp; (try with_reducible rfl))
  try simp only [Act.put, List.setIfInBounds_toArray, List.set_cons_zero, List.set_cons_succ]
  refine takeRun (i := 10) (v := ?_) rfl (by kernel_rfl) (by kernel_rfl) (by kernel_rfl) (fun _ _ _ h => h) rfl ?_ (by assumption) ?_
  rotate_left
  · (intro w hSw; (try dsimp only at hSw); go_simp; (try with_reducible rfl))
  try simp only [Act.put, List.setIfInBounds_toArray, List.set_cons_zero, List.set_cons_succ]
  refine goOne (i := 2) (by kernel_rfl) rfl (fun K hK => ?_)
  go_simp
  refine Calls.mono (clone_b A1 _ c1 m.coils _ (hR1.coils.below b0) rfl (by omega)) ?_; rintro e w2 ⟨P1, q1, rfl, o1, h2⟩; have b2 := bthen b0 h2; have x2 := x0.all h2
  go_wp2_with fail
  refine hK.out _ _ ?_ (fun hHeld => ?_)
  · (first | exact KK.out _ x6 | exact KK.out _ x5 | exact KK.out _ x4 | exact KK.out _ x3 | exact KK.out _ x2 | exact KK.out _ x0)
  clear hK K
  try simp only [Act.put, List.setIfInBounds_toArray, List.set_cons_zero, List.set_cons_succ]
  refine goOne (i := 5) (by kernel_rfl) rfl (fun K hK => ?_)
  go_simp
  refine Calls.mono (clone_b A2 _ c2 m.inputs _ (hR1.inputs.below b2) rfl (by omega)) ?_; rintro e w3 ⟨P2, q2, rfl, o2, h3⟩; have b3 := bthen b2 h3; have x3 := x2.all h3
  go_wp2_with fail
  refine hK.out _ _ ?_ (fun hHeld => ?_)
  · (first | exact KK.out _ x6 | exact KK.out _ x5 | exact KK.out _ x4 | exact KK.out _ x3 | exact KK.out _ x2 | exact KK.out _ x0)
  clear hK K
  try simp only [Act.put, List.setIfInBounds_toArray, List.set_cons_zero, List.set_cons_succ]
  refine goOne (i := 8) (by kernel_rfl) rfl (fun K hK => ?_)
  go_simp
  refine Calls.mono (clone_w A3 _ c3 m.holding _ (hR1.holding.below b3) rfl (by omega)) ?_; rintro e w4 ⟨P3, q3, rfl, o3, h4⟩; have b4 := bthen b3 h4; have x4 := x3.all h4
  go_wp2_with fail
  refine hK.out _ _ ?_ (fun hHeld => ?_)
  · (first | exact KK.out _ x6 | exact KK.out _ x5 | exact KK.out _ x4 | exact KK.out _ x3 | exact KK.out _ x2 | exact KK.out _ x0)
  clear hK K
  try simp only [Act.put, List.setIfInBounds_toArray, List.set_cons_zero, List.set_cons_succ]
  refine goOne (i := 11) (by kernel_rfl) rfl (fun K hK => ?_)
  go_simp
  refine Calls.mono (clone_w A4 _ c4 m.words _ (hR1.words.below b4) rfl (by omega)) ?_; rintro e w5 ⟨P4, q4, rfl, o4, h5⟩; have b5 := bthen b4 h5; have x5 := x4.all h5
  go_wp2_with fail
  refine hK.out _ _ ?_ (fun hHeld => ?_)
  · (first | exact KK.out _ x6 | exact KK.out _ x5 | exact KK.out _ x4 | exact KK.out _ x3 | exact KK.out _ x2 | exact KK.out _ x0)
  clear hK K
  try simp only [Act.put, List.setIfInBounds_toArray, List.set_cons_zero, List.set_cons_succ]
  refine takeRun (i := 12) (v := ?_) rfl (by kernel_rfl) (by kernel_rfl) (by kernel_rfl) (fun _ _ _ h => h) rfl ?_ (by assumption) ?_
  rotate_left
  · (intro w hSw; (try dsimp only at hSw); go_simp; (try with_reducible rfl))
  try simp only [Act.put, List.setIfInBounds_toArray, List.set_cons_zero, List.set_cons_succ]
  refine goOne (i := 13) (by kernel_rfl) rfl (fun K hK => ?_)
  have z5 := bz.all b5
  obtain ⟨z0, z1, z2, z3⟩ := z5.c4
  have y0 := z5.frozen 0
  have y1 := z5.frozen 1
  have y2 := z5.frozen 2
  have y3 := z5.frozen 3
  have x6 := (((x5.far (p := ⟨g2, 0, none⟩) hgg (.slice P1 m.coils.length q1)).far (p := ⟨g2, 1, none⟩) hgg (.slice P2 m.inputs.length q2)).far (p := ⟨g2, 2, none⟩) hgg (.slice P3 m.holding.length q3)).far (p := ⟨g2, 3, none⟩) hgg (.slice P4 m.words.length q4)
  go_simp
  refine hK.out _ _ ?_ (fun hHeld => ?_)
  · (first | exact KK.out _ x6 | exact KK.out _ x5 | exact KK.out _ x4 | exact KK.out _ x3 | exact KK.out _ x2 | exact KK.out _ x0)
  clear hK K
  try simp only [Act.put, List.setIfInBounds_toArray, List.set_cons_zero, List.set_cons_succ]
  refine wpAnyH_done (by kernel_rfl) ?_ _
  have HO : OwnM w5 w1.heap.size m P1 q1 P2 q2 P3 q3 P4 q4 w2.heap.size w3.heap.size w4.heap.size :=
    ⟨((o1.below h3).below h4).below h5, (o2.below h4).below h5, o3.below h5, o4, fun g hg => (o1.under g hg).2, fun g hg => (o2.under g hg).2, fun g hg => (o3.under g hg).2, b2.size, h3.size, h4.size⟩
  have s0 := (((Blk.set_ z5 0 (.slice P1 m.coils.length q1)).set_ 1 (.slice P2 m.inputs.length q2)).set_ 2 (.slice P3 m.holding.length q3)).set_ 3 (.slice P4 m.words.length q4)
  simp only [List.setIfInBounds_toArray, List.set_cons_zero, List.set_cons_succ] at s0
  obtain ⟨s0, s1, s2, s3⟩ := s0.c4
  have HB : Below w.heap.size w ((((w5.setCell ⟨g2, 0, none⟩ (.slice P1 m.coils.length q1)).setCell ⟨g2, 1, none⟩ (.slice P2 m.inputs.length q2)).setCell ⟨g2, 2, none⟩ (.slice P3 m.holding.length q3)).setCell ⟨g2, 3, none⟩ (.slice P4 m.words.length q4)) := bset1 (bset1 (bset1 (bset1 (bthen hb b5) hgw2 0 _) hgw2 1 _) hgw2 2 _) hgw2 3 _
  clear z0 z1 z2 z3 y0 y1 y2 y3
  go_wp2_with fail
  refine bodyPost_ret (v := .agg #[.slice P1 m.coils.length q1, .slice P2 m.inputs.length q2, .slice P3 m.holding.length q3, .slice P4 m.words.length q4]) (by simp [results, Try.results60, go_sem, s0, s1, s2, s3]) rfl ?_
  refine ⟨P1, q1, P2, q2, P3, q3, P4, q4, w2.heap.size, w3.heap.size, w4.heap.size, rfl, ?_, HB⟩
  have := (((HO.far hg2w 0 (.slice P1 m.coils.length q1)).far hg2w 1 (.slice P2 m.inputs.length q2)).far hg2w 2 (.slice P3 m.holding.length q3)).far hg2w 3 (.slice P4 m.words.length q4)
  exact ⟨this.o1.base hb.size, this.o2, this.o3, this.o4, this.l1, this.l2, this.l3, Nat.le_trans hb.size this.b1, this.k12, this.k23⟩
end Go.Proofs.Ytechhidfgheejaa
