/- A block of the call's own that is known whole. Over any program. -/
import Derived.Test.YtechhidfgheejaaOwn
namespace Go.Proofs.Ytechhidfgheejaa
open Go.RowKit
set_option linter.unusedSimpArgs false
set_option linter.unusedVariables false

/-- block g is just the cells cs of type t, none frozen -/
def Blk (w : World) (g : Nat) (t : TypeId) (cs : Array Value) : Prop := w.heap[g]? = some (.cells cs t (0, 0))
section
variable {w w' : World} {g : Nat} {t : TypeId} {cs : Array Value}
theorem Blk.lt (h : Blk w g t cs) : g < w.heap.size := (Array.getElem?_eq_some_iff.1 h).1
theorem Blk.cell (h : Blk w g t cs) (i : Nat) : w.cell? ⟨g, i, none⟩ = cs[i]? := cell_of_row w g i cs t (0, 0) h
theorem Blk.frozen (h : Blk w g t cs) (i : Nat) : w.frozen? ⟨g, i, none⟩ = false := frozen_of_row w g i cs t h
theorem Blk.new (w : World) (t : TypeId) (cs : Array Value) : Blk (w.alloc (.cells cs t)) w.heap.size t cs := heap_alloc_new w _
theorem Blk.newAt (w : World) (t : TypeId) (cs : Array Value) (g : Nat) (hg : w.heap.size = g) : Blk (w.alloc (.cells cs t)) g t cs := by subst hg; exact Blk.new w t cs
theorem Blk.drewN (h : Blk w g t cs) (n : Nat) : Blk (w.drewN n) g t cs := h
theorem Blk.drew (h : Blk w g t cs) : Blk w.drew g t cs := h
theorem Blk.alloc (h : Blk w g t cs) (o : Obj) : Blk (w.alloc o) g t cs := (Below.heap_alloc w o g h.lt).trans h
theorem Blk.set_ (h : Blk w g t cs) (i : Nat) (u : Value) : Blk (w.setCell ⟨g, i, none⟩ u) g t (cs.setIfInBounds i u) := by
  unfold Blk at h ⊢
  simp [World.setCell, Array.getElem?_modify, h]
theorem Blk.far (h : Blk w g t cs) {p : Addr} (hp : g ≠ p.block) (u : Value) : Blk (w.setCell p u) g t cs := (Below.heap_setCell w p u g hp).trans h
theorem Blk.below {B : Nat} (h : Blk w g t cs) (hb : Below B w w') (hg : g < B) : Blk w' g t cs := (hb.block g hg).trans h
theorem Blk.all (h : Blk w g t cs) (hb : Below w.heap.size w w') : Blk w' g t cs := h.below hb h.lt
theorem Blk.grown {row : Option Nat} (h : Blk w g t cs) (hb : w.grownBy w' row) (hg : some g ≠ row) : Blk w' g t cs := (hb.block g h.lt hg).trans h
theorem Blk.c1 {a : Value} (h : Blk w g t #[a]) : w.cell? ⟨g, 0, none⟩ = some a := h.cell 0
theorem Blk.c2 {a b : Value} (h : Blk w g t #[a, b]) : w.cell? ⟨g, 0, none⟩ = some a ∧ w.cell? ⟨g, 1, none⟩ = some b := ⟨h.cell 0, h.cell 1⟩
theorem Blk.c3 {a b c : Value} (h : Blk w g t #[a, b, c]) : w.cell? ⟨g, 0, none⟩ = some a ∧ w.cell? ⟨g, 1, none⟩ = some b ∧ w.cell? ⟨g, 2, none⟩ = some c := ⟨h.cell 0, h.cell 1, h.cell 2⟩
theorem Blk.c4 {a b c d : Value} (h : Blk w g t #[a, b, c, d]) : w.cell? ⟨g, 0, none⟩ = some a ∧ w.cell? ⟨g, 1, none⟩ = some b ∧ w.cell? ⟨g, 2, none⟩ = some c ∧ w.cell? ⟨g, 3, none⟩ = some d := ⟨h.cell 0, h.cell 1, h.cell 2, h.cell 3⟩
theorem Blk.c5 {a b c d e : Value} (h : Blk w g t #[a, b, c, d, e]) : w.cell? ⟨g, 0, none⟩ = some a ∧ w.cell? ⟨g, 1, none⟩ = some b ∧ w.cell? ⟨g, 2, none⟩ = some c ∧ w.cell? ⟨g, 3, none⟩ = some d ∧ w.cell? ⟨g, 4, none⟩ = some e := ⟨h.cell 0, h.cell 1, h.cell 2, h.cell 3, h.cell 4⟩
theorem Blk.c6 {a b c d e f : Value} (h : Blk w g t #[a, b, c, d, e, f]) : w.cell? ⟨g, 0, none⟩ = some a ∧ w.cell? ⟨g, 1, none⟩ = some b ∧ w.cell? ⟨g, 2, none⟩ = some c ∧ w.cell? ⟨g, 3, none⟩ = some d ∧ w.cell? ⟨g, 4, none⟩ = some e ∧ w.cell? ⟨g, 5, none⟩ = some f := ⟨h.cell 0, h.cell 1, h.cell 2, h.cell 3, h.cell 4, h.cell 5⟩
/-- a row of other elements lies in another block -/
theorem Blk.notOw {B : Nat} {e : TypeId} {A : Option Addr} {c : Nat} {xs : List Value} (h : Blk w g t cs) (ho : Ow w B e A c xs) (hne : t ≠ e) : some g ≠ Value.ownBlock (.slice A xs.length c) := by
  rcases ho.2 with ⟨hv, _⟩ | ⟨g2, cap, cur, hv, _, hh, _⟩
  · rw [hv]; simp [Value.ownBlock]
  · rw [hv]
    intro ee
    have : g = g2 := by simpa [Value.ownBlock] using ee
    subst this
    unfold Blk at h
    rw [h] at hh
    injection hh with hh
    injection hh with _ ht
    exact hne ht
theorem Blk.pass0 {B : Nat} {e : TypeId} {A : Option Addr} {c n : Nat} {xs : List Value} (h : Blk w g t cs) (ho : Ow w B e A c xs) (hne : t ≠ e) (hg : w.grownBy w' (Value.ownBlock (.slice A n c))) : Blk w' g t cs := by
  have := h.notOw ho hne
  exact h.grown hg (by cases A <;> exact this)
theorem Blk.pass {B : Nat} {e : TypeId} {A : Option Addr} {c n : Nat} {xs : List Value} {o : Obj} (h : Blk w g t cs) (ho : Ow w B e A c xs) (hne : t ≠ e) (hg : (w.alloc o).grownBy w' (Value.ownBlock (.slice A n c))) : Blk w' g t cs :=
  (h.alloc o).pass0 (ho.alloc o) hne hg
theorem Ow.setBlk {B : Nat} {e : TypeId} {A : Option Addr} {c : Nat} {xs : List Value} (h : Ow w B e A c xs) (hb : Blk w g t cs) (hne : t ≠ e) (j : Nat) (u : Value) : Ow (w.setCell ⟨g, j, none⟩ u) B e A c xs := by
  refine h.kept (row := some g) ⟨rfl, rfl, rfl, by simp [World.setCell], fun i hi hne => Below.heap_setCell w ⟨g, j, none⟩ u i (fun e => hne (by rw [e]))⟩ (.inr ?_)
  exact (hb.notOw h hne).symm
theorem bset3 {B : Nat} {a w : World} {g : Nat} (h : Below B a w) (hg : B ≤ g) (x y z : Value) : Below B a (((w.setCell ⟨g, 0, none⟩ x).setCell ⟨g, 1, none⟩ y).setCell ⟨g, 2, none⟩ z) :=
  ((h.setCell (p := ⟨g, 0, none⟩) hg x).setCell (p := ⟨g, 1, none⟩) hg y).setCell (p := ⟨g, 2, none⟩) hg z
theorem bset6 {B : Nat} {a w : World} {g : Nat} (h : Below B a w) (hg : B ≤ g) (x y z p q r : Value) : Below B a ((((((w.setCell ⟨g, 0, none⟩ x).setCell ⟨g, 1, none⟩ y).setCell ⟨g, 2, none⟩ z).setCell ⟨g, 3, none⟩ p).setCell ⟨g, 4, none⟩ q).setCell ⟨g, 5, none⟩ r) :=
  (((bset3 h hg x y z).setCell (p := ⟨g, 3, none⟩) hg p).setCell (p := ⟨g, 4, none⟩) hg q).setCell (p := ⟨g, 5, none⟩) hg r
theorem Ow.set3 {B : Nat} {e : TypeId} {A : Option Addr} {c : Nat} {xs : List Value} (h : Ow w B e A c xs) (hb : Blk w g t cs) (hne : t ≠ e) (x y z : Value) : Ow (((w.setCell ⟨g, 0, none⟩ x).setCell ⟨g, 1, none⟩ y).setCell ⟨g, 2, none⟩ z) B e A c xs :=
  ((h.setBlk hb hne 0 x).setBlk (hb.set_ 0 x) hne 1 y).setBlk ((hb.set_ 0 x).set_ 1 y) hne 2 z
theorem Ow.set6 {B : Nat} {e : TypeId} {A : Option Addr} {c : Nat} {xs : List Value} (h : Ow w B e A c xs) (hb : Blk w g t cs) (hne : t ≠ e) (x y z p q r : Value) : Ow ((((((w.setCell ⟨g, 0, none⟩ x).setCell ⟨g, 1, none⟩ y).setCell ⟨g, 2, none⟩ z).setCell ⟨g, 3, none⟩ p).setCell ⟨g, 4, none⟩ q).setCell ⟨g, 5, none⟩ r) B e A c xs :=
  (((h.set3 hb hne x y z).setBlk (((hb.set_ 0 x).set_ 1 y).set_ 2 z) hne 3 p).setBlk ((((hb.set_ 0 x).set_ 1 y).set_ 2 z).set_ 3 p) hne 4 q).setBlk (((((hb.set_ 0 x).set_ 1 y).set_ 2 z).set_ 3 p).set_ 4 q) hne 5 r
end
end Go.Proofs.Ytechhidfgheejaa
