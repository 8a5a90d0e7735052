/- More words: what a row's own change leaves. Over any program. -/
import Derived.Test.YtechhidfgheejaaLowB
namespace Go.Proofs.Ytechhidfgheejaa
open Go.RowKit
set_option linter.unusedSimpArgs false
set_option linter.unusedVariables false

theorem grown_refl (w : World) (row : Option Nat) : w.grownBy w row := ⟨rfl, rfl, rfl, Nat.le_refl _, fun _ _ _ => rfl⟩
theorem grown_set {a w : World} {g : Nat} (h : a.grownBy w (some g)) (j : Nat) (u : Value) : a.grownBy (w.setCell ⟨g, j, none⟩ u) (some g) :=
  ⟨h.os, h.tape, h.output, by simpa [World.setCell] using h.size, fun i hi hne => (Below.heap_setCell w ⟨g, j, none⟩ u i (fun e => hne (by rw [e]))).trans (h.block i hi hne)⟩
theorem grown_drew {a w : World} {row : Option Nat} (h : a.grownBy w row) : a.grownBy w.drew row := ⟨h.os, h.tape, h.output, h.size, h.block⟩
theorem bgrow {w0 w w' : World} {g : Nat} (hb : Below w0.heap.size w0 w) (hg : w.grownBy w' (some g)) (h : w0.heap.size ≤ g) : Below w0.heap.size w0 w' :=
  hb.grown hg hb.size (fun k e => by injection e with e; omega)
theorem RdN.grown {B g : Nat} {w w' : World} {A : Option Addr} {xs : List Value} (h : RdN B w A xs) (hg : w.grownBy w' (some g)) (hgB : g < B) : RdN B w' A xs := by
  rcases h with h | ⟨b, off, h1, h3, h2⟩
  · exact .inl h
  · refine .inr ⟨b, off, h1, h3, fun j u hu => ?_⟩
    have hc := h2 j u hu
    exact (World.cell?_of_block (hg.block b (World.block_lt_of_cell? w _ hc) (by intro e; injection e with e; omega))).trans hc
theorem Blk.past {w w' : World} {g k : Nat} {t : TypeId} {cs : Array Value} (h : Blk w k t cs) (hg : w.grownBy w' (some g)) (hne : k ≠ g) : Blk w' k t cs :=
  h.grown hg (by intro e; injection e with e; exact hne e)
theorem Rd.pastRow {w w' : World} {g b off : Nat} {xs : List Value} (h : Rd w (some ⟨b, off, none⟩) xs) (hg : w.grownBy w' (some g)) (hne : b ≠ g) : Rd w' (some ⟨b, off, none⟩) xs :=
  h.other hg (by intro e; injection e with e; exact hne e)
theorem Bs.set {l : List Nat} (h : Bs l) {j x : Nat} (hx : x < 256) : Bs (l.set j x) := by
  intro y hy
  rcases List.mem_or_eq_of_mem_set hy with h1 | h1
  · exact h y h1
  · omega
/-- the cell at a place of a row in a block of its own -/
theorem Rd.cellAt {w : World} {b off : Nat} {xs : List Value} (h : Rd w (some ⟨b, off, none⟩) xs) {k : Nat} {u : Value} (hu : xs[k]? = some u) : w.cell? ⟨b, off + k, none⟩ = some u := by
  rcases h with h | ⟨b', off', hA, hc⟩
  · rw [h] at hu; simp at hu
  · injection hA with hA
    injection hA with h1 h2
    subst h1 h2
    exact hc k u hu
theorem set_rest {cs xs : List Value} {j : Nat} {u : Value} (h : ∀ k, j ≤ k → cs[k]? = xs[k]?) : ∀ k, j + 1 ≤ k → (cs.set j u)[k]? = xs[k]? := by
  intro k hk
  rw [List.getElem?_set_ne (by omega)]
  exact h k (by omega)
end Go.Proofs.Ytechhidfgheejaa
