/- A box of six cells, stored whole, or beside another. -/
import Derived.Test.YtechhidfgheejaaRefC
import Derived.Test.YtechhidfgheejaaRefP
import Derived.Test.YtechhidfgheejaaRegion2
namespace Go.Proofs.Ytechhidfgheejaa
open Go.RowKit
set_option linter.unusedSimpArgs false
set_option linter.unusedVariables false
section
variable {w : World} {g k : Nat} {t : TypeId} {cs : Array Value} {x0 x1 x2 x3 x4 x5 a0 a1 a2 a3 a4 a5 : Value}
theorem Blk.beside6 (h : Blk w k t cs) (hp : k ≠ g) : Blk ((((((w.setCell ⟨g, 0, none⟩ x0).setCell ⟨g, 1, none⟩ x1).setCell ⟨g, 2, none⟩ x2).setCell ⟨g, 3, none⟩ x3).setCell ⟨g, 4, none⟩ x4).setCell ⟨g, 5, none⟩ x5) k t cs := (((((h.far (p := ⟨g, 0, none⟩) hp _).far (p := ⟨g, 1, none⟩) hp _).far (p := ⟨g, 2, none⟩) hp _).far (p := ⟨g, 3, none⟩) hp _).far (p := ⟨g, 4, none⟩) hp _).far (p := ⟨g, 5, none⟩) hp _
theorem Blk.whole6 (h : Blk w g t #[a0, a1, a2, a3, a4, a5]) : Blk ((((((w.setCell ⟨g, 0, none⟩ x0).setCell ⟨g, 1, none⟩ x1).setCell ⟨g, 2, none⟩ x2).setCell ⟨g, 3, none⟩ x3).setCell ⟨g, 4, none⟩ x4).setCell ⟨g, 5, none⟩ x5) g t #[x0, x1, x2, x3, x4, x5] := by
  have := (((((h.set_ 0 x0).set_ 1 x1).set_ 2 x2).set_ 3 x3).set_ 4 x4).set_ 5 x5
  simpa only [List.setIfInBounds_toArray, List.set_cons_zero, List.set_cons_succ] using this
theorem below_whole6 {B : Nat} {a : World} (h : Below B a w) (hg : B ≤ g) : Below B a ((((((w.setCell ⟨g, 0, none⟩ x0).setCell ⟨g, 1, none⟩ x1).setCell ⟨g, 2, none⟩ x2).setCell ⟨g, 3, none⟩ x3).setCell ⟨g, 4, none⟩ x4).setCell ⟨g, 5, none⟩ x5) := bset6 h hg _ _ _ _ _ _
/-- a request's cells -/
def akc (k : Ak) (A : Option Addr) (c : Nat) (B : Option Addr) (d : Nat) : Array Value := #[.int .u8 (k.fn : Int), .int .u16 (k.at_ : Int), .int .u16 (k.many : Int), .int .u16 (k.to_ : Int), .slice A k.words.length c, .slice B k.bits.length d]
/-- the request k stands in box g, its rows in memory of the call's own -/
def St (w1 W : World) (g : Nat) (k : Ak) : Prop := ∃ A c B d, Blk W g 41 (akc k A c B d) ∧ Ow W w1.heap.size 34 A c (ws k.words) ∧ Ow W w1.heap.size 4 B d (os k.bits) ∧ Below w1.heap.size w1 W
theorem St.fn {w1 W : World} {g : Nat} {k : Ak} (h : St w1 W g k) : W.cell? ⟨g, 0, none⟩ = some (.int .u8 (k.fn : Int)) := by
  obtain ⟨A, c, B, d, b4, -⟩ := h
  exact b4.cell 0
theorem St.below {w1 W : World} {g : Nat} {k : Ak} (h : St w1 W g k) : Below w1.heap.size w1 W := by
  obtain ⟨A, c, B, d, -, -, -, hb⟩ := h
  exact hb
def stA (f t m : Nat) : Ak := ⟨f, t, if f = 5 ∨ f = 6 then 0 else m, 0, if f = 6 then [m] else [], if f = 5 then [decide (m = 65280)] else []⟩
def stB (f t m o : Nat) : Ak := ⟨f, t, if f = 5 ∨ f = 6 then 0 else m, if f = 23 then o else 0, if f = 6 then [m] else [], if f = 5 then [decide (m = 65280)] else []⟩
def stC (f t m o : Nat) (l : List Nat) : Ak := ⟨f, t, if f = 5 ∨ f = 6 then 0 else m, if f = 23 then o else 0, if f = 6 then [m] else [], if f = 5 then [decide (m = 65280)] else if f = 15 then bitsR l m else []⟩
theorem refA_st {l : List Nat} {f t m o : Nat} (hf : l.getD 0 0 = f) (ht : atR l 1 = t) (hm : atR l 3 = m) (ho : atR l 5 = o) :
    refA l = ⟨f, t, if f = 5 ∨ f = 6 then 0 else m, if f = 23 then o else 0, if f = 6 then [m] else if f = 16 then wordsR l 6 else if f = 23 then wordsR l 10 else [], if f = 5 then [decide (m = 65280)] else if f = 15 then bitsR l m else []⟩ := by
  unfold refA; rw [hf, ht, hm, ho]
end
end Go.Proofs.Ytechhidfgheejaa
