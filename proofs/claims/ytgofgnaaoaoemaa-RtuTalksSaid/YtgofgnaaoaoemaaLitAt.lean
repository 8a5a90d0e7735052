/- A row that has just been laid, at a named block. Over any program. -/
import Derived.Test.YtgofgnaaoaoemaaAskH
namespace Go.Proofs.Ytgofgnaaoaoemaa
open Go.RowKit
theorem Rd.litAt (w : World) (t : TypeId) (cs : List Value) (g : Nat) {xs : List Value} (hg : w.heap.size = g) (hx : xs = cs) : Rd (w.alloc (.cells cs.toArray t)) (some ⟨g, 0, none⟩) xs := by
  subst hg; exact Rd.lit w t cs hx
end Go.Proofs.Ytgofgnaaoaoemaa
