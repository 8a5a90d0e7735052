/- A row of operations on a queue, as an argument. -/
import Derived.Test.YtheepgfafjinoaaQueueOps
import Derived.Test.YtheepgfafjinoaaOpenS
namespace Go.Proofs.Ytheepgfafjinoaa
open Go.RowKit Go.ChangeShapes Go.WideShapes Go.Deep Go.Joins
set_option linter.unusedSimpArgs false
set_option linter.unusedVariables false
theorem open_opsT {H : Type} {enc : TypeId × Value → H} {w : World} {base : Nat} {held : Bool} {fuel : Nat} {v : Value} {x : DataW H × List MemPlace}
    (h : DataW.trod enc Try.prog w base (fun _ => true) held fuel 52 [v] = some x) :
    ∃ A n c, ∃ l : List Opr, v = .slice A n c ∧ RdOp w A l ∧ l.length = n ∧ n ≤ c ∧ c ≤ maxLen := by
  obtain ⟨A, n, c, rfl, hnc, hcm, hr⟩ := open_recs Try.underlying52 Try.underlying61 (by kernel_rfl) (by kernel_rfl) (by decide) h
  rcases hr with rfl | ⟨b, off, rfl, hk⟩
  · exact ⟨A, 0, c, [], rfl, .inl rfl, rfl, hnc, hcm⟩
  · have key : ∀ i, i < n → ∃ o : Opr, o.at_ < 256 ∧ w.cell? ⟨b, off + i * 4, none⟩ = some (.bool o.dr) ∧ w.cell? ⟨b, off + i * 4 + 1, none⟩ = some (.bool o.by_) ∧ w.cell? ⟨b, off + i * 4 + 2, none⟩ = some (.int .u32 (o.tx : Int)) ∧ w.cell? ⟨b, off + i * 4 + 3, none⟩ = some (.int .u8 (o.at_ : Int)) := by
      intro i hi
      obtain ⟨u0, _, _, c0, t0⟩ := hk i hi 0 _ rfl
      obtain ⟨u1, _, _, c1, t1⟩ := hk i hi 1 _ rfl
      obtain ⟨u2, _, _, c2, t2⟩ := hk i hi 2 _ rfl
      obtain ⟨u3, _, _, c3, t3⟩ := hk i hi 3 _ rfl
      obtain ⟨x0, rfl⟩ := field_bool Try.underlying4 t0
      obtain ⟨x1, rfl⟩ := field_bool Try.underlying4 t1
      obtain ⟨x2, rfl, _⟩ := field_u32 Try.underlying57 t2
      obtain ⟨x3, rfl, h3⟩ := field_u8 Try.underlying5 t3
      exact ⟨⟨x0, x1, x2, x3⟩, h3, c0, c1, c2, c3⟩
    obtain ⟨l, hl, hq⟩ := list_of _ n key
    exact ⟨_, n, c, l, rfl, .inr ⟨b, off, rfl, hq⟩, hl, hnc, hcm⟩
end Go.Proofs.Ytheepgfafjinoaa
