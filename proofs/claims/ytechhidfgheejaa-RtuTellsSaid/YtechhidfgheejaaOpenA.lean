/- Requests as arguments. -/
import Derived.Test.YtechhidfgheejaaAskD
import Derived.Test.YtechhidfgheejaaOpenS
namespace Go.Proofs.Ytechhidfgheejaa
open Go.RowKit Go.ChangeShapes Go.WideShapes Go.Deep Go.Joins
set_option linter.unusedSimpArgs false
set_option linter.unusedVariables false

section
variable {H : Type} {enc : TypeId × Value → H} {w : World} {base : Nat} {held : Bool}
set_option maxRecDepth 100000 in
theorem open_ask {r : Reach} {b0 : Nat} {v : Value} {d : DataW H} {p : List MemPlace} (hv : Value.okWide Try.prog w r b0 41 v) (h : DataW.Trod enc Try.prog w base (fun _ => true) held 41 v d p) :
    ∃ (a : Ak) (A : Option Addr) (c : Nat) (B : Option Addr) (d : Nat), v = a.v A c B d ∧ AkR w a A B ∧ a.ok ∧ a.words.length ≤ c ∧ a.bits.length ≤ d ∧ c ≤ maxLen ∧ d ≤ maxLen := by
  obtain ⟨cs, rfl, hsz, hf⟩ := open_struct Try.underlying41 (by kernel_rfl) (by kernel_rfl) hv h
  obtain ⟨u0, _, _, c0, t0⟩ := hf 0 _ rfl
  obtain ⟨u1, _, _, c1, t1⟩ := hf 1 _ rfl
  obtain ⟨u2, _, _, c2, t2⟩ := hf 2 _ rfl
  obtain ⟨u3, _, _, c3, t3⟩ := hf 3 _ rfl
  obtain ⟨u4, _, _, c4, t4⟩ := hf 4 _ rfl
  obtain ⟨u5, _, _, c5, t5⟩ := hf 5 _ rfl
  obtain ⟨x0, rfl, h0⟩ := field_u8 Try.underlying5 t0
  obtain ⟨x1, rfl, h1⟩ := field_u16 Try.underlying34 t1
  obtain ⟨x2, rfl, h2⟩ := field_u16 Try.underlying34 t2
  obtain ⟨x3, rfl, h3⟩ := field_u16 Try.underlying34 t3
  obtain ⟨A, n, c, l, rfl, hr, hn, hb, hnc, hcm, _⟩ := open_wordsT Try.underlying26 Try.underlying34 (by kernel_rfl) t4
  obtain ⟨B, m, d, k, rfl, hr', hm, hmd, hdm, _⟩ := open_boolsT Try.underlying25 Try.underlying4 (by kernel_rfl) t5
  obtain ⟨l'⟩ := cs
  match l', hsz with
  | [a, b, e, f, g, i], _ =>
    simp at c0 c1 c2 c3 c4 c5
    subst c0 c1 c2 c3 c4 c5 hn hm
    exact ⟨⟨x0, x1, x2, x3, l, k⟩, A, c, B, d, rfl, ⟨hr, hr'⟩, ⟨h0, h1, h2, h3, hb⟩, hnc, hmd, hcm, hdm⟩
end
end Go.Proofs.Ytechhidfgheejaa
