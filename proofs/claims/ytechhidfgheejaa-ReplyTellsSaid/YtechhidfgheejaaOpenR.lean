/- Replies as arguments. -/
import Derived.Test.YtechhidfgheejaaRpA
import Derived.Test.YtechhidfgheejaaOpenS
namespace Go.Proofs.Ytechhidfgheejaa
open Go.RowKit Go.ChangeShapes Go.WideShapes Go.Deep Go.Joins
set_option linter.unusedSimpArgs false
set_option linter.unusedVariables false

section
variable {H : Type} {enc : TypeId × Value → H} {w : World} {base : Nat} {held : Bool}
set_option maxRecDepth 100000 in
theorem open_reply {r : Reach} {b0 : Nat} {v : Value} {d : DataW H} {p : List MemPlace} (hv : Value.okWide Try.prog w r b0 36 v) (h : DataW.Trod enc Try.prog w base (fun _ => true) held 36 v d p) :
    ∃ (a : Rp) (A : Option Addr) (c : Nat) (B : Option Addr) (d : Nat), v = a.v A c B d ∧ RpR w a A B ∧ a.ok ∧ a.words.length ≤ c ∧ a.bits.length ≤ d ∧ c ≤ maxLen ∧ d ≤ maxLen := by
  obtain ⟨cs, rfl, hsz, hf⟩ := open_struct Try.underlying36 (by kernel_rfl) (by kernel_rfl) hv h
  obtain ⟨u0, _, _, c0, t0⟩ := hf 0 _ rfl
  obtain ⟨u1, _, _, c1, t1⟩ := hf 1 _ rfl
  obtain ⟨u2, _, _, c2, t2⟩ := hf 2 _ rfl
  obtain ⟨u3, _, _, c3, t3⟩ := hf 3 _ rfl
  obtain ⟨u4, _, _, c4, t4⟩ := hf 4 _ rfl
  obtain ⟨u5, _, _, c5, t5⟩ := hf 5 _ rfl
  obtain ⟨x0, rfl, h0⟩ := field_u8 Try.underlying5 t0
  obtain ⟨x1, rfl, h1⟩ := field_u8 Try.underlying5 t1
  obtain ⟨x4, rfl, h4⟩ := field_u16 Try.underlying34 t4
  obtain ⟨x5, rfl, h5⟩ := field_u16 Try.underlying34 t5
  obtain ⟨B, m, d, k, rfl, hr', hm, hmd, hdm, _⟩ := open_boolsT Try.underlying25 Try.underlying4 (by kernel_rfl) t2
  obtain ⟨A, n, c, l, rfl, hr, hn, hb, hnc, hcm, _⟩ := open_wordsT Try.underlying26 Try.underlying34 (by kernel_rfl) t3
  obtain ⟨l'⟩ := cs
  match l', hsz with
  | [a, b, e, f, g, i], _ =>
    simp at c0 c1 c2 c3 c4 c5
    subst c0 c1 c2 c3 c4 c5 hn hm
    exact ⟨⟨x0, x1, k, l, x4, x5⟩, A, c, B, d, rfl, ⟨hr, hr'⟩, ⟨h0, h1, hb, h4, h5⟩, hnc, hmd, hcm, hdm⟩
end
end Go.Proofs.Ytechhidfgheejaa
