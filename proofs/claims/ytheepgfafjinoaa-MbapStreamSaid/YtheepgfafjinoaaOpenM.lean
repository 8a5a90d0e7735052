/- Frames as arguments: one by value; a row of them. -/
import Derived.Test.YtheepgfafjinoaaMbapE
import Derived.Test.YtheepgfafjinoaaOpenS
namespace Go.Proofs.Ytheepgfafjinoaa
open Go.RowKit Go.ChangeShapes Go.WideShapes Go.Deep Go.Joins
set_option linter.unusedSimpArgs false
set_option linter.unusedVariables false

theorem fxs_get : ∀ (xs : List Fx) (j : Nat) (u : Value), (fxs xs)[j]? = some u → ∃ x, xs[j / 3]? = some x ∧ x.cells[j % 3]? = some u
  | [], j, u, h => by simp [fxs] at h
  | x :: xs, j, u, h => by
    have e : fxs (x :: xs) = x.cells ++ fxs xs := by simp [fxs]
    have el : x.cells.length = 3 := rfl
    rw [e] at h
    rcases Nat.lt_or_ge j 3 with hj | hj
    · rw [List.getElem?_append_left (by omega)] at h
      exact ⟨x, by rw [Nat.div_eq_of_lt hj]; rfl, by rw [Nat.mod_eq_of_lt hj]; exact h⟩
    · rw [List.getElem?_append_right (by omega), el] at h
      obtain ⟨y, h1, h2⟩ := fxs_get xs (j - 3) u h
      refine ⟨y, ?_, by rw [← h2, show j % 3 = (j - 3) % 3 by omega]⟩
      rw [show j / 3 = (j - 3) / 3 + 1 by omega]
      simpa using h1

section
variable {H : Type} {enc : TypeId × Value → H} {w : World} {base : Nat} {held : Bool}
theorem open_mbap {r : Reach} {b0 : Nat} {v : Value} {d : DataW H} {p : List MemPlace} (hv : Value.okWide Try.prog w r b0 37 v) (h : DataW.Trod enc Try.prog w base (fun _ => true) held 37 v d p) :
    ∃ (f : Fr) (A : Option Addr) (n c : Nat), v = frV f.tx f.unit A n c ∧ Rd w A (bs f.pdu) ∧ f.pdu.length = n ∧ f.ok ∧ n ≤ c ∧ c ≤ maxLen := by
  obtain ⟨cs, rfl, hsz, hf⟩ := open_struct Try.underlying37 (by kernel_rfl) (by kernel_rfl) hv h
  obtain ⟨u0, _, _, c0, t0⟩ := hf 0 _ rfl
  obtain ⟨u1, _, _, c1, t1⟩ := hf 1 _ rfl
  obtain ⟨u2, _, _, c2, t2⟩ := hf 2 _ rfl
  obtain ⟨x0, rfl, h0⟩ := field_u16 Try.underlying23 t0
  obtain ⟨x1, rfl, h1⟩ := field_u8 Try.underlying5 t1
  obtain ⟨A, n, c, l, rfl, hr, hn, hb, hnc, hcm, _⟩ := open_bytesT Try.underlying22 Try.underlying5 (by kernel_rfl) t2
  obtain ⟨l'⟩ := cs
  match l', hsz with
  | [a, b, d], _ =>
    simp at c0 c1 c2
    subst c0 c1 c2
    exact ⟨⟨x0, x1, l⟩, A, n, c, rfl, hr, hn, ⟨h0, h1, hb⟩, hnc, hcm⟩

theorem open_mbapsT {fuel : Nat} {v : Value} {x : DataW H × List MemPlace} (h : DataW.trod enc Try.prog w base (fun _ => true) held fuel 43 [v] = some x) :
    ∃ A n c, ∃ xs : List Fx, v = .slice A n c ∧ Rd w A (fxs xs) ∧ xs.length = n ∧ (∀ x ∈ xs, x.R w ∧ x.f.ok) ∧ n ≤ c ∧ c ≤ maxLen := by
  obtain ⟨A, n, c, rfl, hnc, hcm, hr⟩ := open_recs Try.underlying43 Try.underlying37 (by kernel_rfl) (by kernel_rfl) (by decide) h
  rcases hr with rfl | ⟨b, off, rfl, hk⟩
  · exact ⟨A, 0, c, [], rfl, .inl rfl, rfl, by simp, hnc, hcm⟩
  · have key : ∀ i, i < n → ∃ x : Fx, (x.R w ∧ x.f.ok) ∧ w.cell? ⟨b, off + (i * 3 + 0), none⟩ = some (.int .u16 (x.f.tx : Int)) ∧ w.cell? ⟨b, off + (i * 3 + 1), none⟩ = some (.int .u8 (x.f.unit : Int)) ∧ w.cell? ⟨b, off + (i * 3 + 2), none⟩ = some (.slice x.A x.f.pdu.length x.c) := by
      intro i hi
      obtain ⟨u0, _, _, c0, t0⟩ := hk i hi 0 _ rfl
      obtain ⟨u1, _, _, c1, t1⟩ := hk i hi 1 _ rfl
      obtain ⟨u2, _, _, c2, t2⟩ := hk i hi 2 _ rfl
      obtain ⟨x0, rfl, h0⟩ := field_u16 Try.underlying23 t0
      obtain ⟨x1, rfl, h1⟩ := field_u8 Try.underlying5 t1
      obtain ⟨A, n, c, l, rfl, hr, hn, hb, hnc, hcm, _⟩ := open_bytesT Try.underlying22 Try.underlying5 (by kernel_rfl) t2
      subst hn
      exact ⟨⟨⟨x0, x1, l⟩, A, c⟩, ⟨⟨hr, hb⟩, ⟨h0, h1, hb⟩⟩, c0, c1, c2⟩
    obtain ⟨xs, hl, hq⟩ := list_of _ n key
    refine ⟨_, n, c, xs, rfl, .inr ⟨b, off, rfl, fun j u hu => ?_⟩, hl, fun x hx => ?_, hnc, hcm⟩
    · obtain ⟨x, h1, h2⟩ := fxs_get xs j u hu
      obtain ⟨_, q0, q1, q2⟩ := hq _ x h1
      have hj : j = j / 3 * 3 + j % 3 := by omega
      have hm : j % 3 = 0 ∨ j % 3 = 1 ∨ j % 3 = 2 := by omega
      rw [hj]
      rcases hm with e | e | e
      · rw [e] at h2 ⊢; simp [Fx.cells] at h2; subst h2; exact q0
      · rw [e] at h2 ⊢; simp [Fx.cells] at h2; subst h2; exact q1
      · rw [e] at h2 ⊢; simp [Fx.cells] at h2; subst h2; exact q2
    · obtain ⟨i, hi⟩ := List.getElem?_of_mem hx
      exact (hq i x hi).1
end
theorem trod_bytes_len {H : Type} {enc : TypeId × Value → H} {P : Program} {w : World} {base : Nat} {held : Bool} {t e : TypeId} {k : IntKind} {fuel : Nat} {A : Option Addr} {n c : Nat} {d : DataW H} {ps : List MemPlace} (ht : P.underlying t = some (.slice e)) (he : P.underlying e = some (.int k)) (hc : P.cellsOf e = 1)
    (h : DataW.trod enc P w base (fun _ => true) held fuel t [.slice A n c] = some (d, ps)) : n = 0 ∨ ∃ el sp, d = .slice el sp ∧ el.length = n := by
  rcases open_ints ht he hc h with ⟨hcs, _⟩ | ⟨a, len, cap, zs, hcs, _, hl, hm, hz, hx, _, _⟩
  · left
    injection hcs with hcs
    injection hcs
  · right
    injection hcs with hcs
    injection hcs with h1 h2 h3
    subst h2 h3
    simp only [if_true] at hz
    injection hx with hx1 hx2
    refine ⟨_, _, hx1, ?_⟩
    simp only [lits, List.length_map, List.length_take]
    omega
end Go.Proofs.Ytheepgfafjinoaa
