/- Spaces and memories as arguments. -/
import Derived.Test.YtechhidfgheejaaMdR
import Derived.Test.YtechhidfgheejaaOpenS
import Derived.SizedLaws
namespace Go.Proofs.Ytechhidfgheejaa
open Go.RowKit Go.ChangeShapes Go.WideShapes Go.Deep Go.Joins
set_option linter.unusedSimpArgs false
set_option linter.unusedVariables false

theorem ars_get : ∀ (xs : List Ar) (j : Nat) (u : Value), (ars xs)[j]? = some u → ∃ x, xs[j / 5]? = some x ∧ x.cells[j % 5]? = some u
  | [], j, u, h => by simp [ars] at h
  | x :: xs, j, u, h => by
    have e : ars (x :: xs) = x.cells ++ ars xs := by simp [ars]
    have el : x.cells.length = 5 := rfl
    rw [e] at h
    rcases Nat.lt_or_ge j 5 with hj | hj
    · rw [List.getElem?_append_left (by omega)] at h
      exact ⟨x, by rw [Nat.div_eq_of_lt hj]; rfl, by rw [Nat.mod_eq_of_lt hj]; exact h⟩
    · rw [List.getElem?_append_right (by omega), el] at h
      obtain ⟨y, h1, h2⟩ := ars_get xs (j - 5) u h
      refine ⟨y, ?_, by rw [← h2, show j % 5 = (j - 5) % 5 by omega]⟩
      rw [show j / 5 = (j - 5) / 5 + 1 by omega]
      simpa using h1
section
variable {H : Type} {enc : TypeId × Value → H} {P : Program} {w : World} {base : Nat} {held : Bool}
/-- as open_struct, and the sizes of what its fields hold -/
theorem open_structD {r : Reach} {b0 : Nat} {t : TypeId} {fs : Array Field} {v : Value} {d : DataW H} {p : List MemPlace} (hs : P.underlying t = some (.struct fs)) (hone : oneCellFields P fs = true) (hC : P.cellsOf t = fs.size)
    (hv : Value.okWide P w r b0 t v) (h : DataW.Trod enc P w base (fun _ => true) held t v d p) :
    ∃ cs : Array Value, v = .agg cs ∧ cs.size = fs.size ∧ ∀ (j : Nat) (f : Field), fs[j]? = some f → ∃ u y m, cs[j]? = some u ∧ DataW.trod enc P w base (fun _ => true) held m f.type [u] = some y ∧ ∀ n ∈ y.1.weights P f.type, n ∈ d.weights P t := by
  obtain ⟨cs, rfl, hsz⟩ := okWide_struct hs hv
  obtain ⟨fuel, hf⟩ := h
  obtain ⟨xs, n, _, hx, hcl, hlen, hg⟩ := DataW.trod_struct hs hf
  have hcs : cs.size = fs.size := by rw [hsz, hC]
  refine ⟨cs, rfl, hcs, fun j f hj => ?_⟩
  obtain ⟨ho, hk⟩ := hone_of hone j f hj
  have hjl : j < fs.size := (Array.getElem?_eq_some_iff.1 hj).1
  have h1 := hg j f hj
  have hvc : (Value.agg cs).cells.toList = cs.toList := by simp [Value.cells]
  rw [ho, hk, hvc, List.drop_eq_getElem_cons (by simp; omega), List.getElem?_eq_getElem (show j < xs.length by omega)] at h1
  refine ⟨cs[j], _, _, Array.getElem?_eq_getElem (by omega), by simpa using h1, fun k hk' => ?_⟩
  injection hx with hd hp
  rw [hd]
  unfold DataW.weights
  rw [hs]
  simp only
  refine DataW.weights_mem_each (j := j) (t := f.type) (d := xs[j].1) (by rw [List.getElem?_map, Array.getElem?_toList, hj]; rfl) (by rw [List.getElem?_map, List.getElem?_eq_getElem (show j < xs.length by omega)]; rfl) k hk'
theorem slice_len {t e : TypeId} {m : Nat} {A : Option Addr} {n c : Nat} {y : DataW H × List MemPlace} (ht : P.underlying t = some (.slice e)) (hb : 0 < P.bytesOf e) (h : DataW.trod enc P w base (fun _ => true) held m t [.slice A n c] = some y)
    (hw : ∀ k ∈ y.1.weights P t, k ≤ reachBytes) : n ≤ 140737488355328 := by
  rcases open_slice ht h with ⟨hcs, _⟩ | ⟨a, len, cap, m', n', D, Pl, hcs, -, -, -, -, hx, -⟩
  · injection hcs with hcs
    injection hcs with _ h2
    omega
  · injection hcs with hcs
    injection hcs with h1 h2 h3
    subst h2
    rw [hx] at hw
    have := hw _ (by simp only [DataW.weights, ht]; exact List.mem_cons_self ..)
    simp only [List.length_map, List.length_range, reachBytes] at this
    have h4 : n ≤ (n + (m' - n)) * P.bytesOf e := Nat.le_trans (Nat.le_add_right _ _) (Nat.le_mul_of_pos_right _ hb)
    omega
end
section
variable {H : Type} {enc : TypeId × Value → H} {w : World} {base : Nat} {held : Bool}
theorem open_areas {m : Nat} {u : Value} {y : DataW H × List MemPlace} (h : DataW.trod enc Try.prog w base (fun _ => true) held m 22 [u] = some y) :
    ∃ A c, ∃ xs : List Ar, u = .slice A xs.length c ∧ Rd w A (ars xs) ∧ ∀ x ∈ xs, x.ok := by
  obtain ⟨A, n, c, rfl, hnc, hcm, hr⟩ := open_recs Try.underlying22 Try.underlying66 (by kernel_rfl) (by kernel_rfl) (by decide) h
  rcases hr with rfl | ⟨b, off, rfl, hk⟩
  · exact ⟨A, c, [], rfl, .inl rfl, by simp⟩
  · have key : ∀ i, i < n → ∃ x : Ar, x.ok ∧ ∀ j, j < 5 → w.cell? ⟨b, off + (i * 5 + j), none⟩ = x.cells[j]? := by
      intro i hi
      obtain ⟨u0, _, _, c0, t0⟩ := hk i hi 0 _ rfl
      obtain ⟨u1, _, _, c1, t1⟩ := hk i hi 1 _ rfl
      obtain ⟨u2, _, _, c2, t2⟩ := hk i hi 2 _ rfl
      obtain ⟨u3, _, _, c3, t3⟩ := hk i hi 3 _ rfl
      obtain ⟨u4, _, _, c4, t4⟩ := hk i hi 4 _ rfl
      obtain ⟨x0, rfl, h0, h0'⟩ := field_int Try.underlying3 t0
      obtain ⟨x1, rfl, h1, h1'⟩ := field_int Try.underlying3 t1
      obtain ⟨x2, rfl⟩ := field_bool Try.underlying4 t2
      obtain ⟨x3, rfl⟩ := field_bool Try.underlying4 t3
      obtain ⟨x4, rfl⟩ := field_bool Try.underlying4 t4
      refine ⟨⟨x0, x1, x2, x3, x4⟩, ⟨h0, h0', h1, h1'⟩, fun j hj => ?_⟩
      have : j = 0 ∨ j = 1 ∨ j = 2 ∨ j = 3 ∨ j = 4 := by omega
      rcases this with rfl | rfl | rfl | rfl | rfl
      · exact c0
      · exact c1
      · exact c2
      · exact c3
      · exact c4
    obtain ⟨xs, hl, hq⟩ := list_of _ n key
    refine ⟨_, c, xs, by rw [hl], .inr ⟨b, off, rfl, fun j u hu => ?_⟩, fun x hx => ?_⟩
    · obtain ⟨x, h1, h2⟩ := ars_get xs j u hu
      obtain ⟨_, q⟩ := hq _ x h1
      rw [show j = j / 5 * 5 + j % 5 by omega]
      rw [q (j % 5) (by omega)]
      exact h2
    · obtain ⟨i, hi⟩ := List.getElem?_of_mem hx
      exact (hq i x hi).1
set_option maxRecDepth 100000 in
theorem open_space {r : Reach} {b0 : Nat} {v : Value} {d : DataW H} {p : List MemPlace} (hv : Value.okWide Try.prog w r b0 24 v) (h : DataW.Trod enc Try.prog w base (fun _ => true) held 24 v d p)
    (hw : ∀ n ∈ d.weights Try.prog 24, n ≤ reachBytes) :
    ∃ (s : Sp) (q : Q8), v = s.v q ∧ SpR w s q ∧ s.ok ∧ s.few 140737488355328 := by
  obtain ⟨cs, rfl, hsz, hf⟩ := open_structD Try.underlying24 (by kernel_rfl) (by kernel_rfl) hv h
  obtain ⟨u0, y0, _, c0, t0, z0⟩ := hf 0 _ rfl
  obtain ⟨u1, y1, _, c1, t1, z1⟩ := hf 1 _ rfl
  obtain ⟨u2, y2, _, c2, t2, z2⟩ := hf 2 _ rfl
  obtain ⟨u3, y3, _, c3, t3, z3⟩ := hf 3 _ rfl
  obtain ⟨A0, d0, l0, rfl, r0, k0⟩ := open_areas t0
  obtain ⟨A1, d1, l1, rfl, r1, k1⟩ := open_areas t1
  obtain ⟨A2, d2, l2, rfl, r2, k2⟩ := open_areas t2
  obtain ⟨A3, d3, l3, rfl, r3, k3⟩ := open_areas t3
  have hbt : 0 < Try.prog.bytesOf 66 := by rw [show Try.prog.bytesOf 66 = 24 from by kernel_rfl]; decide
  have e0 := slice_len Try.underlying22 hbt t0 (fun k hk => hw k (z0 k hk))
  have e1 := slice_len Try.underlying22 hbt t1 (fun k hk => hw k (z1 k hk))
  have e2 := slice_len Try.underlying22 hbt t2 (fun k hk => hw k (z2 k hk))
  have e3 := slice_len Try.underlying22 hbt t3 (fun k hk => hw k (z3 k hk))
  obtain ⟨l'⟩ := cs
  match l', hsz with
  | [a, b, e, f], _ =>
    simp at c0 c1 c2 c3
    subst c0 c1 c2 c3
    exact ⟨⟨l0, l1, l2, l3⟩, ⟨A0, d0, A1, d1, A2, d2, A3, d3⟩, rfl, ⟨r0, r1, r2, r3⟩, ⟨k0, k1, k2, k3⟩, ⟨e0, e1, e2, e3⟩⟩
set_option maxRecDepth 100000 in
theorem open_mem {r : Reach} {b0 : Nat} {v : Value} {d : DataW H} {p : List MemPlace} (hv : Value.okWide Try.prog w r b0 28 v) (h : DataW.Trod enc Try.prog w base (fun _ => true) held 28 v d p) :
    ∃ (m : Mm) (q : Q8), v = m.v q.A1 q.c1 q.A2 q.c2 q.A3 q.c3 q.A4 q.c4 ∧ MmR w m q.A1 q.A2 q.A3 q.A4 ∧ m.ok ∧ m.cap q.c1 q.c2 q.c3 q.c4 := by
  obtain ⟨cs, rfl, hsz, hf⟩ := open_struct Try.underlying28 (by kernel_rfl) (by kernel_rfl) hv h
  obtain ⟨u0, _, _, c0, t0⟩ := hf 0 _ rfl
  obtain ⟨u1, _, _, c1, t1⟩ := hf 1 _ rfl
  obtain ⟨u2, _, _, c2, t2⟩ := hf 2 _ rfl
  obtain ⟨u3, _, _, c3, t3⟩ := hf 3 _ rfl
  obtain ⟨A0, n0, d0, l0, rfl, r0, rfl, p0, -, -⟩ := open_boolsT Try.underlying25 Try.underlying4 (by kernel_rfl) t0
  obtain ⟨A1, n1, d1, l1, rfl, r1, rfl, p1, -, -⟩ := open_boolsT Try.underlying25 Try.underlying4 (by kernel_rfl) t1
  obtain ⟨A2, n2, d2, l2, rfl, r2, rfl, b2, p2, -, -⟩ := open_wordsT Try.underlying26 Try.underlying34 (by kernel_rfl) t2
  obtain ⟨A3, n3, d3, l3, rfl, r3, rfl, b3, p3, -, -⟩ := open_wordsT Try.underlying26 Try.underlying34 (by kernel_rfl) t3
  obtain ⟨l'⟩ := cs
  match l', hsz with
  | [a, b, e, f], _ =>
    simp at c0 c1 c2 c3
    subst c0 c1 c2 c3
    exact ⟨⟨l0, l1, l2, l3⟩, ⟨A0, d0, A1, d1, A2, d2, A3, d3⟩, rfl, ⟨r0, r1, r2, r3⟩, ⟨b2, b3⟩, ⟨p0, p1, p2, p3⟩⟩
end
end Go.Proofs.Ytechhidfgheejaa
