/- Slices in memory of the call's own: making, appending, copying. Over any program. -/
import Derived.Test.YtechhidfgheejaaWords
import Derived.Laws.OwnMore
import Derived.Laws.AppendOwnNone
import Derived.Laws.CopyOwn
import Derived.OwnWalk
import Derived.Maps.AppendAt
namespace Go.Proofs.Ytechhidfgheejaa
open Go.RowKit
set_option linter.unusedSimpArgs false
set_option linter.unusedVariables false

/-- The slice with the address A and the capacity c holds the cells xs, in a row of the call's own (from block B on), at its head. -/
def Ow (w : World) (B : Nat) (e : TypeId) (A : Option Addr) (c : Nat) (xs : List Value) : Prop := w.ownsRow B e 1 (.slice A xs.length c) xs.length xs

section
variable {w w' : World} {B : Nat} {e : TypeId} {A : Option Addr} {c : Nat} {xs : List Value}
theorem Ow.rd (h : Ow w B e A c xs) : Rd w A xs := by
  rcases Nat.eq_zero_or_pos xs.length with h0 | h0
  · exact .inl (List.eq_nil_of_length_eq_zero h0)
  · rcases h.2 with ⟨_, hn⟩ | ⟨g, cap, cur, hv, hB, hh, hnc, hcm, hcs, ht⟩
    · omega
    · injection hv with hA
      refine .inr ⟨g, 0, hA, fun j u hu => ?_⟩
      rw [Nat.zero_add, cell_of_row w g j cur e (0, 0) hh]
      rw [← ht, List.getElem?_take] at hu
      split at hu
      · simpa using hu
      · cases hu
theorem Ow.kept {row : Option Nat} (h : Ow w B e A c xs) (hg : w.grownBy w' row) (hne : Value.ownBlock (.slice A xs.length c) = none ∨ Value.ownBlock (.slice A xs.length c) ≠ row) : Ow w' B e A c xs := World.ownsRow.kept h hg hne
theorem Ow.below (h : Ow w B e A c xs) (hb : Below w.heap.size w w') : Ow w' B e A c xs :=
  World.ownsRow.kept (row := none) h ⟨hb.os, hb.tape, hb.output, hb.size, fun i hi _ => hb.block i hi⟩ (by
    cases hv : Value.ownBlock (.slice A xs.length c) <;> simp)
theorem Ow.alloc (h : Ow w B e A c xs) (o : Obj) : Ow (w.alloc o) B e A c xs := World.ownsRow.alloc h o
theorem Ow.drew (h : Ow w B e A c xs) : Ow w.drew B e A c xs := h
theorem Ow.drewN (h : Ow w B e A c xs) (k : Nat) : Ow (w.drewN k) B e A c xs := h
theorem Ow.base {B' : Nat} (h : Ow w B e A c xs) (hB : B' ≤ B) : Ow w B' e A c xs := by
  refine ⟨h.1, ?_⟩
  rcases h.2 with hn | ⟨g, cap, cur, hv, hb, hh⟩
  · exact .inl hn
  · exact .inr ⟨g, cap, cur, hv, by omega, hh⟩
theorem Ow.nil : Ow w B e none 0 [] := World.ownsRow_nil w B e 1
theorem Ow.le (h : Ow w B e A c xs) : xs.length ≤ c ∧ c ≤ maxLen := by
  rcases h.2 with ⟨hv, hn⟩ | ⟨g, cap, cur, hv, hB, hh, hnc, hcm, hcs, ht⟩
  · injection hv with h1 h2 h3
    subst h3
    exact ⟨by omega, by simp [maxLen]⟩
  · injection hv with h1 h2 h3
    subst h3
    exact ⟨hnc, hcm⟩
theorem Ow.block {g : Nat} (h : Ow w B e A c xs) (hg : Value.ownBlock (.slice A xs.length c) = some g) : B ≤ g ∧ g < w.heap.size := World.ownsRow.lt h g hg
theorem Ow.grown {w0 : World} {row : Option Nat} (h : Ow w B e A c xs) (hb : Below B w0 w) (hB : B ≤ w.heap.size) (hg : w.grownBy w' (Value.ownBlock (.slice A xs.length c))) : Below B w0 w' :=
  hb.grown hg hB (fun k hk => (h.block hk).1)
/-- its address, where it has an element -/
theorem Ow.head (h : Ow w B e A c xs) (h0 : 0 < xs.length) : ∃ g, A = some ⟨g, 0, none⟩ ∧ B ≤ g ∧ g < w.heap.size ∧ (∀ j u, xs[j]? = some u → w.cell? ⟨g, j, none⟩ = some u) ∧ ∀ j, w.frozen? ⟨g, j, none⟩ = false := by
  rcases h.2 with ⟨_, hn⟩ | ⟨g, cap, cur, hv, hB, hh, hnc, hcm, hcs, ht⟩
  · omega
  · injection hv with hA hl hc
    refine ⟨g, hA, hB, (Array.getElem?_eq_some_iff.1 hh).1, fun j u hu => ?_, fun j => frozen_of_row w g j cur e hh⟩
    rw [cell_of_row w g j cur e (0, 0) hh]
    rw [← ht, List.getElem?_take] at hu
    split at hu
    · simpa using hu
    · cases hu
theorem Rd.other {b off : Nat} {row : Option Nat} (h : Rd w (some ⟨b, off, none⟩) xs) (hg : w.grownBy w' row) (hne : some b ≠ row) : Rd w' (some ⟨b, off, none⟩) xs := by
  rcases h with h | ⟨b', off', hA, hc⟩
  · exact .inl h
  · injection hA with hA
    injection hA with h1 h2
    subst h1 h2
    refine .inr ⟨b, off, rfl, fun j u hu => ?_⟩
    have := hc j u hu
    exact (World.cell?_of_block (hg.block b (World.block_lt_of_cell? w _ this) hne)).trans this
theorem Ow.notnew (h : Ow w B e A c xs) (n : Nat) : some w.heap.size ≠ Value.ownBlock (.slice A n c) := by
  intro e
  rcases A with _ | a
  · cases e
  · have h1 : Value.ownBlock (.slice (some a) xs.length c) = some w.heap.size := by
      simp only [Value.ownBlock] at e ⊢
      exact e.symm
    have := (h.block h1).2
    omega
theorem Ow.past {g : Nat} (h : Ow w B e A c xs) (hg : w.grownBy w' (some g)) (hgB : g < B) : Ow w' B e A c xs := by
  refine h.kept hg ?_
  cases hv : Value.ownBlock (.slice A xs.length c) with
  | none => exact .inl rfl
  | some k =>
    refine .inr fun e => ?_
    injection e with e
    have := (h.block hv).1
    omega
theorem Ow.far {N : Nat} (h : Ow w B e A c xs) (hN : N < B) (j : Nat) (u : Value) : Ow (w.setCell ⟨N, j, none⟩ u) B e A c xs :=
  h.past ⟨rfl, rfl, rfl, by simp [World.setCell], fun i hi hne => Below.heap_setCell w ⟨N, j, none⟩ u i (fun e => hne (by rw [e]))⟩ hN
/-- a row that has just been laid -/
theorem Ow.lit (w : World) (B : Nat) (e : TypeId) (cs : List Value) (hB : B ≤ w.heap.size) (hm : cs.length ≤ maxLen) (hx : xs = cs) (hc : c = cs.length) : Ow (w.alloc (.cells cs.toArray e)) B e (some ⟨w.heap.size, 0, none⟩) c xs := by
  subst hx hc
  exact ⟨by simp, .inr ⟨w.heap.size, xs.length, xs.toArray, rfl, hB, heap_alloc_new w _, Nat.le_refl _, hm, by simp, by simp⟩⟩
/-- a cell of it -/
theorem Ow.at_ {g : Nat} (h : Ow w B e (some ⟨g, 0, none⟩) c xs) {j : Nat} (hj : j < xs.length) : (∃ u, xs[j]? = some u ∧ w.cell? ⟨g, j, none⟩ = some u) ∧ w.frozen? ⟨g, j, none⟩ = false ∧ B ≤ g ∧ g < w.heap.size := by
  obtain ⟨g', hA, hB, hlt, hc, hf⟩ := h.head (by omega)
  injection hA with hA
  injection hA with hA
  subst hA
  exact ⟨⟨_, List.getElem?_eq_getElem hj, hc j _ (List.getElem?_eq_getElem hj)⟩, hf j, hB, hlt⟩
/-- one element stored -/
theorem Ow.stored {g : Nat} (h : Ow w B e (some ⟨g, 0, none⟩) c xs) (j : Nat) (u : Value) : Ow (w.setCell ⟨g, j, none⟩ u) B e (some ⟨g, 0, none⟩) c (xs.set j u) := by
  have hs := World.ownsRow.stored (g := g) (cap := c) h j u
  unfold Ow
  rw [List.length_set]
  exact hs.1
end

section
variable {P : Program} {w : World} {ops : Array Oper} {rest : List Oper} {o : Oper} {a : Act} {Q : Exit → Act → World → Prop}

theorem run_append_emptysrc {B : Nat} {A : Option Addr} {c : Nat} {xs : List Value} (t ty e : TypeId) (i : TypeInfo) (ht : P.underlying t = some (.slice e)) (hi : P.info? e = some i)
    (hown : Ow w B e A c xs) (c2 : Nat) : (Builtin.append_ #[t, t] ty #[.slice A xs.length c, .slice none 0 c2]).run P w = .ok (.slice A xs.length c) w := by
  rcases hown.2 with ⟨hv, h0⟩ | ⟨g, cap, cur, hv, _, _, hnc, _⟩
  · injection hv with h1 h2 h3
    subst h1 h3
    simp [Builtin.append_, run_underlying ht, sizeOf, typeInfo, hi, Builtin.lenOf, Builtin.firstCells, h2]
  · injection hv with h1 h2 h3
    subst h1 h3
    simp [Builtin.append_, run_underlying ht, sizeOf, typeInfo, hi, Builtin.lenOf, Builtin.firstCells, hnc, storeCells]

/-- append onto a row of the call's own, the source nil, empty or not -/
theorem wp_appL {K : Act → World → Prop} (s x : Operand) (t : TypeId)
    (ho : o.op = .call { callee := .builtin .append, args := #[s, x], argTypes := #[t, t] })
    (e : TypeId) (i : TypeInfo) (z : Value) (bytes : Nat) (ht : P.underlying t = some (.slice e)) (hi : P.info? e = some i) (hz : i.zero = some z)
    (hsize : i.size = 1) (hby : i.bytes = bytes) (hzs : z.cells.size = 1)
    (B : Nat) (w0 : World) (hb : Below B w0 w) (hB : B ≤ w.heap.size)
    (A : Option Addr) (n c : Nat) (xs : List Value) (hs : a.eval s = .slice A n c) (hown : Ow w B e A c xs) (hn : xs.length = n)
    (A2 : Option Addr) (m c2 : Nat) (news : List Value) (hx : a.eval x = .slice A2 m c2) (hr : Rd w A2 news) (hm : news.length = m) (h1 : ∀ u ∈ news, u.oneCell' = true)
    (hbytes : (n + m) * bytes ≤ 140737488355328) (hbytes0 : 0 < bytes)
    (h : ∀ A' c' w', Ow w' B e A' c' (xs ++ news) → Below B w0 w' → w.grownBy w' (Value.ownBlock (.slice A n c)) → (A'.map (·.block) = A.map (·.block) ∨ A'.map (·.block) = some w.heap.size) → K (a.put o.dst (.slice A' (n + m) c')) w') : o.wp P a w K Q := by
  subst hn hm
  have h63 : xs.length + news.length ≤ maxLen := by
    have : xs.length + news.length ≤ (xs.length + news.length) * bytes := Nat.le_mul_of_pos_right _ hbytes0
    simp only [maxLen]; omega
  have hlen : (xs ++ news).length = xs.length + news.length := List.length_append
  have fin : ∀ v' w', w'.ownsRow B e 1 v' (xs.length + news.length) (xs ++ news) → w.grownBy w' (Value.ownBlock (.slice A xs.length c)) → (v'.ownBlock = Value.ownBlock (.slice A xs.length c) ∨ v'.ownBlock = some w.heap.size) → K (a.put o.dst v') w' := by
    intro v' w' h2 h3 h5
    have ob : ∀ (X : Option Addr) (n c : Nat), Value.ownBlock (.slice X n c) = X.map (·.block) := fun X n c => by cases X <;> rfl
    rw [ob] at h5
    have hbb := Ow.grown (row := none) hown hb hB h3
    rcases h2.2 with ⟨rfl, h0⟩ | ⟨g, cap, cur, rfl, r⟩
    · have := h none 0 w' (by unfold Ow; rw [hlen, h0]; exact h0 ▸ h2) hbb h3 (by simpa [Value.ownBlock] using h5)
      rw [h0] at this
      exact this
    · exact h (some ⟨g, 0, none⟩) cap w' (by unfold Ow; rw [hlen]; exact h2) hbb h3 (by simpa [Value.ownBlock] using h5)
  rcases A2 with _ | ad
  · have hn : news = [] := by
      rcases hr with h | ⟨b, off, hA, _⟩
      · exact h
      · cases hA
    subst hn
    have hrun := run_append_emptysrc (P := P) (w := w) t o.type e i ht hi hown c2
    unfold Oper.wp
    simp only [execOp, ho, resolve, invoke, builtin, Sem.run_bind, Sem.run_pure, Result.andThen_ok, List.map_toArray, List.map_cons, List.map_nil, hs, hx]
    simp only [List.length_nil] at hx hrun ⊢
    simp only [hrun, Sem.run_bind, Sem.run_pure, Result.andThen_ok]
    exact fin (.slice A xs.length c) w (by rw [List.append_nil]; exact hown) ⟨rfl, rfl, rfl, Nat.le_refl _, fun _ _ _ => rfl⟩ (.inl rfl)
  · have hcells : ∀ j u, news[j]? = some u → w.cell? (ad.add j) = some u := by
      intro j u hu
      rcases hr with h | ⟨b, off, hA, hc⟩
      · rw [h] at hu; simp at hu
      · injection hA with hA
        subst hA
        have hadd : (⟨b, off, none⟩ : Addr).add j = ⟨b, off + j, none⟩ := by unfold Addr.add; split <;> simp_all
        rw [hadd]
        exact hc j u hu
    obtain ⟨v', w', hrun, h2, h3, _, h5⟩ := run_append_own_at (P := P) w B t o.type e i z 1 bytes ht hi hz hsize hby hzs (by decide) (.slice A xs.length c) xs.length xs hown ad news.length c2 news (by simp) hcells h1 h63 hbytes hB
    unfold Oper.wp execOp
    simp only [ho, resolve, invoke, builtin, Sem.run_bind, Sem.run_pure, Result.andThen_ok, List.map_toArray, List.map_cons, List.map_nil, hs, hx, hrun]
    exact fin v' w' h2 h3 h5
theorem wp_app {K : Act → World → Prop} (s x : Operand) (t : TypeId)
    (ho : o.op = .call { callee := .builtin .append, args := #[s, x], argTypes := #[t, t] })
    (e : TypeId) (i : TypeInfo) (z : Value) (bytes : Nat) (ht : P.underlying t = some (.slice e)) (hi : P.info? e = some i) (hz : i.zero = some z)
    (hsize : i.size = 1) (hby : i.bytes = bytes) (hzs : z.cells.size = 1)
    (B : Nat) (w0 : World) (hb : Below B w0 w) (hB : B ≤ w.heap.size)
    (A : Option Addr) (n c : Nat) (xs : List Value) (hs : a.eval s = .slice A n c) (hown : Ow w B e A c xs) (hn : xs.length = n)
    (A2 : Option Addr) (m c2 : Nat) (news : List Value) (hx : a.eval x = .slice A2 m c2) (hr : Rd w A2 news) (hm : news.length = m) (h1 : ∀ u ∈ news, u.oneCell' = true)
    (hbytes : (n + m) * bytes ≤ 140737488355328) (hbytes0 : 0 < bytes)
    (h : ∀ A' c' w', Ow w' B e A' c' (xs ++ news) → Below B w0 w' → w.grownBy w' (Value.ownBlock (.slice A n c)) → K (a.put o.dst (.slice A' (n + m) c')) w') : o.wp P a w K Q :=
  wp_appL s x t ho e i z bytes ht hi hz hsize hby hzs B w0 hb hB A n c xs hs hown hn A2 m c2 news hx hr hm h1 hbytes hbytes0 fun A' c' w' h2 h3 h4 _ => h A' c' w' h2 h3 h4
theorem step_appL {K : Act → World → Prop} {E : Prop} (hgd : o.guard = none) (s x : Operand) (t : TypeId)
    (ho : o.op = .call { callee := .builtin .append, args := #[s, x], argTypes := #[t, t] })
    (e : TypeId) (i : TypeInfo) (z : Value) (bytes : Nat) (ht : P.underlying t = some (.slice e)) (hi : P.info? e = some i) (hz : i.zero = some z)
    (hsize : i.size = 1) (hby : i.bytes = bytes) (hzs : z.cells.size = 1)
    (B : Nat) (w0 : World) (hb : Below B w0 w) (hB : B ≤ w.heap.size)
    (A : Option Addr) (n c : Nat) (xs : List Value) (hs : a.eval s = .slice A n c) (hown : Ow w B e A c xs) (hn : xs.length = n)
    (A2 : Option Addr) (m c2 : Nat) (news : List Value) (hx : a.eval x = .slice A2 m c2) (hr : Rd w A2 news) (hm : news.length = m) (h1 : ∀ u ∈ news, u.oneCell' = true)
    (hbytes : (n + m) * bytes ≤ 140737488355328) (hbytes0 : 0 < bytes)
    (h : ∀ A' c' w', Ow w' B e A' c' (xs ++ news) → Below B w0 w' → w.grownBy w' (Value.ownBlock (.slice A n c)) → (A'.map (·.block) = A.map (·.block) ∨ A'.map (·.block) = some w.heap.size) → K (a.put o.dst (.slice A' (n + m) c')) w') :
    if Region.wanted o (yielded ops a.tmps) = true then Oper.wp P o a w K Q else E := by
  have hw : Region.wanted o (yielded ops a.tmps) = true := by simp [Region.wanted, hgd]
  rw [if_pos hw]
  exact wp_appL s x t ho e i z bytes ht hi hz hsize hby hzs B w0 hb hB A n c xs hs hown hn A2 m c2 news hx hr hm h1 hbytes hbytes0 h
theorem wpList_app (hgd : o.guard = none) (s x : Operand) (t : TypeId)
    (ho : o.op = .call { callee := .builtin .append, args := #[s, x], argTypes := #[t, t] })
    (e : TypeId) (i : TypeInfo) (z : Value) (bytes : Nat) (ht : P.underlying t = some (.slice e)) (hi : P.info? e = some i) (hz : i.zero = some z)
    (hsize : i.size = 1) (hby : i.bytes = bytes) (hzs : z.cells.size = 1)
    (B : Nat) (w0 : World) (hb : Below B w0 w) (hB : B ≤ w.heap.size)
    (A : Option Addr) (n c : Nat) (xs : List Value) (hs : a.eval s = .slice A n c) (hown : Ow w B e A c xs) (hn : xs.length = n)
    (A2 : Option Addr) (m c2 : Nat) (news : List Value) (hx : a.eval x = .slice A2 m c2) (hr : Rd w A2 news) (hm : news.length = m) (h1 : ∀ u ∈ news, u.oneCell' = true)
    (hbytes : (n + m) * bytes ≤ 140737488355328) (hbytes0 : 0 < bytes)
    (h : ∀ A' c' w', Ow w' B e A' c' (xs ++ news) → Below B w0 w' → w.grownBy w' (Value.ownBlock (.slice A n c)) → wpList P ops Q rest (a.put o.dst (.slice A' (n + m) c')) w') :
    wpList P ops Q (o :: rest) a w :=
  wpList_plain hgd fun _ hK => wp_app s x t ho e i z bytes ht hi hz hsize hby hzs B w0 hb hB A n c xs hs hown hn A2 m c2 news hx hr hm h1 hbytes hbytes0 fun A' c' w' h2 h3 h4 => hK _ _ (h A' c' w' h2 h3 h4)
theorem step_app {K : Act → World → Prop} {E : Prop} (hgd : o.guard = none) (s x : Operand) (t : TypeId)
    (ho : o.op = .call { callee := .builtin .append, args := #[s, x], argTypes := #[t, t] })
    (e : TypeId) (i : TypeInfo) (z : Value) (bytes : Nat) (ht : P.underlying t = some (.slice e)) (hi : P.info? e = some i) (hz : i.zero = some z)
    (hsize : i.size = 1) (hby : i.bytes = bytes) (hzs : z.cells.size = 1)
    (B : Nat) (w0 : World) (hb : Below B w0 w) (hB : B ≤ w.heap.size)
    (A : Option Addr) (n c : Nat) (xs : List Value) (hs : a.eval s = .slice A n c) (hown : Ow w B e A c xs) (hn : xs.length = n)
    (A2 : Option Addr) (m c2 : Nat) (news : List Value) (hx : a.eval x = .slice A2 m c2) (hr : Rd w A2 news) (hm : news.length = m) (h1 : ∀ u ∈ news, u.oneCell' = true)
    (hbytes : (n + m) * bytes ≤ 140737488355328) (hbytes0 : 0 < bytes)
    (h : ∀ A' c' w', Ow w' B e A' c' (xs ++ news) → Below B w0 w' → w.grownBy w' (Value.ownBlock (.slice A n c)) → K (a.put o.dst (.slice A' (n + m) c')) w') :
    if Region.wanted o (yielded ops a.tmps) = true then Oper.wp P o a w K Q else E := by
  have hw : Region.wanted o (yielded ops a.tmps) = true := by simp [Region.wanted, hgd]
  rw [if_pos hw]
  exact wp_app s x t ho e i z bytes ht hi hz hsize hby hzs B w0 hb hB A n c xs hs hown hn A2 m c2 news hx hr hm h1 hbytes hbytes0 h

/-- make([]T, 0, n) -/
theorem wpList_mk0 (hg : o.guard = none) (l c : Operand) (t : TypeId) (hop : o.op = Op.makeSlice t l c)
    (e : TypeId) (i : TypeInfo) (z : Value) (bytes : Nat) (h1 : P.underlying t = some (.slice e)) (h2 : P.info? e = some i) (h3 : i.zero = some z) (h4 : i.size = 1) (h5 : i.bytes = bytes)
    (B : Nat) (w0 : World) (hb : Below B w0 w) (hB : B ≤ w.heap.size)
    (kl kc : IntKind) (C : Int) (n : Nat) (hl : a.eval l = .int kl 0) (hc : a.eval c = .int kc C) (hC : C = (n : Int)) (b2 : bytes * n ≤ 281474976710656) (b3 : n ≤ maxLen)
    (hK : ∀ w', Ow w' B e (some ⟨w.heap.size, 0, none⟩) n [] → Below B w0 w' → w.grownBy w' none → wpList P ops Q rest (a.put o.dst (.slice (some ⟨w.heap.size, 0, none⟩) 0 n)) w') :
    wpList P ops Q (o :: rest) a w := by
  subst h5
  refine wpList_make_own w hg l c t hop B e i z 1 h1 h2 h3 h4 kl kc C n hl hc hC b2 b3 hB ?_
  intro w' r1 r2
  exact hK w' r1 (hb.grown r2 hB (fun k hk => by cases hk)) r2

/-- make([]T, n) -/
theorem wpList_mkn (hg : o.guard = none) (l c : Operand) (t : TypeId) (hop : o.op = Op.makeSlice t l c)
    (e : TypeId) (i : TypeInfo) (z : Value) (bytes : Nat) (h1 : P.underlying t = some (.slice e)) (h2 : P.info? e = some i) (h3 : i.zero = some z) (h4 : i.size = 1) (h5 : i.bytes = bytes) (h6 : z.cells = #[z])
    (B : Nat) (w0 : World) (hb : Below B w0 w) (hB : B ≤ w.heap.size)
    (kl kc : IntKind) (L C : Int) (n : Nat) (hl : a.eval l = .int kl L) (hc : a.eval c = .int kc C) (hL : L = (n : Int)) (hC : C = (n : Int)) (b2 : bytes * n ≤ 281474976710656) (b3 : n ≤ maxLen)
    (hK : ∀ w', Ow w' B e (some ⟨w.heap.size, 0, none⟩) n (List.replicate n z) → Below B w0 w' → w.grownBy w' none → w'.heap.size = w.heap.size + 1 → wpList P ops Q rest (a.put o.dst (.slice (some ⟨w.heap.size, 0, none⟩) n n)) w') :
    wpList P ops Q (o :: rest) a w := by
  subst h5 hL hC
  refine wpList_plain hg fun K hK' => ?_
  have hbI : (i.bytes : Int) * (n : Int) ≤ 281474976710656 := by
    have h : ((i.bytes * n : Nat) : Int) ≤ 281474976710656 := by omega
    rwa [Int.natCast_mul] at h
  have b3' : n ≤ 9223372036854775807 := by simpa [maxLen] using b3
  have hrun := run_make (P := P) w t e i z h1 h2 h3 kl kc n n (by omega) (by omega) hbI (by omega)
  simp only [Int.toNat_natCast] at hrun
  rw [h4, Nat.mul_one, h6] at hrun
  unfold Oper.wp
  simp only [execOp, hop, hl, hc, Sem.run_bind, Sem.run_pure, hrun, Result.andThen_ok]
  have hOw : Ow (w.alloc (.cells (madeCells #[z] n) e)) B e (some ⟨w.heap.size, 0, none⟩) n (List.replicate n z) := by
    refine ⟨by simp, .inr ⟨w.heap.size, n, madeCells #[z] n, by simp, hB, heap_alloc_new w _, by simp, b3, by simp [size_madeCells], ?_⟩⟩
    rw [toList_madeCells_one]
    simp
  exact hK' _ _ (hK _ hOw (hb.alloc hB _) (World.grownBy_alloc w _ none) (by simp))

theorem take_splice {cur cs : List Value} {n : Nat} (h : cs.length ≤ n) (hn : n ≤ cur.length) : (splice cur 0 cs).take n = cs ++ (cur.take n).drop cs.length := by
  simp only [splice, List.take_zero, List.nil_append, Nat.zero_add]
  rw [List.take_append, List.take_of_length_le h, List.take_drop]
  congr 2
  rw [show cs.length + (n - cs.length) = n from by omega]

/-- copy into a row of the call's own -/
theorem wpList_cpy (hgd : o.guard = none) (d s : Operand) (dT sT : TypeId)
    (ho : o.op = .call { callee := .builtin .copy, args := #[d, s], argTypes := #[dT, sT] }) (e : TypeId) (hu : P.underlying dT = some (.slice e)) (hsz : (P.info? e).map (·.size) = some 1)
    (B : Nat) (w0 : World) (hb : Below B w0 w)
    (A : Option Addr) (n c : Nat) (xs : List Value) (hd : a.eval d = .slice A n c) (hown : Ow w B e A c xs) (hn : xs.length = n)
    (A2 : Option Addr) (m c2 : Nat) (news : List Value) (hs : a.eval s = .slice A2 m c2) (hr : Rd w A2 news) (hm : news.length = m) (h1 : ∀ u ∈ news, u.oneCell' = true)
    (h : ∀ w', Ow w' B e A c (news.take n ++ xs.drop m) → Below B w0 w' → w'.heap.size = w.heap.size → w.grownBy w' (Value.ownBlock (.slice A n c)) → wpList P ops Q rest (a.put o.dst (goInt ((min m n : Nat) : Int))) w') :
    wpList P ops Q (o :: rest) a w := by
  subst hn hm
  by_cases h0 : min news.length xs.length = 0
  · refine wpList_copy_nothing hgd d s dT sT ho e hu hsz A A2 xs.length c news.length c2 hd hs (by simpa using h0) ?_
    have e1 : news.take xs.length ++ xs.drop news.length = xs := by
      rcases Nat.eq_zero_or_pos news.length with e0 | e0
      · rw [List.eq_nil_of_length_eq_zero e0]; simp
      · have : xs.length = 0 := by omega
        rw [List.eq_nil_of_length_eq_zero this]; simp
    have := h w (by rw [e1]; exact hown) hb rfl ⟨rfl, rfl, rfl, Nat.le_refl _, fun _ _ _ => rfl⟩
    rw [h0] at this
    exact this
  · obtain ⟨g, rfl, hBg, hgl, hcell, hfr⟩ := hown.head (by omega)
    rcases hown.2 with ⟨hv, _⟩ | ⟨g', cap, cur, hv, _, hh, hnc, hcm, hcs, ht⟩
    · cases hv
    · injection hv with hv1 hv2 hv3
      injection hv1 with hv1
      injection hv1 with hv1
      subst hv1 hv3
      rcases hr with hr | ⟨b, off, rfl, hc⟩
      · rw [hr] at h0; simp at h0
      · have hlen : (news.take xs.length).length = min news.length xs.length := by rw [List.length_take, Nat.min_comm]
        refine wpList_copy_own hgd d s dT sT ho e hu hsz g 0 xs.length c ⟨b, off, none⟩ news.length c2 hd hs cur e hh (news.take xs.length) (by rw [hlen]) ?_ ?_ ?_ ?_
        · intro j u hu'
          have hadd : (⟨b, off, none⟩ : Addr).add j = ⟨b, off + j, none⟩ := by unfold Addr.add; split <;> simp_all
          rw [hadd]
          refine hc j u ?_
          rw [List.getElem?_take] at hu'
          split at hu'
          · exact hu'
          · cases hu'
        · rw [hlen]; simp at hcs; omega
        · exact fun u hu' => h1 u (List.mem_of_mem_take hu')
        · rw [hlen]
          simp only [Nat.mul_one] at hcs ht
          refine h _ ?_ (below_setRow hb hBg _) (by simp) ⟨rfl, rfl, rfl, by simp, fun k _ hk => setRow_other w g k _ (fun e => hk (by simp [Value.ownBlock, e]))⟩
          have hlen2 : (news.take xs.length ++ xs.drop news.length).length = xs.length := by simp only [List.length_append, List.length_take, List.length_drop]; omega
          unfold Ow
          rw [hlen2]
          refine ⟨by rw [hlen2, Nat.mul_one], .inr ⟨g, c, _, rfl, hBg, setRow_heap w g cur _ e _ hh, hnc, hcm, ?_, ?_⟩⟩
          · simp only [List.size_toArray, List.length_append, List.length_take, List.length_drop, Array.length_toList, Nat.mul_one]
            omega
          · simp only [Nat.mul_one]
            have hcl : cur.toList.length = c := by simpa using hcs
            have := take_splice (cur := cur.toList) (cs := news.take xs.length) (n := xs.length) (by rw [hlen]; omega) (by rw [hcl]; exact hnc)
            rw [ht] at this
            have e2 : xs.drop (news.take xs.length).length = xs.drop news.length := by
              rw [hlen]
              rcases Nat.le_total news.length xs.length with hle | hle
              · rw [Nat.min_eq_left hle]
              · rw [Nat.min_eq_right hle, List.drop_length, List.drop_of_length_le hle]
            rw [e2] at this
            simpa [splice, hlen] using this
end
end Go.Proofs.Ytechhidfgheejaa
