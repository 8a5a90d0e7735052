/- Slices of structs in memory of the call's own: k cells an element. Over any program. -/
import Derived.Test.YtechhidfgheejaaOwn
namespace Go.Proofs.Ytechhidfgheejaa
open Go.RowKit
set_option linter.unusedSimpArgs false
set_option linter.unusedVariables false

/-- The slice with n elements of k cells each, the cells being xs, in a row of the call's own, at its head. -/
def OwK (w : World) (B : Nat) (e : TypeId) (k : Nat) (A : Option Addr) (n c : Nat) (xs : List Value) : Prop := w.ownsRow B e k (.slice A n c) n xs

section
variable {w w' : World} {B k n : Nat} {e : TypeId} {A : Option Addr} {c : Nat} {xs : List Value}
theorem OwK.rd (h : OwK w B e k A n c xs) : Rd w A xs := by
  rcases h.2 with ⟨_, hn⟩ | ⟨g, cap, cur, hv, hB, hh, hnc, hcm, hcs, ht⟩
  · left
    have := h.1
    rw [hn, Nat.zero_mul] at this
    exact List.eq_nil_of_length_eq_zero this
  · injection hv with hA
    refine .inr ⟨g, 0, hA, fun j u hu => ?_⟩
    rw [Nat.zero_add, cell_of_row w g j cur e (0, 0) hh]
    rw [← ht, List.getElem?_take] at hu
    split at hu
    · simpa using hu
    · cases hu
theorem OwK.kept {row : Option Nat} (h : OwK w B e k A n c xs) (hg : w.grownBy w' row) (hne : Value.ownBlock (.slice A n c) = none ∨ Value.ownBlock (.slice A n c) ≠ row) : OwK w' B e k A n c xs := World.ownsRow.kept h hg hne
theorem OwK.below (h : OwK w B e k A n c xs) (hb : Below w.heap.size w w') : OwK w' B e k A n c xs :=
  World.ownsRow.kept (row := none) h ⟨hb.os, hb.tape, hb.output, hb.size, fun i hi _ => hb.block i hi⟩ (by
    cases hv : Value.ownBlock (.slice A n c) <;> simp)
theorem OwK.alloc (h : OwK w B e k A n c xs) (o : Obj) : OwK (w.alloc o) B e k A n c xs := World.ownsRow.alloc h o
theorem OwK.drewN (h : OwK w B e k A n c xs) (j : Nat) : OwK (w.drewN j) B e k A n c xs := h
theorem OwK.base {B' : Nat} (h : OwK w B e k A n c xs) (hB : B' ≤ B) : OwK w B' e k A n c xs := by
  refine ⟨h.1, ?_⟩
  rcases h.2 with hn | ⟨g, cap, cur, hv, hb, hh⟩
  · exact .inl hn
  · exact .inr ⟨g, cap, cur, hv, by omega, hh⟩
theorem OwK.nil : OwK w B e k none 0 0 [] := World.ownsRow_nil w B e k
theorem OwK.len (h : OwK w B e k A n c xs) : xs.length = n * k := h.1
theorem OwK.le (h : OwK w B e k A n c xs) : n ≤ c := by
  rcases h.2 with ⟨hv, hn⟩ | ⟨g, cap, cur, hv, hB, hh, hnc, hcm, hcs, ht⟩
  · omega
  · injection hv with h1 h2 h3
    subst h3
    exact hnc
theorem OwK.block {g : Nat} (h : OwK w B e k A n c xs) (hg : Value.ownBlock (.slice A n c) = some g) : B ≤ g ∧ g < w.heap.size := World.ownsRow.lt h g hg
theorem OwK.grown {w0 : World} (h : OwK w B e k A n c xs) (hb : Below B w0 w) (hB : B ≤ w.heap.size) (hg : w.grownBy w' (Value.ownBlock (.slice A n c))) : Below B w0 w' :=
  hb.grown hg hB (fun k hk => (h.block hk).1)
theorem OwK.past {g : Nat} (h : OwK w B e k A n c xs) (hg : w.grownBy w' (some g)) (hgB : g < B) : OwK w' B e k A n c xs := by
  refine h.kept hg ?_
  cases hv : Value.ownBlock (.slice A n c) with
  | none => exact .inl rfl
  | some j =>
    refine .inr fun e => ?_
    injection e with e
    have := (h.block hv).1
    omega
theorem OwK.far {N : Nat} (h : OwK w B e k A n c xs) (hN : N < B) (j : Nat) (u : Value) : OwK (w.setCell ⟨N, j, none⟩ u) B e k A n c xs :=
  h.past ⟨rfl, rfl, rfl, by simp [World.setCell], fun i hi hne => Below.heap_setCell w ⟨N, j, none⟩ u i (fun e => hne (by rw [e]))⟩ hN
/-- rows of unlike elements lie in unlike blocks -/
theorem Ow.apart {B2 : Nat} {e2 : TypeId} {k2 n2 c2 : Nat} {A2 : Option Addr} {ys : List Value} (h : Ow w B e A c xs) (h2 : OwK w B2 e2 k2 A2 n2 c2 ys) (hne : e ≠ e2) :
    Value.ownBlock (.slice A xs.length c) = none ∨ Value.ownBlock (.slice A xs.length c) ≠ Value.ownBlock (.slice A2 n2 c2) := by
  rcases h.2 with ⟨hv, _⟩ | ⟨g, cap, cur, hv, _, hh, _⟩
  · rw [hv]; exact .inl rfl
  · right
    rw [hv]
    rcases h2.2 with ⟨hv2, _⟩ | ⟨g2, cap2, cur2, hv2, _, hh2, _⟩
    · rw [hv2]; simp [Value.ownBlock]
    · rw [hv2]
      intro ee
      have : g = g2 := by simpa [Value.ownBlock] using ee
      subst this
      rw [hh] at hh2
      injection hh2 with hh2
      injection hh2 with _ ht
      exact hne ht
theorem Ow.keptApart {B2 : Nat} {e2 : TypeId} {k2 n2 c2 : Nat} {A2 : Option Addr} {ys : List Value} (h : Ow w B e A c xs) (h2 : OwK w B2 e2 k2 A2 n2 c2 ys) (hne : e ≠ e2) (hg : w.grownBy w' (Value.ownBlock (.slice A2 n2 c2))) : Ow w' B e A c xs :=
  h.kept hg (h.apart h2 hne)
end

section
variable {P : Program} {w : World} {ops : Array Oper} {rest : List Oper} {o : Oper} {a : Act} {Q : Exit → Act → World → Prop}

theorem run_append_emptysrcK {B k n : Nat} {A : Option Addr} {c : Nat} {xs : List Value} (t ty e : TypeId) (i : TypeInfo) (ht : P.underlying t = some (.slice e)) (hi : P.info? e = some i)
    (hown : OwK w B e k A n c xs) (c2 : Nat) : (Builtin.append_ #[t, t] ty #[.slice A n c, .slice none 0 c2]).run P w = .ok (.slice A n c) w := by
  rcases hown.2 with ⟨hv, h0⟩ | ⟨g, cap, cur, hv, _, _, hnc, _⟩
  · injection hv with h1 h2 h3
    subst h1 h3
    simp [Builtin.append_, run_underlying ht, sizeOf, typeInfo, hi, Builtin.lenOf, Builtin.firstCells, h2]
  · injection hv with h1 h2 h3
    subst h1 h3
    simp [Builtin.append_, run_underlying ht, sizeOf, typeInfo, hi, Builtin.lenOf, Builtin.firstCells, hnc, storeCells]

/-- append onto a row of the call's own, k cells an element; the source nil, empty or not -/
theorem wp_appK {K : Act → World → Prop} (s x : Operand) (t : TypeId)
    (ho : o.op = .call { callee := .builtin .append, args := #[s, x], argTypes := #[t, t] })
    (e : TypeId) (i : TypeInfo) (z : Value) (k bytes : Nat) (ht : P.underlying t = some (.slice e)) (hi : P.info? e = some i) (hz : i.zero = some z)
    (hsize : i.size = k) (hby : i.bytes = bytes) (hzs : z.cells.size = k) (hk : 0 < k)
    (B : Nat) (w0 : World) (hb : Below B w0 w) (hB : B ≤ w.heap.size)
    (A : Option Addr) (n c : Nat) (xs : List Value) (hs : a.eval s = .slice A n c) (hown : OwK w B e k A n c xs)
    (A2 : Option Addr) (m c2 : Nat) (news : List Value) (hx : a.eval x = .slice A2 m c2) (hr : Rd w A2 news) (hm : news.length = m * k) (h1 : ∀ u ∈ news, u.oneCell' = true)
    (hbytes : (n + m) * bytes ≤ 140737488355328) (hbytes0 : 0 < bytes)
    (h : ∀ A' c' w', OwK w' B e k A' (n + m) c' (xs ++ news) → Below B w0 w' → w.grownBy w' (Value.ownBlock (.slice A n c)) → K (a.put o.dst (.slice A' (n + m) c')) w') : o.wp P a w K Q := by
  have h63 : n + m ≤ maxLen := by
    have : n + m ≤ (n + m) * bytes := Nat.le_mul_of_pos_right _ hbytes0
    simp only [maxLen]; omega
  have fin : ∀ v' w', w'.ownsRow B e k v' (n + m) (xs ++ news) → w.grownBy w' (Value.ownBlock (.slice A n c)) → K (a.put o.dst v') w' := by
    intro v' w' h2 h3
    have hbb := hown.grown hb hB h3
    rcases h2.2 with ⟨rfl, h0⟩ | ⟨g, cap, cur, rfl, r⟩
    · have := h none 0 w' (by unfold OwK; rw [h0]; exact h0 ▸ h2) hbb h3
      rw [h0] at this
      exact this
    · exact h (some ⟨g, 0, none⟩) cap w' h2 hbb h3
  rcases A2 with _ | ad
  · have hn : news = [] := by
      rcases hr with h | ⟨b, off, hA, _⟩
      · exact h
      · cases hA
    subst hn
    have hm0 : m = 0 := by
      simp only [List.length_nil] at hm
      rcases Nat.eq_zero_or_pos m with h | h
      · exact h
      · have := Nat.mul_pos h hk; omega
    subst hm0
    have hrun := run_append_emptysrcK (P := P) (w := w) t o.type e i ht hi hown c2
    unfold Oper.wp
    simp only [execOp, ho, resolve, invoke, builtin, Sem.run_bind, Sem.run_pure, Result.andThen_ok, List.map_toArray, List.map_cons, List.map_nil, hs, hx]
    simp only [hrun, Sem.run_bind, Sem.run_pure, Result.andThen_ok]
    exact fin (.slice A n c) w (by rw [List.append_nil]; exact hown) ⟨rfl, rfl, rfl, Nat.le_refl _, fun _ _ _ => rfl⟩
  · have hcells : ∀ j u, news[j]? = some u → w.cell? (ad.add j) = some u := by
      intro j u hu
      rcases hr with h | ⟨b, off, hA, hc⟩
      · rw [h] at hu; simp at hu
      · injection hA with hA
        subst hA
        have hadd : (⟨b, off, none⟩ : Addr).add j = ⟨b, off + j, none⟩ := by unfold Addr.add; split <;> simp_all
        rw [hadd]
        exact hc j u hu
    obtain ⟨v', w', hrun, h2, h3, _, h5⟩ := run_append_own_at (P := P) w B t o.type e i z k bytes ht hi hz hsize hby hzs hk (.slice A n c) n xs hown ad m c2 news hm hcells h1 h63 hbytes hB
    unfold Oper.wp execOp
    simp only [ho, resolve, invoke, builtin, Sem.run_bind, Sem.run_pure, Result.andThen_ok, List.map_toArray, List.map_cons, List.map_nil, hs, hx, hrun]
    exact fin v' w' h2 h3
theorem wpList_appK (hgd : o.guard = none) (s x : Operand) (t : TypeId)
    (ho : o.op = .call { callee := .builtin .append, args := #[s, x], argTypes := #[t, t] })
    (e : TypeId) (i : TypeInfo) (z : Value) (k bytes : Nat) (ht : P.underlying t = some (.slice e)) (hi : P.info? e = some i) (hz : i.zero = some z)
    (hsize : i.size = k) (hby : i.bytes = bytes) (hzs : z.cells.size = k) (hk : 0 < k)
    (B : Nat) (w0 : World) (hb : Below B w0 w) (hB : B ≤ w.heap.size)
    (A : Option Addr) (n c : Nat) (xs : List Value) (hs : a.eval s = .slice A n c) (hown : OwK w B e k A n c xs)
    (A2 : Option Addr) (m c2 : Nat) (news : List Value) (hx : a.eval x = .slice A2 m c2) (hr : Rd w A2 news) (hm : news.length = m * k) (h1 : ∀ u ∈ news, u.oneCell' = true)
    (hbytes : (n + m) * bytes ≤ 140737488355328) (hbytes0 : 0 < bytes)
    (h : ∀ A' c' w', OwK w' B e k A' (n + m) c' (xs ++ news) → Below B w0 w' → w.grownBy w' (Value.ownBlock (.slice A n c)) → wpList P ops Q rest (a.put o.dst (.slice A' (n + m) c')) w') :
    wpList P ops Q (o :: rest) a w :=
  wpList_plain hgd fun _ hK => wp_appK s x t ho e i z k bytes ht hi hz hsize hby hzs hk B w0 hb hB A n c xs hs hown A2 m c2 news hx hr hm h1 hbytes hbytes0 fun A' c' w' h2 h3 h4 => hK _ _ (h A' c' w' h2 h3 h4)
theorem step_appK {K : Act → World → Prop} {E : Prop} (hgd : o.guard = none) (s x : Operand) (t : TypeId)
    (ho : o.op = .call { callee := .builtin .append, args := #[s, x], argTypes := #[t, t] })
    (e : TypeId) (i : TypeInfo) (z : Value) (k bytes : Nat) (ht : P.underlying t = some (.slice e)) (hi : P.info? e = some i) (hz : i.zero = some z)
    (hsize : i.size = k) (hby : i.bytes = bytes) (hzs : z.cells.size = k) (hk : 0 < k)
    (B : Nat) (w0 : World) (hb : Below B w0 w) (hB : B ≤ w.heap.size)
    (A : Option Addr) (n c : Nat) (xs : List Value) (hs : a.eval s = .slice A n c) (hown : OwK w B e k A n c xs)
    (A2 : Option Addr) (m c2 : Nat) (news : List Value) (hx : a.eval x = .slice A2 m c2) (hr : Rd w A2 news) (hm : news.length = m * k) (h1 : ∀ u ∈ news, u.oneCell' = true)
    (hbytes : (n + m) * bytes ≤ 140737488355328) (hbytes0 : 0 < bytes)
    (h : ∀ A' c' w', OwK w' B e k A' (n + m) c' (xs ++ news) → Below B w0 w' → w.grownBy w' (Value.ownBlock (.slice A n c)) → K (a.put o.dst (.slice A' (n + m) c')) w') :
    if Region.wanted o (yielded ops a.tmps) = true then Oper.wp P o a w K Q else E := by
  have hw : Region.wanted o (yielded ops a.tmps) = true := by simp [Region.wanted, hgd]
  rw [if_pos hw]
  exact wp_appK s x t ho e i z k bytes ht hi hz hsize hby hzs hk B w0 hb hB A n c xs hs hown A2 m c2 news hx hr hm h1 hbytes hbytes0 h
end
end Go.Proofs.Ytechhidfgheejaa
