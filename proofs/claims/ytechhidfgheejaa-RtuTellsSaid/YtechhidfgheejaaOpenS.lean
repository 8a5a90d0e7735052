/- How an argument with structs in it is opened: slices of structs; structs by value. Over any program. -/
import Derived.Test.YtechhidfgheejaaOpen
import Derived.Deep.Slices
import Derived.Deep.Fields
import Derived.ChangeSame
import Derived.Lib.SmallJoins
namespace Go.Proofs.Ytechhidfgheejaa
open Go.RowKit Go.ChangeShapes Go.WideShapes Go.Deep Go.Joins
set_option linter.unusedSimpArgs false
set_option linter.unusedVariables false

theorem list_of {α : Type} (Q : Nat → α → Prop) : ∀ n, (∀ i, i < n → ∃ a, Q i a) → ∃ l : List α, l.length = n ∧ ∀ i a, l[i]? = some a → Q i a := by
  intro n
  induction n with
  | zero => intro _; exact ⟨[], rfl, by simp⟩
  | succ n ih =>
    intro h
    obtain ⟨l, hl, hq⟩ := ih (fun i hi => h i (by omega))
    obtain ⟨a, ha⟩ := h n (by omega)
    refine ⟨l ++ [a], by simp [hl], fun i b hb => ?_⟩
    rcases Nat.lt_or_ge i n with hi | hi
    · rw [List.getElem?_append_left (by omega)] at hb
      exact hq i b hb
    · rw [List.getElem?_append_right (by omega)] at hb
      have : i = n := by
        rcases Nat.lt_or_ge n i with h | h
        · rw [List.getElem?_eq_none (by simp; omega)] at hb; cases hb
        · omega
      subst this
      simp [hl] at hb
      subst hb
      exact ha

section
variable {H : Type} {enc : TypeId × Value → H} {P : Program} {w : World} {base : Nat} {held : Bool}
theorem add_none (b off j : Nat) : (⟨b, off, none⟩ : Addr).add j = ⟨b, off + j, none⟩ := by unfold Addr.add; split <;> simp_all

/-- a slice of structs whose fields are one cell each: every field of every element, read -/
theorem open_recs {t e : TypeId} {fs : Array Field} {fuel : Nat} {v : Value} {x : DataW H × List MemPlace} (ht : P.underlying t = some (.slice e)) (he : P.underlying e = some (.struct fs))
    (hone : oneCellFields P fs = true) (hC : P.cellsOf e = fs.size) (h0 : 0 < fs.size) (h : DataW.trod enc P w base (fun _ => true) held fuel t [v] = some x) :
    ∃ A n c, v = .slice A n c ∧ n ≤ c ∧ c ≤ maxLen ∧ (n = 0 ∨ ∃ b off, A = some ⟨b, off, none⟩ ∧ ∀ i, i < n → ∀ (j : Nat) (f : Field), fs[j]? = some f →
      ∃ u y m, w.cell? ⟨b, off + (i * fs.size + j), none⟩ = some u ∧ DataW.trod enc P w base (fun _ => true) held m f.type [u] = some y) := by
  rcases open_slice ht h with ⟨hcs, _⟩ | ⟨a, len, cap, m, n, D, Pl, hcs, hb, hl, hm, hmm, hx, hi⟩
  · injection hcs with hcs
    exact ⟨none, 0, 0, hcs, Nat.le_refl _, by simp [maxLen], .inl rfl⟩
  · injection hcs with hcs
    refine ⟨some a, len, cap, hcs, hl, hm, ?_⟩
    rcases Nat.eq_zero_or_pos len with hz | hz
    · exact .inl hz
    · right
      simp only [if_true] at hmm
      have key : ∀ i, i < len → ∀ (j : Nat) (f : Field), fs[j]? = some f → ∃ u y m, w.cell? (a.add (i * fs.size + j)) = some u ∧ DataW.trod enc P w base (fun _ => true) held m f.type [u] = some y := by
        intro i hil j f hj
        obtain ⟨cs, hc, htr⟩ := hi i (by omega)
        rw [hC] at hc
        obtain ⟨ys, k, _, _, hcl, hyl, hf⟩ := DataW.trod_struct he htr
        obtain ⟨_, hlen, hat⟩ := World.cells?_some hc
        obtain ⟨ho, hk⟩ := hone_of hone j f hj
        have hjl : j < fs.size := (Array.getElem?_eq_some_iff.1 hj).1
        have hjc : j < cs.length := by omega
        have h1 := hf j f hj
        rw [ho, hk, List.drop_eq_getElem_cons hjc, List.getElem?_eq_getElem (show j < ys.length by omega)] at h1
        refine ⟨cs[j], _, _, ?_, h1⟩
        rw [← add_add, hat j hjl, List.getElem?_eq_getElem hjc]
      obtain ⟨f0, hf0⟩ : ∃ f0, fs[0]? = some f0 := ⟨_, Array.getElem?_eq_getElem h0⟩
      obtain ⟨u, y, k, hu, _⟩ := key 0 hz 0 f0 hf0
      obtain ⟨b, off, rfl⟩ := addr_none (show w.cell? (a.add 0) = some u by simpa using hu)
      refine ⟨b, off, rfl, fun i hi j f hj => ?_⟩
      obtain ⟨u, y, k, hu, ht⟩ := key i hi j f hj
      rw [add_none] at hu
      exact ⟨u, y, k, hu, ht⟩

/-- a struct of one-cell fields by value: its fields, read -/
theorem open_struct {r : Reach} {b0 : Nat} {t : TypeId} {fs : Array Field} {v : Value} {d : DataW H} {p : List MemPlace} (hs : P.underlying t = some (.struct fs)) (hone : oneCellFields P fs = true) (hC : P.cellsOf t = fs.size)
    (hv : Value.okWide P w r b0 t v) (h : DataW.Trod enc P w base (fun _ => true) held t v d p) :
    ∃ cs : Array Value, v = .agg cs ∧ cs.size = fs.size ∧ ∀ (j : Nat) (f : Field), fs[j]? = some f → ∃ u y m, cs[j]? = some u ∧ DataW.trod enc P w base (fun _ => true) held m f.type [u] = some y := by
  obtain ⟨cs, rfl, hsz⟩ := okWide_struct hs hv
  obtain ⟨fuel, hf⟩ := h
  obtain ⟨xs, n, _, hx, hcl, hlen, hg⟩ := DataW.trod_struct hs hf
  have hcs : cs.size = fs.size := by rw [hsz, hC]
  refine ⟨cs, rfl, hcs, fun j f hj => ?_⟩
  obtain ⟨ho, hk⟩ := hone_of hone j f hj
  have hjl : j < fs.size := (Array.getElem?_eq_some_iff.1 hj).1
  have h1 := hg j f hj
  have hvc : (Value.agg cs).cells.toList = cs.toList := by simp [Value.cells]
  rw [ho, hk, hvc, List.drop_eq_getElem_cons (by simp; omega), List.getElem?_eq_getElem (show j < xs.length by omega)] at h1
  exact ⟨cs[j], _, _, Array.getElem?_eq_getElem (by omega), by simpa using h1⟩

/-- a field that is a number -/
theorem field_u8 {t : TypeId} {m : Nat} {u : Value} {y : DataW H × List MemPlace} (ht : P.underlying t = some (.int .u8)) (h : DataW.trod enc P w base (fun _ => true) held m t [u] = some y) : ∃ n : Nat, u = .int .u8 (n : Int) ∧ n < 256 := by
  obtain ⟨n, hu, _, hw⟩ := DataW.trod_int ht h
  obtain ⟨k, rfl, hk⟩ := nat_u8 hw
  injection hu with hu
  exact ⟨k, hu, hk⟩
theorem field_u16 {t : TypeId} {m : Nat} {u : Value} {y : DataW H × List MemPlace} (ht : P.underlying t = some (.int .u16)) (h : DataW.trod enc P w base (fun _ => true) held m t [u] = some y) : ∃ n : Nat, u = .int .u16 (n : Int) ∧ n < 65536 := by
  obtain ⟨n, hu, _, hw⟩ := DataW.trod_int ht h
  obtain ⟨k, rfl, hk⟩ := nat_u16 hw
  injection hu with hu
  exact ⟨k, hu, hk⟩
theorem field_u32 {t : TypeId} {m : Nat} {u : Value} {y : DataW H × List MemPlace} (ht : P.underlying t = some (.int .u32)) (h : DataW.trod enc P w base (fun _ => true) held m t [u] = some y) : ∃ n : Nat, u = .int .u32 (n : Int) ∧ n < 4294967296 := by
  obtain ⟨n, hu, _, hw⟩ := DataW.trod_int ht h
  obtain ⟨k, rfl, hk⟩ := nat_u32 hw
  injection hu with hu
  exact ⟨k, hu, hk⟩
theorem field_int {t : TypeId} {m : Nat} {u : Value} {y : DataW H × List MemPlace} (ht : P.underlying t = some (.int .i64)) (h : DataW.trod enc P w base (fun _ => true) held m t [u] = some y) : ∃ n : Int, u = .int .i64 n ∧ -9223372036854775808 ≤ n ∧ n ≤ 9223372036854775807 := by
  obtain ⟨n, hu, _, hw⟩ := DataW.trod_int ht h
  injection hu with hu
  exact ⟨n, hu, bounds_i64 hw⟩
theorem field_bool {t : TypeId} {m : Nat} {u : Value} {y : DataW H × List MemPlace} (ht : P.underlying t = some .bool) (h : DataW.trod enc P w base (fun _ => true) held m t [u] = some y) : ∃ n : Bool, u = .bool n := by
  obtain ⟨n, hu, _⟩ := DataW.trod_bool ht h
  injection hu with hu
  exact ⟨n, hu⟩
end
end Go.Proofs.Ytechhidfgheejaa
