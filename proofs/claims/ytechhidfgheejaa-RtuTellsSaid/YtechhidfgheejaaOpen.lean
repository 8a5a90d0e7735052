/- How an argument that came in is opened, in the words of this seat's walks. Over any program. -/
import Derived.Test.YtechhidfgheejaaWords
import Derived.ProofKit
import Derived.OpenShut
import Derived.Deep.Grids
namespace Go.Proofs.Ytechhidfgheejaa
open Go.RowKit Go.ChangeShapes Go.WideShapes
set_option linter.unusedSimpArgs false
set_option linter.unusedVariables false

section
variable {H : Type} {enc : TypeId × Value → H} {P : Program} {w : World} {base : Nat} {held : Bool}

theorem addr_none {w : World} {a : Addr} {u : Value} (h : w.cell? (a.add 0) = some u) : ∃ b off, a = ⟨b, off, none⟩ := by
  obtain ⟨b, off, spot⟩ := a
  have hspot : spot = none := by simpa [Addr.add] using World.cell?_spot h
  exact ⟨b, off, by rw [hspot]⟩

theorem nat_u8 {x : Int} (h : (Lit.int .u8 x).wf = true) : ∃ n : Nat, x = (n : Int) ∧ n < 256 := by
  obtain ⟨h1, h2⟩ := bounds_u8 h
  exact ⟨x.toNat, by omega, by omega⟩
theorem nat_u16 {x : Int} (h : (Lit.int .u16 x).wf = true) : ∃ n : Nat, x = (n : Int) ∧ n < 65536 := by
  obtain ⟨h1, h2⟩ := bounds_u16 h
  exact ⟨x.toNat, by omega, by omega⟩
theorem nat_u32 {x : Int} (h : (Lit.int .u32 x).wf = true) : ∃ n : Nat, x = (n : Int) ∧ n < 4294967296 := by
  obtain ⟨h1, h2⟩ := bounds_u32 h
  exact ⟨x.toNat, by omega, by omega⟩

theorem getD_map_toNat {zs : List Int} (hz : ∀ n ∈ zs, 0 ≤ n) (i : Nat) (hi : i < zs.length) : (((zs.map Int.toNat)[i]?).map fun x : Nat => (x : Int)) = some (zs.getD i 0) := by
  have h0 := hz zs[i] (List.getElem_mem hi)
  simp only [List.getElem?_map, List.getElem?_eq_getElem hi, Option.map_some, List.getD_eq_getElem?_getD, Option.getD_some]
  rw [Int.toNat_of_nonneg h0]

/-- a slice of numbers of an unsigned kind -/
theorem open_nats {t e : TypeId} {k : IntKind} {M : Nat} {fuel : Nat} {v : Value} {x : DataW H × List MemPlace} (ht : P.underlying t = some (.slice e)) (he : P.underlying e = some (.int k)) (hc : P.cellsOf e = 1)
    (hk : ∀ n : Int, (Lit.int k n).wf = true → 0 ≤ n ∧ n < (M : Int))
    (h : DataW.trod enc P w base (fun _ => true) held fuel t [v] = some x) :
    ∃ A n c, ∃ l : List Nat, v = .slice A n c ∧ Rd w A (l.map fun x : Nat => Value.int k (x : Int)) ∧ l.length = n ∧ (∀ x ∈ l, x < M) ∧ n ≤ c ∧ c ≤ maxLen ∧ (A = none → c = 0) := by
  rcases open_ints ht he hc h with ⟨hcs, _⟩ | ⟨a, len, cap, zs, hcs, _, hl, hm, hz, _, hcell, hwz⟩
  · injection hcs with hcs
    exact ⟨none, 0, 0, [], hcs, .inl rfl, rfl, by simp, Nat.le_refl _, by simp [maxLen], fun _ => rfl⟩
  · injection hcs with hcs
    simp only [if_true] at hz
    have hz0 : ∀ n ∈ zs, 0 ≤ n := fun n hn => (hk n (hwz n hn)).1
    refine ⟨some a, len, cap, (zs.take len).map Int.toNat, hcs, ?_, by simp; omega, ?_, hl, hm, fun e => by cases e⟩
    · rcases Nat.eq_zero_or_pos zs.length with h0 | h0
      · left
        rw [List.eq_nil_of_length_eq_zero h0]; simp
      · right
        obtain ⟨b, off, rfl⟩ := addr_none (hcell 0 h0)
        refine ⟨b, off, rfl, fun j u hu => ?_⟩
        have hadd : (⟨b, off, none⟩ : Addr).add j = ⟨b, off + j, none⟩ := by unfold Addr.add; split <;> simp_all
        have hj : j < zs.length := by
          rcases Nat.lt_or_ge j zs.length with g | g
          · exact g
          · rw [List.getElem?_eq_none (by simp; omega)] at hu; cases hu
        rw [← hadd, hcell j hj]
        rw [List.map_take, List.map_take, List.getElem?_take] at hu
        split at hu
        · rw [List.getElem?_map] at hu
          have := getD_map_toNat hz0 j hj
          rcases hq : (zs.map Int.toNat)[j]? with _ | q
          · rw [hq] at hu; cases hu
          · rw [hq] at hu this
            simp only [Option.map_some] at hu this
            injection this with this
            rw [← hu, this]
        · cases hu
    · intro x hx
      obtain ⟨y, hy, rfl⟩ := List.mem_map.1 hx
      have := hk y (hwz y (List.mem_of_mem_take hy))
      omega

theorem open_bytesT {t e : TypeId} {fuel : Nat} {v : Value} {x : DataW H × List MemPlace} (ht : P.underlying t = some (.slice e)) (he : P.underlying e = some (.int .u8)) (hc : P.cellsOf e = 1)
    (h : DataW.trod enc P w base (fun _ => true) held fuel t [v] = some x) :
    ∃ A n c, ∃ l : List Nat, v = .slice A n c ∧ Rd w A (bs l) ∧ l.length = n ∧ Bs l ∧ n ≤ c ∧ c ≤ maxLen ∧ (A = none → c = 0) :=
  open_nats ht he hc (fun n hn => by have := bounds_u8 hn; omega) h
theorem open_wordsT {t e : TypeId} {fuel : Nat} {v : Value} {x : DataW H × List MemPlace} (ht : P.underlying t = some (.slice e)) (he : P.underlying e = some (.int .u16)) (hc : P.cellsOf e = 1)
    (h : DataW.trod enc P w base (fun _ => true) held fuel t [v] = some x) :
    ∃ A n c, ∃ l : List Nat, v = .slice A n c ∧ Rd w A (ws l) ∧ l.length = n ∧ Ws l ∧ n ≤ c ∧ c ≤ maxLen ∧ (A = none → c = 0) :=
  open_nats ht he hc (fun n hn => by have := bounds_u16 hn; omega) h
theorem open_boolsT {t e : TypeId} {fuel : Nat} {v : Value} {x : DataW H × List MemPlace} (ht : P.underlying t = some (.slice e)) (he : P.underlying e = some .bool) (hc : P.cellsOf e = 1)
    (h : DataW.trod enc P w base (fun _ => true) held fuel t [v] = some x) :
    ∃ A n c, ∃ l : List Bool, v = .slice A n c ∧ Rd w A (os l) ∧ l.length = n ∧ n ≤ c ∧ c ≤ maxLen ∧ (A = none → c = 0) := by
  rcases Deep.open_bools ht he hc h with ⟨hcs, _⟩ | ⟨a, len, cap, B, hcs, _, hl, hm, _, hcell⟩
  · injection hcs with hcs
    exact ⟨none, 0, 0, [], hcs, .inl rfl, rfl, Nat.le_refl _, by simp [maxLen], fun _ => rfl⟩
  · injection hcs with hcs
    refine ⟨some a, len, cap, (List.range len).map B, hcs, ?_, by simp, hl, hm, fun e => by cases e⟩
    rcases Nat.eq_zero_or_pos len with h0 | h0
    · left; subst h0; rfl
    · right
      obtain ⟨b, off, rfl⟩ := addr_none (hcell 0 (by omega))
      refine ⟨b, off, rfl, fun j u hu => ?_⟩
      have hadd : (⟨b, off, none⟩ : Addr).add j = ⟨b, off + j, none⟩ := by unfold Addr.add; split <;> simp_all
      have hj : j < len := by
        rcases Nat.lt_or_ge j len with g | g
        · exact g
        · rw [List.getElem?_eq_none (by simp [os]; omega)] at hu; cases hu
      rw [← hadd, hcell j (by omega)]
      simpa [os, List.getElem?_map, List.getElem?_range hj] using hu

/-! ### the same of a parameter -/
variable {r : Reach} {b0 : Nat} {t : TypeId} {v : Value} {d : DataW H} {ps : List MemPlace}
theorem trod_of_slice {e : TypeId} (ht : P.underlying t = some (.slice e)) (hv : Value.okWide P w r b0 t v) (h : DataW.Trod enc P w base (fun _ => true) held t v d ps) :
    ∃ fuel, DataW.trod enc P w base (fun _ => true) held fuel t [v] = some (d, ps) := by
  obtain ⟨a, len, cap, rfl⟩ := okWide_slice ht hv
  obtain ⟨fuel, hf⟩ := h
  exact ⟨fuel, by simpa [Value.cells] using hf⟩
end
end Go.Proofs.Ytechhidfgheejaa
