/- Words for slices that read as lists: one cell an element. -/
import Derived.WalkKit
import Derived.Lib.Hide
import Derived.Deep.Draws
namespace Go.Proofs.Ytechhidfgheejaa
open Go.RowKit
set_option linter.unusedSimpArgs false
set_option linter.unusedVariables false

/-- The slice value with the address A reads as the cells xs. -/
def Rd (w : World) (A : Option Addr) (xs : List Value) : Prop :=
  xs = [] ∨ ∃ b off, A = some ⟨b, off, none⟩ ∧ ∀ j u, xs[j]? = some u → w.cell? ⟨b, off + j, none⟩ = some u
def bs (l : List Nat) : List Value := l.map fun x : Nat => Value.int .u8 (x : Int)
def ws (l : List Nat) : List Value := l.map fun x : Nat => Value.int .u16 (x : Int)
def ds (l : List Nat) : List Value := l.map fun x : Nat => Value.int .u32 (x : Int)
def os (l : List Bool) : List Value := l.map fun x : Bool => Value.bool x

theorem bs_length (l : List Nat) : (bs l).length = l.length := by simp [bs]
theorem ws_length (l : List Nat) : (ws l).length = l.length := by simp [ws]
theorem ds_length (l : List Nat) : (ds l).length = l.length := by simp [ds]
theorem os_length (l : List Bool) : (os l).length = l.length := by simp [os]
theorem bs_append (a b : List Nat) : bs (a ++ b) = bs a ++ bs b := by simp [bs]
theorem ws_append (a b : List Nat) : ws (a ++ b) = ws a ++ ws b := by simp [ws]
theorem ds_append (a b : List Nat) : ds (a ++ b) = ds a ++ ds b := by simp [ds]
theorem os_append (a b : List Bool) : os (a ++ b) = os a ++ os b := by simp [os]

/-- numbers of eight, and of sixteen bits -/
def Bs (l : List Nat) : Prop := ∀ x ∈ l, x < 256
def Ws (l : List Nat) : Prop := ∀ x ∈ l, x < 65536
def Ds (l : List Nat) : Prop := ∀ x ∈ l, x < 4294967296
instance (l : List Nat) : Decidable (Bs l) := by unfold Bs; infer_instance
instance (l : List Nat) : Decidable (Ws l) := by unfold Ws; infer_instance
instance (l : List Nat) : Decidable (Ds l) := by unfold Ds; infer_instance
theorem Bs.get {l : List Nat} (h : Bs l) {k x : Nat} (hx : l[k]? = some x) : x < 256 := h x (List.mem_of_getElem? hx)
theorem Ws.get {l : List Nat} (h : Ws l) {k x : Nat} (hx : l[k]? = some x) : x < 65536 := h x (List.mem_of_getElem? hx)
theorem Ds.get {l : List Nat} (h : Ds l) {k x : Nat} (hx : l[k]? = some x) : x < 4294967296 := h x (List.mem_of_getElem? hx)
theorem Bs.take {l : List Nat} (h : Bs l) (n : Nat) : Bs (l.take n) := fun x hx => h x (List.mem_of_mem_take hx)
theorem Bs.drop {l : List Nat} (h : Bs l) (n : Nat) : Bs (l.drop n) := fun x hx => h x (List.mem_of_mem_drop hx)
theorem Bs.append {a b : List Nat} (h : Bs a) (k : Bs b) : Bs (a ++ b) := fun x hx => by
  rcases List.mem_append.1 hx with hx | hx
  · exact h x hx
  · exact k x hx
theorem Ws.take {l : List Nat} (h : Ws l) (n : Nat) : Ws (l.take n) := fun x hx => h x (List.mem_of_mem_take hx)
theorem Ws.drop {l : List Nat} (h : Ws l) (n : Nat) : Ws (l.drop n) := fun x hx => h x (List.mem_of_mem_drop hx)
theorem Ws.append {a b : List Nat} (h : Ws a) (k : Ws b) : Ws (a ++ b) := fun x hx => by
  rcases List.mem_append.1 hx with hx | hx
  · exact h x hx
  · exact k x hx
/-- are two rows the same? -/
def sameB (l k : List Nat) : Bool := decide (l = k)
def sameO (l k : List Bool) : Bool := decide (l = k)
theorem sameB_self (l : List Nat) : sameB l l = true := by simp [sameB]
theorem sameO_self (l : List Bool) : sameO l l = true := by simp [sameO]
theorem sameB_iff {l k : List Nat} : sameB l k = true ↔ l = k := by simp [sameB]
theorem sameO_iff {l k : List Bool} : sameO l k = true ↔ l = k := by simp [sameO]
section
variable {w w' : World} {A : Option Addr} {xs : List Value}
theorem Rd.nil : Rd w A [] := .inl rfl
theorem Rd.keep (h : Rd w A xs) (hk : ∀ p : Addr, p.block < w.heap.size → w'.cell? p = w.cell? p) : Rd w' A xs := by
  rcases h with h | ⟨b, off, hA, hc⟩
  · exact .inl h
  · exact .inr ⟨b, off, hA, fun j u hu => (hk _ (World.block_lt_of_cell? w _ (hc j u hu))).trans (hc j u hu)⟩
theorem Rd.below (h : Rd w A xs) (hb : Below w.heap.size w w') : Rd w' A xs := h.keep fun _ hp => hb.cell hp
theorem Rd.drew (h : Rd w A xs) : Rd w.drew A xs := h
theorem Rd.drewN (h : Rd w A xs) (k : Nat) : Rd (w.drewN k) A xs := h
theorem Rd.alloc (h : Rd w A xs) (o : Obj) : Rd (w.alloc o) A xs := h.keep fun p hp => World.cell?_alloc_lt w o p hp
theorem Rd.take (h : Rd w A xs) (n : Nat) : Rd w A (xs.take n) := by
  rcases h with h | ⟨b, off, hA, hc⟩
  · exact .inl (by rw [h]; simp)
  · refine .inr ⟨b, off, hA, fun j u hu => hc j u ?_⟩
    rw [List.getElem?_take] at hu
    split at hu
    · exact hu
    · cases hu
theorem Rd.shift {b off : Nat} (h : Rd w (some ⟨b, off, none⟩) xs) (k : Nat) : Rd w (some ⟨b, off + k, none⟩) (xs.drop k) := by
  rcases h with h | ⟨b', off', hA, hc⟩
  · exact .inl (by rw [h]; simp)
  · injection hA with hA
    injection hA with h1 h2
    subst h1 h2
    refine .inr ⟨b, off + k, rfl, fun j u hu => ?_⟩
    rw [Nat.add_assoc]
    exact hc _ u (by rw [← hu, List.getElem?_drop])
/-- x[k:h], wherever it lies -/
theorem Rd.sliced (h : Rd w A xs) (k hi c : Nat) (hk : k ≤ hi) (hh : hi ≤ xs.length) (hc : xs.length ≤ c) : ∃ A', Go.sliced A k hi c 1 = .slice A' (hi - k) (c - k) ∧ Rd w A' ((xs.take hi).drop k) := by
  rcases h with h | ⟨b, off, rfl, hcell⟩
  · refine ⟨if c = k then A else A.map (·.add (k * 1)), rfl, .inl ?_⟩
    rw [h]; simp
  · refine ⟨if c = k then some ⟨b, off, none⟩ else some ⟨b, off + k, none⟩, ?_, ?_⟩
    · have hadd : (⟨b, off, none⟩ : Addr).add k = ⟨b, off + k, none⟩ := by unfold Addr.add; split <;> simp_all
      simp [Go.sliced, hadd]
    · have hr : Rd w (some ⟨b, off, none⟩) xs := .inr ⟨b, off, rfl, hcell⟩
      split
      · rename_i e
        have : xs.length ≤ k := by omega
        rw [List.drop_of_length_le (by simp; omega)]
        exact Rd.nil
      · exact (hr.take hi).shift k
/-- a block that has just been laid -/
theorem Rd.lit (w : World) (t : TypeId) (cs : List Value) (hx : xs = cs) : Rd (w.alloc (.cells cs.toArray t)) (some ⟨w.heap.size, 0, none⟩) xs :=
  .inr ⟨_, 0, rfl, fun j u hu => by rw [Nat.zero_add, World.cell?_alloc_at _ _ _ _ rfl]; subst hx; simpa using hu⟩
theorem Rd.litm (w : World) (t : TypeId) (cs : List Value) (fr : Nat × Nat) (hx : xs = cs) : Rd (w.alloc (.cells cs.toArray t fr)) (some ⟨w.heap.size, 0, none⟩) xs :=
  .inr ⟨_, 0, rfl, fun j u hu => by rw [Nat.zero_add, World.cell?_alloc_mark]; subst hx; simpa using hu⟩
theorem Rd.at_ {k : Nat} (h : Rd w A xs) (hk : k < xs.length) : ∃ b off u, A = some ⟨b, off, none⟩ ∧ xs[k]? = some u ∧ w.cell? ⟨b, off + k, none⟩ = some u := by
  rcases h with h | ⟨b, off, hA, hc⟩
  · rw [h] at hk; simp at hk
  · exact ⟨b, off, xs[k], hA, List.getElem?_eq_getElem hk, hc k _ (List.getElem?_eq_getElem hk)⟩
end
section
variable {w : World} {A : Option Addr}
theorem Rd.byte {l : List Nat} {k : Nat} (h : Rd w A (bs l)) (hk : k < l.length) : ∃ b off x, A = some ⟨b, off, none⟩ ∧ l[k]? = some x ∧ w.cell? ⟨b, off + k, none⟩ = some (.int .u8 (x : Int)) := by
  obtain ⟨b, off, u, hA, hu, hc⟩ := h.at_ (k := k) (by rw [bs_length]; exact hk)
  refine ⟨b, off, l[k], hA, List.getElem?_eq_getElem hk, ?_⟩
  rw [hc, ← hu]
  simp [bs, List.getElem?_eq_getElem hk]
theorem Rd.word {l : List Nat} {k : Nat} (h : Rd w A (ws l)) (hk : k < l.length) : ∃ b off x, A = some ⟨b, off, none⟩ ∧ l[k]? = some x ∧ w.cell? ⟨b, off + k, none⟩ = some (.int .u16 (x : Int)) := by
  obtain ⟨b, off, u, hA, hu, hc⟩ := h.at_ (k := k) (by rw [ws_length]; exact hk)
  refine ⟨b, off, l[k], hA, List.getElem?_eq_getElem hk, ?_⟩
  rw [hc, ← hu]
  simp [ws, List.getElem?_eq_getElem hk]
theorem Rd.dword {l : List Nat} {k : Nat} (h : Rd w A (ds l)) (hk : k < l.length) : ∃ b off x, A = some ⟨b, off, none⟩ ∧ l[k]? = some x ∧ w.cell? ⟨b, off + k, none⟩ = some (.int .u32 (x : Int)) := by
  obtain ⟨b, off, u, hA, hu, hc⟩ := h.at_ (k := k) (by rw [ds_length]; exact hk)
  refine ⟨b, off, l[k], hA, List.getElem?_eq_getElem hk, ?_⟩
  rw [hc, ← hu]
  simp [ds, List.getElem?_eq_getElem hk]
theorem Rd.bit {l : List Bool} {k : Nat} (h : Rd w A (os l)) (hk : k < l.length) : ∃ b off x, A = some ⟨b, off, none⟩ ∧ l[k]? = some x ∧ w.cell? ⟨b, off + k, none⟩ = some (.bool x) := by
  obtain ⟨b, off, u, hA, hu, hc⟩ := h.at_ (k := k) (by rw [os_length]; exact hk)
  refine ⟨b, off, l[k], hA, List.getElem?_eq_getElem hk, ?_⟩
  rw [hc, ← hu]
  simp [os, List.getElem?_eq_getElem hk]
end
theorem bs_take (l : List Nat) (n : Nat) : bs (l.take n) = (bs l).take n := by simp [bs, List.map_take]
theorem ws_take (l : List Nat) (n : Nat) : ws (l.take n) = (ws l).take n := by simp [ws, List.map_take]
theorem ds_take (l : List Nat) (n : Nat) : ds (l.take n) = (ds l).take n := by simp [ds, List.map_take]
theorem os_take (l : List Bool) (n : Nat) : os (l.take n) = (os l).take n := by simp [os, List.map_take]
theorem bs_set (l : List Nat) (j x : Nat) : (bs l).set j (.int .u8 (x : Int)) = bs (l.set j x) := by simp [bs, List.map_set]
theorem ws_set (l : List Nat) (j x : Nat) : (ws l).set j (.int .u16 (x : Int)) = ws (l.set j x) := by simp [ws, List.map_set]
theorem ds_set (l : List Nat) (j x : Nat) : (ds l).set j (.int .u32 (x : Int)) = ds (l.set j x) := by simp [ds, List.map_set]
theorem os_set (l : List Bool) (j : Nat) (x : Bool) : (os l).set j (.bool x) = os (l.set j x) := by simp [os, List.map_set]
theorem bs_drop (l : List Nat) (n : Nat) : bs (l.drop n) = (bs l).drop n := by simp [bs, List.map_drop]
theorem ws_drop (l : List Nat) (n : Nat) : ws (l.drop n) = (ws l).drop n := by simp [ws, List.map_drop]
theorem ds_drop (l : List Nat) (n : Nat) : ds (l.drop n) = (ds l).drop n := by simp [ds, List.map_drop]
theorem os_drop (l : List Bool) (n : Nat) : os (l.drop n) = (os l).drop n := by simp [os, List.map_drop]
theorem Rd.btake {w : World} {A : Option Addr} {l : List Nat} (h : Rd w A (bs l)) (n : Nat) : Rd w A (bs (l.take n)) := by rw [bs_take]; exact h.take n
theorem ret_int {k : IntKind} {a b : Int} (h : a = b) : Ending.returned (.int k a) = .returned (.int k b) := by rw [h]
theorem take_snoc {α : Type} {l : List α} {k : Nat} {x : α} (h : l[k]? = some x) : l.take (k + 1) = l.take k ++ [x] := by
  rw [List.take_add_one, h]; rfl
theorem mem_of_get {α : Type} {l : List α} {k : Nat} {x : α} (h : l[k]? = some x) : x ∈ l := List.mem_of_getElem? h
theorem below_drewN {B : Nat} {a w : World} (h : Below B a w) (n : Nat) : Below B a (w.drewN n) := ⟨h.os, h.tape, h.output, h.size, h.block⟩
theorem bthen {a b c : World} (h : Below a.heap.size a b) (k : Below b.heap.size b c) : Below a.heap.size a c := h.trans (k.mono h.size)
end Go.Proofs.Ytechhidfgheejaa
