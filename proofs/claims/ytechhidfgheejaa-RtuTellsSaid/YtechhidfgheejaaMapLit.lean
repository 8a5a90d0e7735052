/- A map literal with keys of eight bits, and a look-up in it, as runs. Over any program. -/
import Derived.Test.YtechhidfgheejaaWords
import Derived.Maps.Own
import Derived.RangeFuncRecord
namespace Go.Proofs.Ytechhidfgheejaa
open Go.RowKit
set_option linter.unusedSimpArgs false
set_option linter.unusedVariables false

section
variable {P : Program} {T K E : TypeId}
theorem getObj_last (W : World) (es : Array MapEntry) (n : Nat) : (getObj W.heap.size).run P (W.alloc (.map es n)) = .ok (.map es n) (W.alloc (.map es n)) := by
  simp only [getObj, Sem.run, World.alloc_heap_new]
theorem push_set {α : Type} (xs : Array α) (a b : α) : (xs.push a).setIfInBounds xs.size b = xs.push b := by
  apply Array.ext'
  simp
theorem setObj_last (W : World) (es : Array MapEntry) (n : Nat) (o' : Obj) : (setObj W.heap.size o').run P (W.alloc (.map es n)) = .ok () (W.alloc o') := by
  obtain ⟨o, ho⟩ : ∃ o, o = Obj.map es n := ⟨_, rfl⟩
  have : ({ W.alloc o with heap := (W.alloc o).heap.setIfInBounds W.heap.size o' } : World) = W.alloc o' := by
    show ({ W with heap := (W.heap.push o).setIfInBounds W.heap.size o' } : World) = { W with heap := W.heap.push o' }
    rw [push_set]
  rw [ho] at this
  simp only [setObj, Sem.run, World.alloc_heap_new, this]
theorem checkKey8 (hK : P.underlying K = some (.int .u8)) (e : Bool) (k : Int) (w : World) : (Instr.checkKey e 10000 K (.int .u8 k)).run P w = .ok () w := by
  unfold Instr.checkKey
  simp [Sem.run_bind, run_underlying hK, Result.andThen]
theorem findKey8 (hK : P.underlying K = some (.int .u8)) {k : Int} {es : List MapEntry} {r : Option (Nat × Value)} (h : Instr.findNow (.int .u8) (.int .u8 k) es 0 = some r) (w : World) : (Instr.findKey K (.int .u8 k) es).run P w = .ok r w := by
  unfold Instr.findKey
  simp [Sem.run_bind, run_underlying hK, Result.andThen, h]
theorem run_ins8 (hT : P.underlying T = some (.map K E)) (hK : P.underlying K = some (.int .u8)) (es : Array MapEntry) (n : Nat) (k : Int) (v : Value) (h : Instr.findNow (.int .u8) (.int .u8 k) es.toList 0 = some none) (W : World) :
    (Instr.mapUpdate T (.map (some W.heap.size)) (.int .u8 k) v).run P (W.alloc (.map es n)) = .ok () (W.alloc (.map (es.push { key := .int .u8 k, val := v, born := n }) (n + 1))) := by
  unfold Instr.mapUpdate
  simp [Sem.run_bind, run_underlying hT, Result.andThen, getObj_last, checkKey8 hK, findKey8 hK h, setObj_last]
theorem run_look8_some (hT : P.underlying T = some (.map K E)) (hK : P.underlying K = some (.int .u8)) (es : Array MapEntry) (n i : Nat) (k : Int) (v : Value) (h : Instr.findNow (.int .u8) (.int .u8 k) es.toList 0 = some (some (i, v))) (W : World) :
    (Instr.lookup T (.map (some W.heap.size)) (.int .u8 k) true).run P (W.alloc (.map es n)) = .ok (.tuple #[v, .bool true]) (W.alloc (.map es n)) := by
  unfold Instr.lookup
  simp [Sem.run_bind, run_underlying hT, Result.andThen, getObj_last, checkKey8 hK, findKey8 hK h]
theorem run_look8_none (hT : P.underlying T = some (.map K E)) (hK : P.underlying K = some (.int .u8)) (es : Array MapEntry) (n : Nat) (k : Int) (z : Value) (hz : ∀ w, (zeroValue E).run P w = .ok z w) (h : Instr.findNow (.int .u8) (.int .u8 k) es.toList 0 = some none) (W : World) :
    (Instr.lookup T (.map (some W.heap.size)) (.int .u8 k) true).run P (W.alloc (.map es n)) = .ok (.tuple #[z, .bool false]) (W.alloc (.map es n)) := by
  unfold Instr.lookup
  simp [Sem.run_bind, run_underlying hT, Result.andThen, getObj_last, checkKey8 hK, findKey8 hK h, hz]
end
end Go.Proofs.Ytechhidfgheejaa
