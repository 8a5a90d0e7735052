/- The walk of ask.shape: which fields the requests of a function have. -/
import Derived.Test.YtechhidfgheejaaMapLit
import Derived.Test.YtechhidfgheejaaBlk
import Derived.Deep.DeepCutAuto
import Derived.Test.YtechhidfgheejaaProg
namespace Go.Proofs.Ytechhidfgheejaa
open Go.RowKit
set_option linter.unusedSimpArgs false
set_option linter.unusedVariables false

/-- the fields of the requests of a function: the greatest count, how many bits, how many words, a second place?, as many of these as the count says? -/
structure Shp where
  many : Nat
  bits : Nat
  words : Nat
  to_ : Bool
  each : Bool
def shp (f : Nat) : Shp :=
  if f = 1 ∨ f = 2 then ⟨2000, 0, 0, false, false⟩ else if f = 3 ∨ f = 4 then ⟨125, 0, 0, false, false⟩ else if f = 5 then ⟨0, 1, 0, false, false⟩ else if f = 6 then ⟨0, 0, 1, false, false⟩
  else if f = 15 then ⟨1968, 1968, 0, false, true⟩ else if f = 16 then ⟨123, 0, 123, false, true⟩ else if f = 23 then ⟨125, 0, 121, true, false⟩ else ⟨0, 0, 0, false, false⟩
def isFn (f : Nat) : Bool := decide (f = 1 ∨ f = 2 ∨ f = 3 ∨ f = 4 ∨ f = 5 ∨ f = 6 ∨ f = 15 ∨ f = 16 ∨ f = 23)
def Shp.val (s : Shp) : Value := .agg #[.int .i64 (s.many : Int), .int .i64 (s.bits : Int), .int .i64 (s.words : Int), .bool s.to_, .bool s.each]

def shapeMap : Array MapEntry := #[{ key := .int .u8 1, val := .agg #[.int .i64 2000, .int .i64 0, .int .i64 0, .bool false, .bool false], born := 0 }, { key := .int .u8 2, val := .agg #[.int .i64 2000, .int .i64 0, .int .i64 0, .bool false, .bool false], born := 1 }, { key := .int .u8 3, val := .agg #[.int .i64 125, .int .i64 0, .int .i64 0, .bool false, .bool false], born := 2 }, { key := .int .u8 4, val := .agg #[.int .i64 125, .int .i64 0, .int .i64 0, .bool false, .bool false], born := 3 }, { key := .int .u8 5, val := .agg #[.int .i64 0, .int .i64 1, .int .i64 0, .bool false, .bool false], born := 4 }, { key := .int .u8 6, val := .agg #[.int .i64 0, .int .i64 0, .int .i64 1, .bool false, .bool false], born := 5 }, { key := .int .u8 15, val := .agg #[.int .i64 1968, .int .i64 1968, .int .i64 0, .bool false, .bool true], born := 6 }, { key := .int .u8 16, val := .agg #[.int .i64 123, .int .i64 0, .int .i64 123, .bool false, .bool true], born := 7 }, { key := .int .u8 23, val := .agg #[.int .i64 125, .int .i64 0, .int .i64 121, .bool true, .bool false], born := 8 }]

theorem find_none (f : Nat) (h : isFn f = false) : Instr.findNow (.int .u8) (.int .u8 (f : Int)) shapeMap.toList 0 = some none := by
  unfold isFn at h
  rw [decide_eq_false_iff_not] at h
  have e : ∀ k : Nat, f ≠ k → ((f : Int) == (k : Int)) = false := fun k hk => by simp; omega
  have e1 := e 1 (by omega)
  have e2 := e 2 (by omega)
  have e3 := e 3 (by omega)
  have e4 := e 4 (by omega)
  have e5 := e 5 (by omega)
  have e6 := e 6 (by omega)
  have e15 := e 15 (by omega)
  have e16 := e 16 (by omega)
  have e23 := e 23 (by omega)
  simp only [Int.cast_ofNat_Int, Int.natCast_one] at e1 e2 e3 e4 e5 e6 e15 e16 e23
  simp [shapeMap, Instr.findNow, Instr.sameNow, e1, e2, e3, e4, e5, e6, e15, e16, e23]
theorem find_some (f : Nat) (h : isFn f = true) : ∃ i, Instr.findNow (.int .u8) (.int .u8 (f : Int)) shapeMap.toList 0 = some (some (i, (shp f).val)) := by
  unfold isFn at h
  rw [decide_eq_true_iff] at h
  rcases h with rfl | rfl | rfl | rfl | rfl | rfl | rfl | rfl | rfl
  · exact ⟨0, rfl⟩
  · exact ⟨1, rfl⟩
  · exact ⟨2, rfl⟩
  · exact ⟨3, rfl⟩
  · exact ⟨4, rfl⟩
  · exact ⟨5, rfl⟩
  · exact ⟨6, rfl⟩
  · exact ⟨7, rfl⟩
  · exact ⟨8, rfl⟩

theorem zero_shape (w : World) : (zeroValue 92).run Try.prog w = .ok (.agg #[.int .i64 0, .int .i64 0, .int .i64 0, .bool false, .bool false]) w := by kernel_rfl

set_option maxRecDepth 100000 in
set_option maxHeartbeats 1000000 in
theorem ask_shape (f : Nat) (w : World) (hf : f < 256) :
    Calls Try.prog 63 #[.int .u8 (f : Int)] w fun e w' => e = .returned (.tuple #[(shp f).val, .bool (isFn f)]) ∧ Below w.heap.size w w' := by
  have hlook : ∀ W : World, (Instr.lookup 139 (.map (some W.heap.size)) (.int .u8 (f : Int)) true).run Try.prog (W.alloc (.map shapeMap 9)) = .ok (.tuple #[(shp f).val, .bool (isFn f)]) (W.alloc (.map shapeMap 9)) := by
    intro W
    by_cases h : isFn f = true
    · obtain ⟨i, hi⟩ := find_some f h
      rw [run_look8_some Try.underlying139 Try.underlying5 shapeMap 9 i _ _ hi W, h]
    · have h' : isFn f = false := by simpa using h
      rw [run_look8_none Try.underlying139 Try.underlying5 shapeMap 9 _ _ zero_shape (find_none f h') W, h']
      unfold isFn at h'
      rw [decide_eq_false_iff_not] at h'
      have : shp f = ⟨0, 0, 0, false, false⟩ := by
        unfold shp
        rw [if_neg (by omega), if_neg (by omega), if_neg (by omega), if_neg (by omega), if_neg (by omega), if_neg (by omega), if_neg (by omega)]
      rw [this]
      rfl
  have HLOOK := Lib.hid hlook
  clear hlook
  unfold shapeMap at HLOOK
  obtain ⟨⟨s0, s1, s2, s3, s4⟩, hs⟩ : ∃ s, shp f = s := ⟨_, rfl⟩
  rw [hs] at HLOOK ⊢
  obtain ⟨fn, hfn⟩ : ∃ fn, isFn f = fn := ⟨_, rfl⟩
  rw [hfn] at HLOOK ⊢
  unfold Shp.val at HLOOK ⊢
  simp only at HLOOK ⊢
  clear hs hfn
  go_enter Try.func63, Try.ntmps63
  go_upto_region 1 with fail
  have hb1 := (Below.refl _ w).alloc (Nat.le_refl _) (.cells #[.int .i64 0, .int .i64 0, .int .i64 0, .bool false, .bool false] 92)
  have bx := Blk.new w 92 #[.int .i64 0, .int .i64 0, .int .i64 0, .bool false, .bool false]
  generalize w.alloc (.cells #[.int .i64 0, .int .i64 0, .int .i64 0, .bool false, .bool false] 92) = w1 at *
  have hmm : (Instr.makeMap 139 none).run Try.prog w1 = .ok (.map (some w1.heap.size)) (w1.alloc (.map #[] 0)) := by simp [run_makeMap]
  have h0 : (Instr.mapUpdate 139 (.map (some w1.heap.size)) (.int .u8 1) (.agg #[.int .i64 2000, .int .i64 0, .int .i64 0, .bool false, .bool false])).run Try.prog (w1.alloc (.map #[] 0)) = .ok () (w1.alloc (.map #[{ key := .int .u8 1, val := .agg #[.int .i64 2000, .int .i64 0, .int .i64 0, .bool false, .bool false], born := 0 }] 1)) := run_ins8 Try.underlying139 Try.underlying5 _ _ _ _ (by rfl) w1
  have h1 : (Instr.mapUpdate 139 (.map (some w1.heap.size)) (.int .u8 2) (.agg #[.int .i64 2000, .int .i64 0, .int .i64 0, .bool false, .bool false])).run Try.prog (w1.alloc (.map #[{ key := .int .u8 1, val := .agg #[.int .i64 2000, .int .i64 0, .int .i64 0, .bool false, .bool false], born := 0 }] 1)) = .ok () (w1.alloc (.map #[{ key := .int .u8 1, val := .agg #[.int .i64 2000, .int .i64 0, .int .i64 0, .bool false, .bool false], born := 0 }, { key := .int .u8 2, val := .agg #[.int .i64 2000, .int .i64 0, .int .i64 0, .bool false, .bool false], born := 1 }] 2)) := run_ins8 Try.underlying139 Try.underlying5 _ _ _ _ (by rfl) w1
  have h2 : (Instr.mapUpdate 139 (.map (some w1.heap.size)) (.int .u8 3) (.agg #[.int .i64 125, .int .i64 0, .int .i64 0, .bool false, .bool false])).run Try.prog (w1.alloc (.map #[{ key := .int .u8 1, val := .agg #[.int .i64 2000, .int .i64 0, .int .i64 0, .bool false, .bool false], born := 0 }, { key := .int .u8 2, val := .agg #[.int .i64 2000, .int .i64 0, .int .i64 0, .bool false, .bool false], born := 1 }] 2)) = .ok () (w1.alloc (.map #[{ key := .int .u8 1, val := .agg #[.int .i64 2000, .int .i64 0, .int .i64 0, .bool false, .bool false], born := 0 }, { key := .int .u8 2, val := .agg #[.int .i64 2000, .int .i64 0, .int .i64 0, .bool false, .bool false], born := 1 }, { key := .int .u8 3, val := .agg #[.int .i64 125, .int .i64 0, .int .i64 0, .bool false, .bool false], born := 2 }] 3)) := run_ins8 Try.underlying139 Try.underlying5 _ _ _ _ (by rfl) w1
  have h3 : (Instr.mapUpdate 139 (.map (some w1.heap.size)) (.int .u8 4) (.agg #[.int .i64 125, .int .i64 0, .int .i64 0, .bool false, .bool false])).run Try.prog (w1.alloc (.map #[{ key := .int .u8 1, val := .agg #[.int .i64 2000, .int .i64 0, .int .i64 0, .bool false, .bool false], born := 0 }, { key := .int .u8 2, val := .agg #[.int .i64 2000, .int .i64 0, .int .i64 0, .bool false, .bool false], born := 1 }, { key := .int .u8 3, val := .agg #[.int .i64 125, .int .i64 0, .int .i64 0, .bool false, .bool false], born := 2 }] 3)) = .ok () (w1.alloc (.map #[{ key := .int .u8 1, val := .agg #[.int .i64 2000, .int .i64 0, .int .i64 0, .bool false, .bool false], born := 0 }, { key := .int .u8 2, val := .agg #[.int .i64 2000, .int .i64 0, .int .i64 0, .bool false, .bool false], born := 1 }, { key := .int .u8 3, val := .agg #[.int .i64 125, .int .i64 0, .int .i64 0, .bool false, .bool false], born := 2 }, { key := .int .u8 4, val := .agg #[.int .i64 125, .int .i64 0, .int .i64 0, .bool false, .bool false], born := 3 }] 4)) := run_ins8 Try.underlying139 Try.underlying5 _ _ _ _ (by rfl) w1
  have h4 : (Instr.mapUpdate 139 (.map (some w1.heap.size)) (.int .u8 5) (.agg #[.int .i64 0, .int .i64 1, .int .i64 0, .bool false, .bool false])).run Try.prog (w1.alloc (.map #[{ key := .int .u8 1, val := .agg #[.int .i64 2000, .int .i64 0, .int .i64 0, .bool false, .bool false], born := 0 }, { key := .int .u8 2, val := .agg #[.int .i64 2000, .int .i64 0, .int .i64 0, .bool false, .bool false], born := 1 }, { key := .int .u8 3, val := .agg #[.int .i64 125, .int .i64 0, .int .i64 0, .bool false, .bool false], born := 2 }, { key := .int .u8 4, val := .agg #[.int .i64 125, .int .i64 0, .int .i64 0, .bool false, .bool false], born := 3 }] 4)) = .ok () (w1.alloc (.map #[{ key := .int .u8 1, val := .agg #[.int .i64 2000, .int .i64 0, .int .i64 0, .bool false, .bool false], born := 0 }, { key := .int .u8 2, val := .agg #[.int .i64 2000, .int .i64 0, .int .i64 0, .bool false, .bool false], born := 1 }, { key := .int .u8 3, val := .agg #[.int .i64 125, .int .i64 0, .int .i64 0, .bool false, .bool false], born := 2 }, { key := .int .u8 4, val := .agg #[.int .i64 125, .int .i64 0, .int .i64 0, .bool false, .bool false], born := 3 }, { key := .int .u8 5, val := .agg #[.int .i64 0, .int .i64 1, .int .i64 0, .bool false, .bool false], born := 4 }] 5)) := run_ins8 Try.underlying139 Try.underlying5 _ _ _ _ (by rfl) w1
  have h5 : (Instr.mapUpdate 139 (.map (some w1.heap.size)) (.int .u8 6) (.agg #[.int .i64 0, .int .i64 0, .int .i64 1, .bool false, .bool false])).run Try.prog (w1.alloc (.map #[{ key := .int .u8 1, val := .agg #[.int .i64 2000, .int .i64 0, .int .i64 0, .bool false, .bool false], born := 0 }, { key := .int .u8 2, val := .agg #[.int .i64 2000, .int .i64 0, .int .i64 0, .bool false, .bool false], born := 1 }, { key := .int .u8 3, val := .agg #[.int .i64 125, .int .i64 0, .int .i64 0, .bool false, .bool false], born := 2 }, { key := .int .u8 4, val := .agg #[.int .i64 125, .int .i64 0, .int .i64 0, .bool false, .bool false], born := 3 }, { key := .int .u8 5, val := .agg #[.int .i64 0, .int .i64 1, .int .i64 0, .bool false, .bool false], born := 4 }] 5)) = .ok () (w1.alloc (.map #[{ key := .int .u8 1, val := .agg #[.int .i64 2000, .int .i64 0, .int .i64 0, .bool false, .bool false], born := 0 }, { key := .int .u8 2, val := .agg #[.int .i64 2000, .int .i64 0, .int .i64 0, .bool false, .bool false], born := 1 }, { key := .int .u8 3, val := .agg #[.int .i64 125, .int .i64 0, .int .i64 0, .bool false, .bool false], born := 2 }, { key := .int .u8 4, val := .agg #[.int .i64 125, .int .i64 0, .int .i64 0, .bool false, .bool false], born := 3 }, { key := .int .u8 5, val := .agg #[.int .i64 0, .int .i64 1, .int .i64 0, .bool false, .bool false], born := 4 }, { key := .int .u8 6, val := .agg #[.int .i64 0, .int .i64 0, .int .i64 1, .bool false, .bool false], born := 5 }] 6)) := run_ins8 Try.underlying139 Try.underlying5 _ _ _ _ (by rfl) w1
  have h6 : (Instr.mapUpdate 139 (.map (some w1.heap.size)) (.int .u8 15) (.agg #[.int .i64 1968, .int .i64 1968, .int .i64 0, .bool false, .bool true])).run Try.prog (w1.alloc (.map #[{ key := .int .u8 1, val := .agg #[.int .i64 2000, .int .i64 0, .int .i64 0, .bool false, .bool false], born := 0 }, { key := .int .u8 2, val := .agg #[.int .i64 2000, .int .i64 0, .int .i64 0, .bool false, .bool false], born := 1 }, { key := .int .u8 3, val := .agg #[.int .i64 125, .int .i64 0, .int .i64 0, .bool false, .bool false], born := 2 }, { key := .int .u8 4, val := .agg #[.int .i64 125, .int .i64 0, .int .i64 0, .bool false, .bool false], born := 3 }, { key := .int .u8 5, val := .agg #[.int .i64 0, .int .i64 1, .int .i64 0, .bool false, .bool false], born := 4 }, { key := .int .u8 6, val := .agg #[.int .i64 0, .int .i64 0, .int .i64 1, .bool false, .bool false], born := 5 }] 6)) = .ok () (w1.alloc (.map #[{ key := .int .u8 1, val := .agg #[.int .i64 2000, .int .i64 0, .int .i64 0, .bool false, .bool false], born := 0 }, { key := .int .u8 2, val := .agg #[.int .i64 2000, .int .i64 0, .int .i64 0, .bool false, .bool false], born := 1 }, { key := .int .u8 3, val := .agg #[.int .i64 125, .int .i64 0, .int .i64 0, .bool false, .bool false], born := 2 }, { key := .int .u8 4, val := .agg #[.int .i64 125, .int .i64 0, .int .i64 0, .bool false, .bool false], born := 3 }, { key := .int .u8 5, val := .agg #[.int .i64 0, .int .i64 1, .int .i64 0, .bool false, .bool false], born := 4 }, { key := .int .u8 6, val := .agg #[.int .i64 0, .int .i64 0, .int .i64 1, .bool false, .bool false], born := 5 }, { key := .int .u8 15, val := .agg #[.int .i64 1968, .int .i64 1968, .int .i64 0, .bool false, .bool true], born := 6 }] 7)) := run_ins8 Try.underlying139 Try.underlying5 _ _ _ _ (by rfl) w1
  have h7 : (Instr.mapUpdate 139 (.map (some w1.heap.size)) (.int .u8 16) (.agg #[.int .i64 123, .int .i64 0, .int .i64 123, .bool false, .bool true])).run Try.prog (w1.alloc (.map #[{ key := .int .u8 1, val := .agg #[.int .i64 2000, .int .i64 0, .int .i64 0, .bool false, .bool false], born := 0 }, { key := .int .u8 2, val := .agg #[.int .i64 2000, .int .i64 0, .int .i64 0, .bool false, .bool false], born := 1 }, { key := .int .u8 3, val := .agg #[.int .i64 125, .int .i64 0, .int .i64 0, .bool false, .bool false], born := 2 }, { key := .int .u8 4, val := .agg #[.int .i64 125, .int .i64 0, .int .i64 0, .bool false, .bool false], born := 3 }, { key := .int .u8 5, val := .agg #[.int .i64 0, .int .i64 1, .int .i64 0, .bool false, .bool false], born := 4 }, { key := .int .u8 6, val := .agg #[.int .i64 0, .int .i64 0, .int .i64 1, .bool false, .bool false], born := 5 }, { key := .int .u8 15, val := .agg #[.int .i64 1968, .int .i64 1968, .int .i64 0, .bool false, .bool true], born := 6 }] 7)) = .ok () (w1.alloc (.map #[{ key := .int .u8 1, val := .agg #[.int .i64 2000, .int .i64 0, .int .i64 0, .bool false, .bool false], born := 0 }, { key := .int .u8 2, val := .agg #[.int .i64 2000, .int .i64 0, .int .i64 0, .bool false, .bool false], born := 1 }, { key := .int .u8 3, val := .agg #[.int .i64 125, .int .i64 0, .int .i64 0, .bool false, .bool false], born := 2 }, { key := .int .u8 4, val := .agg #[.int .i64 125, .int .i64 0, .int .i64 0, .bool false, .bool false], born := 3 }, { key := .int .u8 5, val := .agg #[.int .i64 0, .int .i64 1, .int .i64 0, .bool false, .bool false], born := 4 }, { key := .int .u8 6, val := .agg #[.int .i64 0, .int .i64 0, .int .i64 1, .bool false, .bool false], born := 5 }, { key := .int .u8 15, val := .agg #[.int .i64 1968, .int .i64 1968, .int .i64 0, .bool false, .bool true], born := 6 }, { key := .int .u8 16, val := .agg #[.int .i64 123, .int .i64 0, .int .i64 123, .bool false, .bool true], born := 7 }] 8)) := run_ins8 Try.underlying139 Try.underlying5 _ _ _ _ (by rfl) w1
  have h8 : (Instr.mapUpdate 139 (.map (some w1.heap.size)) (.int .u8 23) (.agg #[.int .i64 125, .int .i64 0, .int .i64 121, .bool true, .bool false])).run Try.prog (w1.alloc (.map #[{ key := .int .u8 1, val := .agg #[.int .i64 2000, .int .i64 0, .int .i64 0, .bool false, .bool false], born := 0 }, { key := .int .u8 2, val := .agg #[.int .i64 2000, .int .i64 0, .int .i64 0, .bool false, .bool false], born := 1 }, { key := .int .u8 3, val := .agg #[.int .i64 125, .int .i64 0, .int .i64 0, .bool false, .bool false], born := 2 }, { key := .int .u8 4, val := .agg #[.int .i64 125, .int .i64 0, .int .i64 0, .bool false, .bool false], born := 3 }, { key := .int .u8 5, val := .agg #[.int .i64 0, .int .i64 1, .int .i64 0, .bool false, .bool false], born := 4 }, { key := .int .u8 6, val := .agg #[.int .i64 0, .int .i64 0, .int .i64 1, .bool false, .bool false], born := 5 }, { key := .int .u8 15, val := .agg #[.int .i64 1968, .int .i64 1968, .int .i64 0, .bool false, .bool true], born := 6 }, { key := .int .u8 16, val := .agg #[.int .i64 123, .int .i64 0, .int .i64 123, .bool false, .bool true], born := 7 }] 8)) = .ok () (w1.alloc (.map #[{ key := .int .u8 1, val := .agg #[.int .i64 2000, .int .i64 0, .int .i64 0, .bool false, .bool false], born := 0 }, { key := .int .u8 2, val := .agg #[.int .i64 2000, .int .i64 0, .int .i64 0, .bool false, .bool false], born := 1 }, { key := .int .u8 3, val := .agg #[.int .i64 125, .int .i64 0, .int .i64 0, .bool false, .bool false], born := 2 }, { key := .int .u8 4, val := .agg #[.int .i64 125, .int .i64 0, .int .i64 0, .bool false, .bool false], born := 3 }, { key := .int .u8 5, val := .agg #[.int .i64 0, .int .i64 1, .int .i64 0, .bool false, .bool false], born := 4 }, { key := .int .u8 6, val := .agg #[.int .i64 0, .int .i64 0, .int .i64 1, .bool false, .bool false], born := 5 }, { key := .int .u8 15, val := .agg #[.int .i64 1968, .int .i64 1968, .int .i64 0, .bool false, .bool true], born := 6 }, { key := .int .u8 16, val := .agg #[.int .i64 123, .int .i64 0, .int .i64 123, .bool false, .bool true], born := 7 }, { key := .int .u8 23, val := .agg #[.int .i64 125, .int .i64 0, .int .i64 121, .bool true, .bool false], born := 8 }] 9)) := run_ins8 Try.underlying139 Try.underlying5 _ _ _ _ (by rfl) w1
  have hl := HLOOK.out w1
  go_upto_region 2 with fail
  have hb2 := (hb1.alloc hb1.size (.map #[{ key := .int .u8 1, val := .agg #[.int .i64 2000, .int .i64 0, .int .i64 0, .bool false, .bool false], born := 0 }, { key := .int .u8 2, val := .agg #[.int .i64 2000, .int .i64 0, .int .i64 0, .bool false, .bool false], born := 1 }, { key := .int .u8 3, val := .agg #[.int .i64 125, .int .i64 0, .int .i64 0, .bool false, .bool false], born := 2 }, { key := .int .u8 4, val := .agg #[.int .i64 125, .int .i64 0, .int .i64 0, .bool false, .bool false], born := 3 }, { key := .int .u8 5, val := .agg #[.int .i64 0, .int .i64 1, .int .i64 0, .bool false, .bool false], born := 4 }, { key := .int .u8 6, val := .agg #[.int .i64 0, .int .i64 0, .int .i64 1, .bool false, .bool false], born := 5 }, { key := .int .u8 15, val := .agg #[.int .i64 1968, .int .i64 1968, .int .i64 0, .bool false, .bool true], born := 6 }, { key := .int .u8 16, val := .agg #[.int .i64 123, .int .i64 0, .int .i64 123, .bool false, .bool true], born := 7 }, { key := .int .u8 23, val := .agg #[.int .i64 125, .int .i64 0, .int .i64 121, .bool true, .bool false], born := 8 }] 9)).alloc (by have := hb1.size; simp; omega) (.cells #[.int .i64 (s0 : Int), .int .i64 (s1 : Int), .int .i64 (s2 : Int), .bool s3, .bool s4] 92)
  have bx2 := (bx.alloc (.map #[{ key := .int .u8 1, val := .agg #[.int .i64 2000, .int .i64 0, .int .i64 0, .bool false, .bool false], born := 0 }, { key := .int .u8 2, val := .agg #[.int .i64 2000, .int .i64 0, .int .i64 0, .bool false, .bool false], born := 1 }, { key := .int .u8 3, val := .agg #[.int .i64 125, .int .i64 0, .int .i64 0, .bool false, .bool false], born := 2 }, { key := .int .u8 4, val := .agg #[.int .i64 125, .int .i64 0, .int .i64 0, .bool false, .bool false], born := 3 }, { key := .int .u8 5, val := .agg #[.int .i64 0, .int .i64 1, .int .i64 0, .bool false, .bool false], born := 4 }, { key := .int .u8 6, val := .agg #[.int .i64 0, .int .i64 0, .int .i64 1, .bool false, .bool false], born := 5 }, { key := .int .u8 15, val := .agg #[.int .i64 1968, .int .i64 1968, .int .i64 0, .bool false, .bool true], born := 6 }, { key := .int .u8 16, val := .agg #[.int .i64 123, .int .i64 0, .int .i64 123, .bool false, .bool true], born := 7 }, { key := .int .u8 23, val := .agg #[.int .i64 125, .int .i64 0, .int .i64 121, .bool true, .bool false], born := 8 }] 9)).alloc (.cells #[.int .i64 (s0 : Int), .int .i64 (s1 : Int), .int .i64 (s2 : Int), .bool s3, .bool s4] 92)
  have by2 := Blk.newAt (w1.alloc (.map #[{ key := .int .u8 1, val := .agg #[.int .i64 2000, .int .i64 0, .int .i64 0, .bool false, .bool false], born := 0 }, { key := .int .u8 2, val := .agg #[.int .i64 2000, .int .i64 0, .int .i64 0, .bool false, .bool false], born := 1 }, { key := .int .u8 3, val := .agg #[.int .i64 125, .int .i64 0, .int .i64 0, .bool false, .bool false], born := 2 }, { key := .int .u8 4, val := .agg #[.int .i64 125, .int .i64 0, .int .i64 0, .bool false, .bool false], born := 3 }, { key := .int .u8 5, val := .agg #[.int .i64 0, .int .i64 1, .int .i64 0, .bool false, .bool false], born := 4 }, { key := .int .u8 6, val := .agg #[.int .i64 0, .int .i64 0, .int .i64 1, .bool false, .bool false], born := 5 }, { key := .int .u8 15, val := .agg #[.int .i64 1968, .int .i64 1968, .int .i64 0, .bool false, .bool true], born := 6 }, { key := .int .u8 16, val := .agg #[.int .i64 123, .int .i64 0, .int .i64 123, .bool false, .bool true], born := 7 }, { key := .int .u8 23, val := .agg #[.int .i64 125, .int .i64 0, .int .i64 121, .bool true, .bool false], born := 8 }] 9)) 92 #[.int .i64 (s0 : Int), .int .i64 (s1 : Int), .int .i64 (s2 : Int), .bool s3, .bool s4] _ (World.size_alloc _ _)
  generalize (w1.alloc (.map #[{ key := .int .u8 1, val := .agg #[.int .i64 2000, .int .i64 0, .int .i64 0, .bool false, .bool false], born := 0 }, { key := .int .u8 2, val := .agg #[.int .i64 2000, .int .i64 0, .int .i64 0, .bool false, .bool false], born := 1 }, { key := .int .u8 3, val := .agg #[.int .i64 125, .int .i64 0, .int .i64 0, .bool false, .bool false], born := 2 }, { key := .int .u8 4, val := .agg #[.int .i64 125, .int .i64 0, .int .i64 0, .bool false, .bool false], born := 3 }, { key := .int .u8 5, val := .agg #[.int .i64 0, .int .i64 1, .int .i64 0, .bool false, .bool false], born := 4 }, { key := .int .u8 6, val := .agg #[.int .i64 0, .int .i64 0, .int .i64 1, .bool false, .bool false], born := 5 }, { key := .int .u8 15, val := .agg #[.int .i64 1968, .int .i64 1968, .int .i64 0, .bool false, .bool true], born := 6 }, { key := .int .u8 16, val := .agg #[.int .i64 123, .int .i64 0, .int .i64 123, .bool false, .bool true], born := 7 }, { key := .int .u8 23, val := .agg #[.int .i64 125, .int .i64 0, .int .i64 121, .bool true, .bool false], born := 8 }] 9)).alloc (.cells #[.int .i64 (s0 : Int), .int .i64 (s1 : Int), .int .i64 (s2 : Int), .bool s3, .bool s4] 92) = w3 at *
  clear hmm h0 h1 h2 h3 h4 h5 h6 h7 h8 hl HLOOK
  obtain ⟨d0, d1, d2, d3, d4⟩ := bx2.c5
  obtain ⟨e0, e1, e2, e3, e4⟩ := by2.c5
  have q0 := bx2.frozen 0
  have q1 := bx2.frozen 1
  have q2 := bx2.frozen 2
  have q3 := bx2.frozen 3
  have q4 := bx2.frozen 4
  go_wp2_with fail
  refine bodyPost_ret (v := .tuple #[.agg #[.int .i64 (s0 : Int), .int .i64 (s1 : Int), .int .i64 (s2 : Int), .bool s3, .bool s4], .bool fn]) (by simp [results, Try.results63, go_sem, d0, d1, d2, d3, d4]) rfl ⟨rfl, ?_⟩
  exact ((bset3 hb2 (Nat.le_refl _) _ _ _).setCell (p := ⟨w.heap.size, 3, none⟩) (Nat.le_refl _) _).setCell (p := ⟨w.heap.size, 4, none⟩) (Nat.le_refl _) _
end Go.Proofs.Ytechhidfgheejaa
