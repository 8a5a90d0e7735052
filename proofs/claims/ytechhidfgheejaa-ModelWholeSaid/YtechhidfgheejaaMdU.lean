/- The walks of model.uses and model.target (written by gen_mdu.py). -/
import Derived.Test.YtechhidfgheejaaMdA
import Derived.Test.YtechhidfgheejaaMapLit
namespace Go.Proofs.Ytechhidfgheejaa
open Go.RowKit
set_option linter.unusedSimpArgs false
set_option linter.unusedVariables false

section
variable {P : Program} {T K E : TypeId}
theorem run_look1_some (hT : P.underlying T = some (.map K E)) (hK : P.underlying K = some (.int .u8)) (es : Array MapEntry) (n i : Nat) (k : Int) (v : Value) (h : Instr.findNow (.int .u8) (.int .u8 k) es.toList 0 = some (some (i, v))) (W : World) :
    (Instr.lookup T (.map (some W.heap.size)) (.int .u8 k) false).run P (W.alloc (.map es n)) = .ok v (W.alloc (.map es n)) := by
  unfold Instr.lookup
  simp [Sem.run_bind, run_underlying hT, Result.andThen, getObj_last, checkKey8 hK, findKey8 hK h]
theorem run_look1_none (hT : P.underlying T = some (.map K E)) (hK : P.underlying K = some (.int .u8)) (es : Array MapEntry) (n : Nat) (k : Int) (z : Value) (hz : ∀ w, (zeroValue E).run P w = .ok z w) (h : Instr.findNow (.int .u8) (.int .u8 k) es.toList 0 = some none) (W : World) :
    (Instr.lookup T (.map (some W.heap.size)) (.int .u8 k) false).run P (W.alloc (.map es n)) = .ok z (W.alloc (.map es n)) := by
  unfold Instr.lookup
  simp [Sem.run_bind, run_underlying hT, Result.andThen, getObj_last, checkKey8 hK, findKey8 hK h, hz]
end
def usesMap : Array MapEntry := #[{ key := .int .u8 1, val := .agg #[.int .i64 1, .int .i64 0], born := 0 }, { key := .int .u8 2, val := .agg #[.int .i64 2, .int .i64 0], born := 1 }, { key := .int .u8 3, val := .agg #[.int .i64 3, .int .i64 0], born := 2 }, { key := .int .u8 4, val := .agg #[.int .i64 4, .int .i64 0], born := 3 }, { key := .int .u8 5, val := .agg #[.int .i64 0, .int .i64 1], born := 4 }, { key := .int .u8 6, val := .agg #[.int .i64 0, .int .i64 3], born := 5 }, { key := .int .u8 15, val := .agg #[.int .i64 0, .int .i64 1], born := 6 }, { key := .int .u8 16, val := .agg #[.int .i64 0, .int .i64 3], born := 7 }, { key := .int .u8 23, val := .agg #[.int .i64 3, .int .i64 3], born := 8 }]
theorem find_use (f : Nat) : (∃ i, Instr.findNow (.int .u8) (.int .u8 (f : Int)) usesMap.toList 0 = some (some (i, .agg #[.int .i64 (readsP f : Nat), .int .i64 (writesP f : Nat)]))) ∨
    (Instr.findNow (.int .u8) (.int .u8 (f : Int)) usesMap.toList 0 = some none ∧ readsP f = 0 ∧ writesP f = 0) := by
  by_cases h : f = 1 ∨ f = 2 ∨ f = 3 ∨ f = 4 ∨ f = 5 ∨ f = 6 ∨ f = 15 ∨ f = 16 ∨ f = 23
  · left
    rcases h with rfl | rfl | rfl | rfl | rfl | rfl | rfl | rfl | rfl
    · exact ⟨0, rfl⟩
    · exact ⟨1, rfl⟩
    · exact ⟨2, rfl⟩
    · exact ⟨3, rfl⟩
    · exact ⟨4, rfl⟩
    · exact ⟨5, rfl⟩
    · exact ⟨6, rfl⟩
    · exact ⟨7, rfl⟩
    · exact ⟨8, rfl⟩
  · right
    have e : ∀ k : Nat, f ≠ k → ((f : Int) == (k : Int)) = false := fun k hk => by simp; omega
    have e1 := e 1 (by omega)
    have e2 := e 2 (by omega)
    have e3 := e 3 (by omega)
    have e4 := e 4 (by omega)
    have e5 := e 5 (by omega)
    have e6 := e 6 (by omega)
    have e15 := e 15 (by omega)
    have e16 := e 16 (by omega)
    have e23 := e 23 (by omega)
    simp only [Int.cast_ofNat_Int, Int.natCast_one] at e1 e2 e3 e4 e5 e6 e15 e16 e23
    refine ⟨by simp [usesMap, Instr.findNow, Instr.sameNow, e1, e2, e3, e4, e5, e6, e15, e16, e23], ?_, ?_⟩
    · unfold readsP; rw [if_neg (by omega), if_neg (by omega), if_neg (by omega), if_neg (by omega)]
    · unfold writesP; rw [if_neg (by omega), if_neg (by omega)]
theorem zero_use (w : World) : (zeroValue 104).run Try.prog w = .ok (.agg #[.int .i64 0, .int .i64 0]) w := by kernel_rfl
def useV (f : Nat) : Value := .agg #[.int .i64 (readsP f : Nat), .int .i64 (writesP f : Nat)]

set_option maxRecDepth 100000 in
set_option maxHeartbeats 1000000 in
theorem md_uses (f : Nat) (w : World) (hf : f < 256) :
    Calls Try.prog 67 #[.int .u8 (f : Int)] w fun e w' => e = .returned (useV f) ∧ Below w.heap.size w w' := by
  have hlook : ∀ W : World, (Instr.lookup 140 (.map (some W.heap.size)) (.int .u8 (f : Int)) false).run Try.prog (W.alloc (.map usesMap 9)) = .ok (.agg #[.int .i64 (readsP f : Nat), .int .i64 (writesP f : Nat)]) (W.alloc (.map usesMap 9)) := by
    intro W
    rcases find_use f with ⟨i, hi⟩ | ⟨hi, h1, h2⟩
    · exact run_look1_some Try.underlying140 Try.underlying5 usesMap 9 i _ _ hi W
    · rw [h1, h2]
      exact run_look1_none Try.underlying140 Try.underlying5 usesMap 9 _ _ zero_use hi W
  unfold useV
  generalize readsP f = rp at *
  generalize writesP f = wp at *
  have HLOOK := Lib.hid hlook
  clear hlook
  unfold usesMap at HLOOK
  have hb1 := (Below.refl _ w).alloc (Nat.le_refl _) (.cells #[.int .i64 0, .int .i64 0] 104)
  have bx := Blk.new w 104 #[.int .i64 0, .int .i64 0]
  go_enter Try.func67, Try.ntmps67
  go_upto_region 1 with fail
  obtain ⟨g, hg⟩ : ∃ g, w.heap.size = g := ⟨_, rfl⟩
  have hgw : w.heap.size ≤ g := by omega
  rw [hg] at bx ⊢
  generalize w.alloc (.cells #[.int .i64 0, .int .i64 0] 104) = w1 at *
  have hmm : ∀ W : World, (Instr.makeMap 140 none).run Try.prog W = .ok (.map (some W.heap.size)) (W.alloc (.map #[] 0)) := fun _ => rfl
  have h0 : (Instr.mapUpdate 140 (.map (some w1.heap.size)) (.int .u8 1) (.agg #[.int .i64 1, .int .i64 0])).run Try.prog (w1.alloc (.map #[] 0)) = .ok () (w1.alloc (.map #[{ key := .int .u8 1, val := .agg #[.int .i64 1, .int .i64 0], born := 0 }] 1)) := run_ins8 Try.underlying140 Try.underlying5 _ _ _ _ (by rfl) w1
  have h1 : (Instr.mapUpdate 140 (.map (some w1.heap.size)) (.int .u8 2) (.agg #[.int .i64 2, .int .i64 0])).run Try.prog (w1.alloc (.map #[{ key := .int .u8 1, val := .agg #[.int .i64 1, .int .i64 0], born := 0 }] 1)) = .ok () (w1.alloc (.map #[{ key := .int .u8 1, val := .agg #[.int .i64 1, .int .i64 0], born := 0 }, { key := .int .u8 2, val := .agg #[.int .i64 2, .int .i64 0], born := 1 }] 2)) := run_ins8 Try.underlying140 Try.underlying5 _ _ _ _ (by rfl) w1
  have h2 : (Instr.mapUpdate 140 (.map (some w1.heap.size)) (.int .u8 3) (.agg #[.int .i64 3, .int .i64 0])).run Try.prog (w1.alloc (.map #[{ key := .int .u8 1, val := .agg #[.int .i64 1, .int .i64 0], born := 0 }, { key := .int .u8 2, val := .agg #[.int .i64 2, .int .i64 0], born := 1 }] 2)) = .ok () (w1.alloc (.map #[{ key := .int .u8 1, val := .agg #[.int .i64 1, .int .i64 0], born := 0 }, { key := .int .u8 2, val := .agg #[.int .i64 2, .int .i64 0], born := 1 }, { key := .int .u8 3, val := .agg #[.int .i64 3, .int .i64 0], born := 2 }] 3)) := run_ins8 Try.underlying140 Try.underlying5 _ _ _ _ (by rfl) w1
  have h3 : (Instr.mapUpdate 140 (.map (some w1.heap.size)) (.int .u8 4) (.agg #[.int .i64 4, .int .i64 0])).run Try.prog (w1.alloc (.map #[{ key := .int .u8 1, val := .agg #[.int .i64 1, .int .i64 0], born := 0 }, { key := .int .u8 2, val := .agg #[.int .i64 2, .int .i64 0], born := 1 }, { key := .int .u8 3, val := .agg #[.int .i64 3, .int .i64 0], born := 2 }] 3)) = .ok () (w1.alloc (.map #[{ key := .int .u8 1, val := .agg #[.int .i64 1, .int .i64 0], born := 0 }, { key := .int .u8 2, val := .agg #[.int .i64 2, .int .i64 0], born := 1 }, { key := .int .u8 3, val := .agg #[.int .i64 3, .int .i64 0], born := 2 }, { key := .int .u8 4, val := .agg #[.int .i64 4, .int .i64 0], born := 3 }] 4)) := run_ins8 Try.underlying140 Try.underlying5 _ _ _ _ (by rfl) w1
  have h4 : (Instr.mapUpdate 140 (.map (some w1.heap.size)) (.int .u8 5) (.agg #[.int .i64 0, .int .i64 1])).run Try.prog (w1.alloc (.map #[{ key := .int .u8 1, val := .agg #[.int .i64 1, .int .i64 0], born := 0 }, { key := .int .u8 2, val := .agg #[.int .i64 2, .int .i64 0], born := 1 }, { key := .int .u8 3, val := .agg #[.int .i64 3, .int .i64 0], born := 2 }, { key := .int .u8 4, val := .agg #[.int .i64 4, .int .i64 0], born := 3 }] 4)) = .ok () (w1.alloc (.map #[{ key := .int .u8 1, val := .agg #[.int .i64 1, .int .i64 0], born := 0 }, { key := .int .u8 2, val := .agg #[.int .i64 2, .int .i64 0], born := 1 }, { key := .int .u8 3, val := .agg #[.int .i64 3, .int .i64 0], born := 2 }, { key := .int .u8 4, val := .agg #[.int .i64 4, .int .i64 0], born := 3 }, { key := .int .u8 5, val := .agg #[.int .i64 0, .int .i64 1], born := 4 }] 5)) := run_ins8 Try.underlying140 Try.underlying5 _ _ _ _ (by rfl) w1
  have h5 : (Instr.mapUpdate 140 (.map (some w1.heap.size)) (.int .u8 6) (.agg #[.int .i64 0, .int .i64 3])).run Try.prog (w1.alloc (.map #[{ key := .int .u8 1, val := .agg #[.int .i64 1, .int .i64 0], born := 0 }, { key := .int .u8 2, val := .agg #[.int .i64 2, .int .i64 0], born := 1 }, { key := .int .u8 3, val := .agg #[.int .i64 3, .int .i64 0], born := 2 }, { key := .int .u8 4, val := .agg #[.int .i64 4, .int .i64 0], born := 3 }, { key := .int .u8 5, val := .agg #[.int .i64 0, .int .i64 1], born := 4 }] 5)) = .ok () (w1.alloc (.map #[{ key := .int .u8 1, val := .agg #[.int .i64 1, .int .i64 0], born := 0 }, { key := .int .u8 2, val := .agg #[.int .i64 2, .int .i64 0], born := 1 }, { key := .int .u8 3, val := .agg #[.int .i64 3, .int .i64 0], born := 2 }, { key := .int .u8 4, val := .agg #[.int .i64 4, .int .i64 0], born := 3 }, { key := .int .u8 5, val := .agg #[.int .i64 0, .int .i64 1], born := 4 }, { key := .int .u8 6, val := .agg #[.int .i64 0, .int .i64 3], born := 5 }] 6)) := run_ins8 Try.underlying140 Try.underlying5 _ _ _ _ (by rfl) w1
  have h6 : (Instr.mapUpdate 140 (.map (some w1.heap.size)) (.int .u8 15) (.agg #[.int .i64 0, .int .i64 1])).run Try.prog (w1.alloc (.map #[{ key := .int .u8 1, val := .agg #[.int .i64 1, .int .i64 0], born := 0 }, { key := .int .u8 2, val := .agg #[.int .i64 2, .int .i64 0], born := 1 }, { key := .int .u8 3, val := .agg #[.int .i64 3, .int .i64 0], born := 2 }, { key := .int .u8 4, val := .agg #[.int .i64 4, .int .i64 0], born := 3 }, { key := .int .u8 5, val := .agg #[.int .i64 0, .int .i64 1], born := 4 }, { key := .int .u8 6, val := .agg #[.int .i64 0, .int .i64 3], born := 5 }] 6)) = .ok () (w1.alloc (.map #[{ key := .int .u8 1, val := .agg #[.int .i64 1, .int .i64 0], born := 0 }, { key := .int .u8 2, val := .agg #[.int .i64 2, .int .i64 0], born := 1 }, { key := .int .u8 3, val := .agg #[.int .i64 3, .int .i64 0], born := 2 }, { key := .int .u8 4, val := .agg #[.int .i64 4, .int .i64 0], born := 3 }, { key := .int .u8 5, val := .agg #[.int .i64 0, .int .i64 1], born := 4 }, { key := .int .u8 6, val := .agg #[.int .i64 0, .int .i64 3], born := 5 }, { key := .int .u8 15, val := .agg #[.int .i64 0, .int .i64 1], born := 6 }] 7)) := run_ins8 Try.underlying140 Try.underlying5 _ _ _ _ (by rfl) w1
  have h7 : (Instr.mapUpdate 140 (.map (some w1.heap.size)) (.int .u8 16) (.agg #[.int .i64 0, .int .i64 3])).run Try.prog (w1.alloc (.map #[{ key := .int .u8 1, val := .agg #[.int .i64 1, .int .i64 0], born := 0 }, { key := .int .u8 2, val := .agg #[.int .i64 2, .int .i64 0], born := 1 }, { key := .int .u8 3, val := .agg #[.int .i64 3, .int .i64 0], born := 2 }, { key := .int .u8 4, val := .agg #[.int .i64 4, .int .i64 0], born := 3 }, { key := .int .u8 5, val := .agg #[.int .i64 0, .int .i64 1], born := 4 }, { key := .int .u8 6, val := .agg #[.int .i64 0, .int .i64 3], born := 5 }, { key := .int .u8 15, val := .agg #[.int .i64 0, .int .i64 1], born := 6 }] 7)) = .ok () (w1.alloc (.map #[{ key := .int .u8 1, val := .agg #[.int .i64 1, .int .i64 0], born := 0 }, { key := .int .u8 2, val := .agg #[.int .i64 2, .int .i64 0], born := 1 }, { key := .int .u8 3, val := .agg #[.int .i64 3, .int .i64 0], born := 2 }, { key := .int .u8 4, val := .agg #[.int .i64 4, .int .i64 0], born := 3 }, { key := .int .u8 5, val := .agg #[.int .i64 0, .int .i64 1], born := 4 }, { key := .int .u8 6, val := .agg #[.int .i64 0, .int .i64 3], born := 5 }, { key := .int .u8 15, val := .agg #[.int .i64 0, .int .i64 1], born := 6 }, { key := .int .u8 16, val := .agg #[.int .i64 0, .int .i64 3], born := 7 }] 8)) := run_ins8 Try.underlying140 Try.underlying5 _ _ _ _ (by rfl) w1
  have h8 : (Instr.mapUpdate 140 (.map (some w1.heap.size)) (.int .u8 23) (.agg #[.int .i64 3, .int .i64 3])).run Try.prog (w1.alloc (.map #[{ key := .int .u8 1, val := .agg #[.int .i64 1, .int .i64 0], born := 0 }, { key := .int .u8 2, val := .agg #[.int .i64 2, .int .i64 0], born := 1 }, { key := .int .u8 3, val := .agg #[.int .i64 3, .int .i64 0], born := 2 }, { key := .int .u8 4, val := .agg #[.int .i64 4, .int .i64 0], born := 3 }, { key := .int .u8 5, val := .agg #[.int .i64 0, .int .i64 1], born := 4 }, { key := .int .u8 6, val := .agg #[.int .i64 0, .int .i64 3], born := 5 }, { key := .int .u8 15, val := .agg #[.int .i64 0, .int .i64 1], born := 6 }, { key := .int .u8 16, val := .agg #[.int .i64 0, .int .i64 3], born := 7 }] 8)) = .ok () (w1.alloc (.map #[{ key := .int .u8 1, val := .agg #[.int .i64 1, .int .i64 0], born := 0 }, { key := .int .u8 2, val := .agg #[.int .i64 2, .int .i64 0], born := 1 }, { key := .int .u8 3, val := .agg #[.int .i64 3, .int .i64 0], born := 2 }, { key := .int .u8 4, val := .agg #[.int .i64 4, .int .i64 0], born := 3 }, { key := .int .u8 5, val := .agg #[.int .i64 0, .int .i64 1], born := 4 }, { key := .int .u8 6, val := .agg #[.int .i64 0, .int .i64 3], born := 5 }, { key := .int .u8 15, val := .agg #[.int .i64 0, .int .i64 1], born := 6 }, { key := .int .u8 16, val := .agg #[.int .i64 0, .int .i64 3], born := 7 }, { key := .int .u8 23, val := .agg #[.int .i64 3, .int .i64 3], born := 8 }] 9)) := run_ins8 Try.underlying140 Try.underlying5 _ _ _ _ (by rfl) w1
  have hl := HLOOK.out w1
  have hb2 := hb1.alloc hb1.size (.map #[{ key := .int .u8 1, val := .agg #[.int .i64 1, .int .i64 0], born := 0 }, { key := .int .u8 2, val := .agg #[.int .i64 2, .int .i64 0], born := 1 }, { key := .int .u8 3, val := .agg #[.int .i64 3, .int .i64 0], born := 2 }, { key := .int .u8 4, val := .agg #[.int .i64 4, .int .i64 0], born := 3 }, { key := .int .u8 5, val := .agg #[.int .i64 0, .int .i64 1], born := 4 }, { key := .int .u8 6, val := .agg #[.int .i64 0, .int .i64 3], born := 5 }, { key := .int .u8 15, val := .agg #[.int .i64 0, .int .i64 1], born := 6 }, { key := .int .u8 16, val := .agg #[.int .i64 0, .int .i64 3], born := 7 }, { key := .int .u8 23, val := .agg #[.int .i64 3, .int .i64 3], born := 8 }] 9)
  have bx2 := bx.alloc (.map #[{ key := .int .u8 1, val := .agg #[.int .i64 1, .int .i64 0], born := 0 }, { key := .int .u8 2, val := .agg #[.int .i64 2, .int .i64 0], born := 1 }, { key := .int .u8 3, val := .agg #[.int .i64 3, .int .i64 0], born := 2 }, { key := .int .u8 4, val := .agg #[.int .i64 4, .int .i64 0], born := 3 }, { key := .int .u8 5, val := .agg #[.int .i64 0, .int .i64 1], born := 4 }, { key := .int .u8 6, val := .agg #[.int .i64 0, .int .i64 3], born := 5 }, { key := .int .u8 15, val := .agg #[.int .i64 0, .int .i64 1], born := 6 }, { key := .int .u8 16, val := .agg #[.int .i64 0, .int .i64 3], born := 7 }, { key := .int .u8 23, val := .agg #[.int .i64 3, .int .i64 3], born := 8 }] 9)
  have d0 := bx2.cell 0
  have d1 := bx2.cell 1
  have q0 := bx2.frozen 0
  have q1 := bx2.frozen 1
  clear hg
  go_wp2_with fail
  refine bodyPost_ret (v := .agg #[.int .i64 (rp : Int), .int .i64 (wp : Int)]) (by simp [results, Try.results67, go_sem, d0, d1]) rfl ⟨rfl, ?_⟩
  exact bset1 (bset1 hb2 hgw 0 _) hgw 1 _
set_option maxRecDepth 100000 in
set_option maxHeartbeats 1000000 in
theorem md_target (a : Ak) (A : Option Addr) (c : Nat) (B : Option Addr) (d : Nat) (w : World) (hok : a.ok) (hw : a.words.length ≤ 1000000) (hk : a.bits.length ≤ 1000000) :
    Calls Try.prog 68 #[a.v A c B d] w fun e w' => e = .returned (.tuple #[.int .i64 (targetT a : Nat), .int .i64 (targetM a : Nat)]) ∧ Below w.heap.size w w' := by
  have hb := (Below.refl _ w).alloc (Nat.le_refl _) (.cells #[.int .u8 (a.fn : Int), .int .u16 (a.at_ : Int), .int .u16 (a.many : Int), .int .u16 (a.to_ : Int), .slice A a.words.length c, .slice B a.bits.length d] 41)
  have bx := Blk.new w 41 #[.int .u8 (a.fn : Int), .int .u16 (a.at_ : Int), .int .u16 (a.many : Int), .int .u16 (a.to_ : Int), .slice A a.words.length c, .slice B a.bits.length d]
  have HT : Hid (targetT a = if a.fn = 23 then a.to_ else a.at_) := rfl
  have HM : Hid (targetM a = a.bits.length + a.words.length) := rfl
  generalize targetT a = tt at *
  generalize targetM a = tm at *
  have hmi : (a.bits.length : Int) + (a.words.length : Int) = (tm : Int) := by have := HM.out; omega
  simp only [Ak.v, akV]
  have h1 := hok.at_
  have h2 := hok.to_
  go_enter Try.func68, Try.ntmps68
  go_upto_region 1 with fail
  generalize w.alloc (.cells #[.int .u8 (a.fn : Int), .int .u16 (a.at_ : Int), .int .u16 (a.many : Int), .int .u16 (a.to_ : Int), .slice A a.words.length c, .slice B a.bits.length d] 41) = w1 at *
  obtain ⟨d0, d1, d2, d3, d4, d5⟩ := bx.c6
  by_cases h : a.fn = 23
  · have e1 : Hid (tt = a.to_) := by (show _ = _); rw [HT.out, if_pos h]
    have v1 : ((a.fn : Int) == 23) = true := by simp [h]
    clear h
    go_wp2_with fail
    go_ret2
    exact ⟨ret_two (by rw [e1.out]) rfl, hb⟩
  · have e1 : Hid (tt = a.at_) := by (show _ = _); rw [HT.out, if_neg h]
    have v1 : ((a.fn : Int) == 23) = false := by simp; omega
    clear h
    go_wp2_with fail
    go_ret2
    exact ⟨ret_two (by rw [e1.out]) rfl, hb⟩
end Go.Proofs.Ytechhidfgheejaa
