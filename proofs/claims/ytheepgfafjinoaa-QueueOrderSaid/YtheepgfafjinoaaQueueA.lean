/- The walks of the queue's small methods. -/
import Derived.Test.YtheepgfafjinoaaTyD
import Derived.LaidEqlPtr
import Derived.Deep.QuietTactic
import Derived.BigQuiet
import Derived.BigRegion
import Derived.Deep.RegionHeld3
import Derived.WalkSpells
import Derived.WalkLawsBesides
namespace Go.Proofs.Ytheepgfafjinoaa
open Go.RowKit
set_option linter.unusedSimpArgs false
set_option linter.unusedVariables false

/-- the cells of a queue that New has made: the ring r, its begin h, how many wait m, the room rm, the greatest mo -/
structure Qa (g : Nat) (cs : Array Value) (r : List Nat) (h m rm mo : Nat) : Prop where
  size : cs.size = 37
  self : cs[0]? = some (.pointer (some ⟨g, 0, none⟩))
  len : r.length = 32
  ring : ∀ i x, r[i]? = some x → cs[1 + i]? = some (.int .u32 (x : Int))
  head : cs[33]? = some (.int .i64 (h : Int))
  many : cs[34]? = some (.int .i64 (m : Int))
  room : cs[35]? = some (.int .i64 (rm : Int))
  most : cs[36]? = some (.int .u32 (mo : Int))
/-- block g is that queue -/
def Qb (w : World) (g : Nat) (r : List Nat) (h m rm mo : Nat) : Prop := ∃ cs, w.heap[g]? = some (.cells cs 79 (0, 0)) ∧ Qa g cs r h m rm mo

section
variable {w w' : World} {g : Nat} {r : List Nat} {h m rm mo : Nat}
theorem Qb.cell (q : Qb w g r h m rm mo) : w.cell? ⟨g, 0, none⟩ = some (.pointer (some ⟨g, 0, none⟩)) ∧ w.cell? ⟨g, 33, none⟩ = some (.int .i64 (h : Int)) ∧ w.cell? ⟨g, 34, none⟩ = some (.int .i64 (m : Int)) ∧ w.cell? ⟨g, 35, none⟩ = some (.int .i64 (rm : Int)) ∧ w.cell? ⟨g, 36, none⟩ = some (.int .u32 (mo : Int)) := by
  obtain ⟨cs, hg, qa⟩ := q
  exact ⟨(cell_of_row w g 0 cs _ (0, 0) hg).trans qa.self, (cell_of_row w g 33 cs _ (0, 0) hg).trans qa.head, (cell_of_row w g 34 cs _ (0, 0) hg).trans qa.many, (cell_of_row w g 35 cs _ (0, 0) hg).trans qa.room, (cell_of_row w g 36 cs _ (0, 0) hg).trans qa.most⟩
theorem Qb.ring (q : Qb w g r h m rm mo) {i x : Nat} (hx : r[i]? = some x) : w.cell? ⟨g, 1 + i, none⟩ = some (.int .u32 (x : Int)) := by
  obtain ⟨cs, hg, qa⟩ := q
  exact (cell_of_row w g (1 + i) cs _ (0, 0) hg).trans (qa.ring i x hx)
theorem Qb.free (q : Qb w g r h m rm mo) (i : Nat) : w.frozen? ⟨g, i, none⟩ = false := by
  obtain ⟨cs, hg, qa⟩ := q
  exact frozen_of_row w g i cs _ hg
theorem Qb.drewN (q : Qb w g r h m rm mo) (n : Nat) : Qb (w.drewN n) g r h m rm mo := q
theorem Qb.drew (q : Qb w g r h m rm mo) : Qb w.drew g r h m rm mo := q
theorem Qb.lt (q : Qb w g r h m rm mo) : g < w.heap.size := by
  obtain ⟨cs, hg, qa⟩ := q
  exact (Array.getElem?_eq_some_iff.1 hg).1
theorem Qb.below (q : Qb w g r h m rm mo) {B : Nat} (hb : Below B w w') (hB : g < B) : Qb w' g r h m rm mo := by
  obtain ⟨cs, hg, qa⟩ := q
  exact ⟨cs, (hb.block g hB).trans hg, qa⟩
theorem Qb.grown (q : Qb w g r h m rm mo) {row : Option Nat} (hb : w.grownBy w' row) (hne : some g ≠ row) : Qb w' g r h m rm mo := by
  have := q.lt
  obtain ⟨cs, hg, qa⟩ := q
  exact ⟨cs, (hb.block g this hne).trans hg, qa⟩
theorem Qb.eql (q : Qb w g r h m rm mo) (W : World) : (binOp .eql 53 (.pointer (some ⟨g, 0, none⟩)) (.pointer (some ⟨g, 0, none⟩))).run Try.prog W = .ok (.bool true) W := by
  have hj : (Try.prog.info? 79).isSome = true := by kernel_rfl
  obtain ⟨j, hj⟩ := Option.isSome_iff_exists.1 hj
  exact run_eql_ptr_same W ⟨g, 0, none⟩ Try.underlying53 hj
end

set_option maxHeartbeats 400000 in
theorem q_made (g : Nat) (r : List Nat) (h m rm mo : Nat) (w : World) (q : Qb w g r h m rm mo) :
    Calls Try.prog 53 #[.pointer (some ⟨g, 0, none⟩)] w fun e w' => e = .returned (.bool true) ∧ w = w' := by
  obtain ⟨c0, -, -, -, -⟩ := q.cell
  have heq := q.eql
  go_enter Try.func53, Try.ntmps53
  go_wp2
  go_ret
  exact ⟨rfl, rfl⟩

set_option maxHeartbeats 400000 in
theorem q_place (g h : Nat) (w : World) (c1 : w.cell? ⟨g, 33, none⟩ = some (.int .i64 (h : Int))) (i : Nat) (hh : h < 32) (hi : i ≤ 64) :
    Calls Try.prog 54 #[.pointer (some ⟨g, 0, none⟩), .int .i64 (i : Int)] w fun e w' => e = .returned (.int .i64 (((h + i) % 32 : Nat) : Int)) ∧ w = w' := by
  go_enter Try.func54, Try.ntmps54
  go_wp2
  go_ret
  exact ⟨ret_int (by simp), rfl⟩

set_option maxHeartbeats 400000 in
theorem q_Len (g : Nat) (r : List Nat) (h m rm mo : Nat) (w : World) (q : Qb w g r h m rm mo) :
    Calls Try.prog 46 #[.pointer (some ⟨g, 0, none⟩)] w fun e w' => e = .returned (.int .i64 (m : Int)) ∧ w = w' := by
  obtain ⟨-, -, c2, -, -⟩ := q.cell
  go_enter Try.func46, Try.ntmps46
  go_wp2_with fail
  refine (q_made g r h m rm mo w q).mono ?_
  rintro e w1 ⟨rfl, rfl⟩
  go_wp2_with fail
  go_ret
  exact ⟨rfl, rfl⟩

set_option maxHeartbeats 400000 in
theorem q_First_none (g : Nat) (r : List Nat) (h rm mo : Nat) (w : World) (q : Qb w g r h 0 rm mo) :
    Calls Try.prog 43 #[.pointer (some ⟨g, 0, none⟩)] w fun e w' => e = .returned (.tuple #[.int .u32 0, .bool false]) ∧ w = w' := by
  obtain ⟨-, -, c2, -, -⟩ := q.cell
  go_enter Try.func43, Try.ntmps43
  go_wp2_with fail
  refine (q_made g r h 0 rm mo w q).mono ?_
  rintro e w1 ⟨rfl, rfl⟩
  go_wp2_with fail
  go_ret2
  exact ⟨rfl, rfl⟩

set_option maxHeartbeats 400000 in
theorem q_First_some (g : Nat) (r : List Nat) (h m rm mo x : Nat) (w : World) (q : Qb w g r h (m + 1) rm mo) (hh : h < 32) (hx : r[h]? = some x) :
    Calls Try.prog 43 #[.pointer (some ⟨g, 0, none⟩)] w fun e w' => e = .returned (.tuple #[.int .u32 (x : Int), .bool true]) ∧ ∃ n, w' = w.drewN n := by
  obtain ⟨-, c1, c2, -, -⟩ := q.cell
  have c5 := q.ring hx
  have hm : (((m + 1 : Nat) : Int) == 0) = false := by simp; omega
  have h0 : (0 : Int) ≤ (h : Int) := by omega
  have h1 : (h : Int) < 32 := by omega
  clear hx
  go_enter Try.func43, Try.ntmps43
  go_wp2_with fail
  refine (q_made g r h (m + 1) rm mo w q).mono ?_
  rintro e w1 ⟨rfl, rfl⟩
  go_wp2_with fail
  go_quiet (fail)
  go_wp2_with fail
  go_ret2
  exact ⟨rfl, _, rfl⟩

set_option maxHeartbeats 1000000 in
theorem q_New_no (room : Int) (w : World) (hr : room < 1 ∨ 32 < room) :
    Calls Try.prog 36 #[.int .i64 room] w fun e w' => e = .returned (.tuple #[.pointer none, .int .i64 2]) ∧ w = w' := by
  rcases hr with hr | hr
  · go_enter Try.func36, Try.ntmps36
    go_wp2_with fail
    go_ret2
    exact ⟨rfl, rfl⟩
  · have h1 : decide (room < 1) = false := by simp; omega
    go_enter Try.func36, Try.ntmps36
    go_wp2_with fail
    go_ret2
    exact ⟨rfl, rfl⟩

set_option maxHeartbeats 1000000 in
theorem q_New (room : Nat) (w : World) (hr1 : 1 ≤ room) (hr2 : room ≤ 32) :
    Calls Try.prog 36 #[.int .i64 (room : Int)] w fun e w' => e = .returned (.tuple #[.pointer (some ⟨w.heap.size, 0, none⟩), .int .i64 0]) ∧ Qb w' w.heap.size (List.replicate 32 0) 0 0 room 0 ∧ Below w.heap.size w w' := by
  have h1 : decide ((room : Int) < 1) = false := by simp; omega
  have h2 : decide ((32 : Int) < (room : Int)) = false := by simp; omega
  go_enter Try.func36, Try.ntmps36
  go_wp2_with fail
  go_ret2
  refine ⟨rfl, ⟨_, heap_alloc_new w _, ⟨rfl, rfl, rfl, fun i x hx => ?_, rfl, rfl, rfl, rfl⟩⟩, (Below.refl _ _).alloc (Nat.le_refl _) _⟩
  rw [List.getElem?_replicate] at hx
  split at hx
  · rename_i hi
    injection hx with hx
    subst hx
    show ((Value.pointer (some ⟨w.heap.size, 0, none⟩) :: (List.replicate 32 (Value.int .u32 0) ++ [Value.int .i64 0, Value.int .i64 0, Value.int .i64 (room : Int), Value.int .u32 0])).toArray)[1 + i]? = _
    rw [Nat.add_comm 1 i]
    rw [List.getElem?_toArray, List.getElem?_cons_succ, List.getElem?_append_left (by rw [List.length_replicate]; exact hi), List.getElem?_replicate, if_pos hi]
    rfl
  · cases hx

set_option maxHeartbeats 400000 in
theorem q_Put_arg (g : Nat) (r : List Nat) (h m rm mo tx : Nat) (w : World) (q : Qb w g r h m rm mo) (ht : tx ≤ mo) :
    Calls Try.prog 42 #[.pointer (some ⟨g, 0, none⟩), .int .u32 (tx : Int)] w fun e w' => e = .returned (.int .i64 2) ∧ w = w' := by
  obtain ⟨-, -, -, -, c4⟩ := q.cell
  have h1 : decide ((tx : Int) ≤ (mo : Int)) = true := by simp; omega
  go_enter Try.func42, Try.ntmps42
  go_wp2_with fail
  refine (q_made g r h m rm mo w q).mono ?_
  rintro e w1 ⟨rfl, rfl⟩
  go_wp2_with fail
  go_ret
  exact ⟨rfl, rfl⟩

set_option maxHeartbeats 400000 in
theorem q_Put_full (g : Nat) (r : List Nat) (h m mo tx : Nat) (w : World) (q : Qb w g r h m m mo) (ht : mo < tx) :
    Calls Try.prog 42 #[.pointer (some ⟨g, 0, none⟩), .int .u32 (tx : Int)] w fun e w' => e = .returned (.int .i64 5) ∧ ∃ n, w' = w.drewN n := by
  obtain ⟨-, -, c2, c3, c4⟩ := q.cell
  have h1 : decide ((tx : Int) ≤ (mo : Int)) = false := by simp; omega
  go_enter Try.func42, Try.ntmps42
  go_wp2_with fail
  refine (q_made g r h m m mo w q).mono ?_
  rintro e w1 ⟨rfl, rfl⟩
  go_wp2_with fail
  go_quiet (fail)
  go_wp2_with fail
  go_ret
  exact ⟨rfl, _, rfl⟩

/-! ### stores into the queue's cells -/
section
variable {w : World} {g : Nat} {r : List Nat} {h m rm mo : Nat}
theorem Qb.setRing (q : Qb w g r h m rm mo) (p x : Nat) (hp : p < 32) : Qb (w.setCell ⟨g, 1 + p, none⟩ (.int .u32 (x : Int))) g (r.set p x) h m rm mo := by
  obtain ⟨cs, hg, qa⟩ := q
  refine ⟨_, heap_setCell_same w g (1 + p) cs _ _ hg, ?_⟩
  obtain ⟨q1, q2, q3, q4, q5, q6, q7, q8⟩ := qa
  refine ⟨by simpa using q1, ?_, by simpa using q3, fun i y hy => ?_, ?_, ?_, ?_, ?_⟩
  · rw [Array.getElem?_setIfInBounds, if_neg (by omega)]; exact q2
  · rw [List.getElem?_set] at hy
    rw [Array.getElem?_setIfInBounds]
    by_cases e : p = i
    · subst e
      rw [if_pos rfl, if_pos (by omega)] at hy
      injection hy with hy
      rw [if_pos rfl, if_pos (by omega), hy]
    · rw [if_neg e] at hy
      rw [if_neg (by omega)]
      exact q4 i y hy
  · rw [Array.getElem?_setIfInBounds, if_neg (by omega)]; exact q5
  · rw [Array.getElem?_setIfInBounds, if_neg (by omega)]; exact q6
  · rw [Array.getElem?_setIfInBounds, if_neg (by omega)]; exact q7
  · rw [Array.getElem?_setIfInBounds, if_neg (by omega)]; exact q8
theorem Qb.setField (q : Qb w g r h m rm mo) (k : Nat) (v : Value) (hk : 33 ≤ k) (h' m' rm' mo' : Nat)
    (e1 : (if k = 33 then v else .int .i64 (h : Int)) = .int .i64 (h' : Int)) (e2 : (if k = 34 then v else .int .i64 (m : Int)) = .int .i64 (m' : Int))
    (e3 : (if k = 35 then v else .int .i64 (rm : Int)) = .int .i64 (rm' : Int)) (e4 : (if k = 36 then v else .int .u32 (mo : Int)) = .int .u32 (mo' : Int)) :
    Qb (w.setCell ⟨g, k, none⟩ v) g r h' m' rm' mo' := by
  obtain ⟨cs, hg, qa⟩ := q
  refine ⟨_, heap_setCell_same w g k cs _ _ hg, ?_⟩
  obtain ⟨q1, q2, q3, q4, q5, q6, q7, q8⟩ := qa
  have key : ∀ (j : Nat) (u u' : Value), cs[j]? = some u → (if k = j then v else u) = u' → (cs.setIfInBounds k v)[j]? = some u' := by
    intro j u u' hu he
    have hj := (Array.getElem?_eq_some_iff.1 hu).1
    rw [Array.getElem?_setIfInBounds]
    by_cases e : k = j
    · rw [if_pos e] at he ⊢
      rw [if_pos (by omega), he]
    · rw [if_neg e] at he ⊢
      rw [hu, he]
  refine ⟨by simpa using q1, ?_, q3, fun i y hy => ?_, key 33 _ _ q5 e1, key 34 _ _ q6 e2, key 35 _ _ q7 e3, key 36 _ _ q8 e4⟩
  · rw [Array.getElem?_setIfInBounds, if_neg (by omega)]; exact q2
  · have hi : i < 32 := by rw [← q3]; exact (List.getElem?_eq_some_iff.1 hy).1
    rw [Array.getElem?_setIfInBounds, if_neg (by omega)]
    exact q4 i y hy
end
theorem grown_set {a w : World} {g : Nat} (h : a.grownBy w (some g)) (j : Nat) (u : Value) : a.grownBy (w.setCell ⟨g, j, none⟩ u) (some g) :=
  ⟨h.os, h.tape, h.output, by simpa [World.setCell] using h.size, fun i hi hne => (Below.heap_setCell w ⟨g, j, none⟩ u i (fun e => hne (by rw [e]))).trans (h.block i hi hne)⟩
theorem grown_drewN {a w : World} {row : Option Nat} (h : a.grownBy w row) (n : Nat) : a.grownBy (w.drewN n) row := ⟨h.os, h.tape, h.output, h.size, h.block⟩
theorem grown_drew {a w : World} {row : Option Nat} (h : a.grownBy w row) : a.grownBy w.drew row := ⟨h.os, h.tape, h.output, h.size, h.block⟩
theorem grown_refl (w : World) (row : Option Nat) : w.grownBy w row := ⟨rfl, rfl, rfl, Nat.le_refl _, fun _ _ _ => rfl⟩

set_option maxHeartbeats 1000000 in
theorem q_Put_ok (g : Nat) (r : List Nat) (h m rm mo tx : Nat) (w : World) (q : Qb w g r h m rm mo) (ht : mo < tx) (hm : m < rm) (hrm : rm ≤ 32) (hh : h < 32) :
    Calls Try.prog 42 #[.pointer (some ⟨g, 0, none⟩), .int .u32 (tx : Int)] w fun e w' => e = .returned (.int .i64 0) ∧ Qb w' g (r.set ((h + m) % 32) tx) h (m + 1) rm tx ∧ w.grownBy w' (some g) := by
  obtain ⟨-, c1, c2, c3, c4⟩ := q.cell
  have h1 : decide ((tx : Int) ≤ (mo : Int)) = false := by simp; omega
  have h2 : ((m : Int) == (rm : Int)) = false := by simp; omega
  obtain ⟨p, hp⟩ : ∃ p, (h + m) % 32 = p := ⟨_, rfl⟩
  have hp1 : p < 32 := by omega
  have HP := Lib.hid hp
  obtain ⟨x, hx⟩ : ∃ x, r[p]? = some x := by
    obtain ⟨cs, hg, qa⟩ := q
    exact ⟨_, List.getElem?_eq_getElem (by rw [qa.len]; exact hp1)⟩
  have c5 := q.ring hx
  have f5 := q.free (1 + p)
  have f6 := q.free 34
  have f7 := q.free 36
  have hpl : ∀ W : World, W.cell? ⟨g, 33, none⟩ = some (.int .i64 (h : Int)) → Calls Try.prog 54 #[.pointer (some ⟨g, 0, none⟩), .int .i64 (m : Int)] W fun e w' => e = .returned (.int .i64 (p : Int)) ∧ W = w' := by
    intro W qW
    rw [← hp]
    exact q_place g h W qW m hh (by omega)
  have HPL := Lib.hid hpl
  have p0 : (0 : Int) ≤ (p : Int) := by omega
  have p1 : (p : Int) < 32 := by omega
  have n33 : ¬ 33 = 1 + p := by omega
  have n34 : ¬ 34 = 1 + p := by omega
  have n36 : ¬ 36 = 1 + p := by omega
  have k1 : ∀ (W : World) (v : Value), W.cell? ⟨g, 34, none⟩ = some (.int .i64 (m : Int)) → (W.setCell ⟨g, 1 + p, none⟩ v).cell? ⟨g, 34, none⟩ = some (.int .i64 (m : Int)) :=
    fun W v hW => (World.cell?_setCell_other W _ _ v (by intro e; injection e with e1 e2; omega)).trans hW
  have k2 : ∀ (W : World) (v : Value), W.cell? ⟨g, 33, none⟩ = some (.int .i64 (h : Int)) → (W.setCell ⟨g, 1 + p, none⟩ v).cell? ⟨g, 33, none⟩ = some (.int .i64 (h : Int)) :=
    fun W v hW => (World.cell?_setCell_other W _ _ v (by intro e; injection e with e1 e2; omega)).trans hW
  have K1 := Lib.hid k1
  have K2 := Lib.hid k2
  clear hpl hx hp k1 k2
  go_enter Try.func42, Try.ntmps42
  go_wp2_with fail
  refine (q_made g r h m rm mo w q).mono ?_
  rintro e w1 ⟨rfl, rfl⟩
  go_wp2_with fail
  go_quiet (fail)
  go_wp2_with fail
  go_region_held3 (fun w' => w'.cell? ⟨g, 34, none⟩ = some (.int .i64 (m : Int)) ∧ w'.cell? ⟨g, 33, none⟩ = some (.int .i64 (h : Int))) (first | exact ⟨c2, c1⟩ | exact ⟨K1.out _ _ c2, K2.out _ _ c1⟩)
    (first | (go_at_call 54; refine (HPL.out _ ?_).mono ?_; (simp [*]); rintro e w1 ⟨rfl, rfl⟩))
  go_wp2_with fail
  go_ret
  have q1 := (q.drewN (nq + 1)).setRing p tx hp1
  have q2 := q1.setField 34 (.int .i64 ((m : Int) + 1)) (by omega) h (m + 1) rm mo (by simp) (by simp) (by simp) (by simp)
  have q3 := q2.setField 36 (.int .u32 (tx : Int)) (by omega) h (m + 1) rm tx (by simp) (by simp) (by simp) (by simp)
  refine ⟨rfl, ?_, grown_set (grown_set (grown_set (grown_drewN (grown_refl w _) _) _ _) _ _) _ _⟩
  rw [HP.out]
  exact q3
end Go.Proofs.Ytheepgfafjinoaa
