/- The walk of saucierlaw26.awake: the chapter's examples hold. -/
import Derived.Test.YtheepgfafjinoaaQueueV
import Derived.Test.YtheepgfafjinoaaSame26
namespace Go.Proofs.Ytheepgfafjinoaa
open Go.RowKit
set_option linter.unusedSimpArgs false
set_option linter.unusedVariables false

theorem bgrow {w0 w w' : World} {g : Nat} (hb : Below w0.heap.size w0 w) (hg : w.grownBy w' (some g)) (h : w0.heap.size ≤ g) : Below w0.heap.size w0 w' :=
  hb.grown hg hb.size (fun k e => by injection e with e; omega)

set_option maxHeartbeats 1000000 in
theorem queue_awake (w : World) : Calls Try.prog 37 #[] w fun e w' => e = .returned (.bool true) ∧ Below w.heap.size w w' := by
  obtain ⟨g, hg⟩ : ∃ g, w.heap.size = g := ⟨_, rfl⟩
  have hgB : w.heap.size ≤ g := by omega
  have HG := Lib.hid hg
  clear hg
  go_enter Try.func37, Try.ntmps37
  go_wp2_with fail
  refine (qv_New 2 w (by omega) (by omega)).mono ?_
  rintro e w0 ⟨rfl, q0, hb0⟩
  rw [HG.out] at q0 ⊢
  go_wp2_with fail
  refine (qv_Put g [] 2 0 5 _ q0).mono ?_
  rintro e w1 ⟨rfl, q1, g1⟩
  have hb1 := bgrow hb0 g1 hgB
  rw [show putE [] 2 0 5 = 0 from by decide]
  rw [show putQ [] 2 0 5 = [5] from by decide, show putM [] 2 0 5 = 5 from by decide] at q1
  clear g1 hb0 q0
  go_wp2_with fail
  refine (qv_Put g [5] 2 5 7 _ q1).mono ?_
  rintro e w2 ⟨rfl, q2, g2⟩
  have hb2 := bgrow hb1 g2 hgB
  rw [show putE [5] 2 5 7 = 0 from by decide]
  rw [show putQ [5] 2 5 7 = [5, 7] from by decide, show putM [5] 2 5 7 = 7 from by decide] at q2
  clear g2 hb1 q1
  go_wp2_with fail
  refine (qv_Put g [5, 7] 2 7 7 _ q2).mono ?_
  rintro e w3 ⟨rfl, q3, g3⟩
  have hb3 := bgrow hb2 g3 hgB
  rw [show putE [5, 7] 2 7 7 = 2 from by decide]
  rw [show putQ [5, 7] 2 7 7 = [5, 7] from by decide, show putM [5, 7] 2 7 7 = 7 from by decide] at q3
  clear g3 hb2 q2
  go_wp2_with fail
  refine (qv_Put g [5, 7] 2 7 9 _ q3).mono ?_
  rintro e w4 ⟨rfl, q4, g4⟩
  have hb4 := bgrow hb3 g4 hgB
  rw [show putE [5, 7] 2 7 9 = 5 from by decide]
  rw [show putQ [5, 7] 2 7 9 = [5, 7] from by decide, show putM [5, 7] 2 7 9 = 7 from by decide] at q4
  clear g4 hb3 q3
  go_wp2_with fail
  refine (qv_First g [5, 7] 2 7 _ q4).mono ?_
  rintro e w5 ⟨rfl, nd, rfl⟩
  have hb5 := below_drewN hb4 nd
  have q5 := q4.drewN nd
  rw [show (([5, 7] : List Nat).headD 0) = 5 from rfl, show (!([5, 7] : List Nat).isEmpty) = true from rfl]
  clear hb4 q4
  generalize w4.drewN nd = w5 at *
  go_wp2_with fail
  refine (qv_Drop g [5, 7] 2 7 5 _ q5).mono ?_
  rintro e w6 ⟨rfl, q6, g6⟩
  have hb6 := bgrow hb5 g6 hgB
  rw [show decide (5 ∈ ([5, 7] : List Nat)) = true from by decide]
  rw [show ([5, 7] : List Nat).erase 5 = [7] from by decide] at q6
  clear g6 hb5 q5
  go_wp2_with fail
  refine (qv_Put g [7] 2 7 9 _ q6).mono ?_
  rintro e w7 ⟨rfl, q7, g7⟩
  have hb7 := bgrow hb6 g7 hgB
  rw [show putE [7] 2 7 9 = 0 from by decide]
  rw [show putQ [7] 2 7 9 = [7, 9] from by decide, show putM [7] 2 7 9 = 9 from by decide] at q7
  clear g7 hb6 q6
  go_wp2_with fail
  refine (qv_List g [7, 9] 2 9 _ q7).mono ?_
  rintro e w8 ⟨A8, c8, rfl, ho8, hl8⟩
  have q8 := q7.below hl8 q7.lt
  have hb8 := bthen hb7 hl8
  clear hl8 hb7 q7
  go_wp2_with fail
  refine (l26_same A8 _ 2 c8 2 2 [7, 9] [7, 9] _ (ho8.rd.alloc _) (Rd.lit _ _ _ rfl) rfl rfl (by omega) (by omega)).mono ?_
  rintro e w9 ⟨rfl, nd2, rfl⟩
  have q9 := (q8.alloc (.cells (ds [7, 9]).toArray 57)).drewN nd2
  have hb9 := below_drewN (hb8.alloc hb8.size (.cells (ds [7, 9]).toArray 57)) nd2
  rw [show sameB [7, 9] [7, 9] = true from by decide]
  clear hb8 q8 ho8
  generalize (w8.alloc (.cells (ds [7, 9]).toArray 57)).drewN nd2 = w9 at *
  go_wp2_with fail
  refine (qv_Drop g [7, 9] 2 9 5 _ q9).mono ?_
  rintro e w10 ⟨rfl, q10, g10⟩
  have hb10 := bgrow hb9 g10 hgB
  rw [show decide (5 ∈ ([7, 9] : List Nat)) = false from by decide]
  rw [show ([7, 9] : List Nat).erase 5 = [7, 9] from by decide] at q10
  clear g10 hb9 q9
  go_wp2_with fail
  refine (qv_Drop g [7, 9] 2 9 9 _ q10).mono ?_
  rintro e w11 ⟨rfl, q11, g11⟩
  have hb11 := bgrow hb10 g11 hgB
  rw [show decide (9 ∈ ([7, 9] : List Nat)) = true from by decide]
  rw [show ([7, 9] : List Nat).erase 9 = [7] from by decide] at q11
  clear g11 hb10 q10
  go_wp2_with fail
  refine (qv_Put g [7] 2 9 9 _ q11).mono ?_
  rintro e w12 ⟨rfl, q12, g12⟩
  have hb12 := bgrow hb11 g12 hgB
  rw [show putE [7] 2 9 9 = 2 from by decide]
  rw [show putQ [7] 2 9 9 = [7] from by decide, show putM [7] 2 9 9 = 9 from by decide] at q12
  clear g12 hb11 q11
  go_wp2_with fail
  refine (qv_Len g [7] 2 9 _ q12).mono ?_
  rintro e wz ⟨rfl, rfl⟩
  go_wp2_with fail
  go_ret
  exact ⟨rfl, hb12⟩
end Go.Proofs.Ytheepgfafjinoaa
