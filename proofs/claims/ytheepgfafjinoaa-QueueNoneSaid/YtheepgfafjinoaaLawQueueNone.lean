/- saucierlaw26.QueueNone returns true: a queue that is none has nobody; no number comes twice. -/
import Derived.Test.YtheepgfafjinoaaQueueAwake
namespace Go.Proofs.Ytheepgfafjinoaa
open Go.RowKit
set_option linter.unusedSimpArgs false
set_option linter.unusedVariables false

set_option maxHeartbeats 400000 in
theorem made_nil (w : World) : Calls Try.prog 53 #[.pointer none] w fun e w' => e = .returned (.bool false) ∧ w = w' := by
  go_enter Try.func53, Try.ntmps53
  go_wp2
  go_ret
  exact ⟨rfl, rfl⟩
theorem eql_nil (a : Addr) (W : World) : (binOp .eql 53 (.pointer none) (.pointer (some a))).run Try.prog W = .ok (.bool false) W := by
  have hj : (Try.prog.info? 79).isSome = true := by kernel_rfl
  obtain ⟨j, hj⟩ := Option.isSome_iff_exists.1 hj
  have h : ∀ d : Nat, (Op.equalIn (d + 1) 53 (.pointer none) (.pointer (some a))).run Try.prog W = .ok false W := fun d => by
    simp [Op.equalIn, run_underlying Try.underlying53, sizeOf, typeInfo, hj]
  simp only [binOp]
  simp [Op.equal, Op.maxDepth, h 9999]
set_option maxHeartbeats 400000 in
theorem made_un (g : Nat) (w : World) (c0 : w.cell? ⟨g, 0, none⟩ = some (.pointer none)) : Calls Try.prog 53 #[.pointer (some ⟨g, 0, none⟩)] w fun e w' => e = .returned (.bool false) ∧ w = w' := by
  have he := eql_nil ⟨g, 0, none⟩
  go_enter Try.func53, Try.ntmps53
  go_wp2
  go_ret
  exact ⟨rfl, rfl⟩
set_option maxHeartbeats 400000 in
theorem un_First (p : Option Addr) (w : World) (hm : Calls Try.prog 53 #[.pointer p] w fun e w' => e = .returned (.bool false) ∧ w = w') :
    Calls Try.prog 43 #[.pointer p] w fun e w' => e = .returned (.tuple #[.int .u32 0, .bool false]) ∧ w = w' := by
  have HM := Lib.hid hm
  clear hm
  go_enter Try.func43, Try.ntmps43
  go_wp2_with fail
  refine HM.out.mono ?_
  rintro e w1 ⟨rfl, rfl⟩
  go_wp2_with fail
  go_ret2
  exact ⟨rfl, rfl⟩
set_option maxHeartbeats 400000 in
theorem un_Put (p : Option Addr) (tx : Nat) (w : World) (hm : Calls Try.prog 53 #[.pointer p] w fun e w' => e = .returned (.bool false) ∧ w = w') :
    Calls Try.prog 42 #[.pointer p, .int .u32 (tx : Int)] w fun e w' => e = .returned (.int .i64 1) ∧ w = w' := by
  have HM := Lib.hid hm
  clear hm
  go_enter Try.func42, Try.ntmps42
  go_wp2_with fail
  refine HM.out.mono ?_
  rintro e w1 ⟨rfl, rfl⟩
  go_wp2_with fail
  go_ret
  exact ⟨rfl, rfl⟩
set_option maxHeartbeats 400000 in
theorem un_Drop (p : Option Addr) (tx : Nat) (w : World) (hm : Calls Try.prog 53 #[.pointer p] w fun e w' => e = .returned (.bool false) ∧ w = w') :
    Calls Try.prog 40 #[.pointer p, .int .u32 (tx : Int)] w fun e w' => e = .returned (.bool false) ∧ w = w' := by
  have HM := Lib.hid hm
  clear hm
  go_enter Try.func40, Try.ntmps40
  go_wp2_with fail
  refine HM.out.mono ?_
  rintro e w1 ⟨rfl, rfl⟩
  go_wp2_with fail
  go_ret
  exact ⟨rfl, rfl⟩
set_option maxHeartbeats 400000 in
theorem un_Len (p : Option Addr) (w : World) (hm : Calls Try.prog 53 #[.pointer p] w fun e w' => e = .returned (.bool false) ∧ w = w') :
    Calls Try.prog 46 #[.pointer p] w fun e w' => e = .returned (.int .i64 0) ∧ w = w' := by
  have HM := Lib.hid hm
  clear hm
  go_enter Try.func46, Try.ntmps46
  go_wp2_with fail
  refine HM.out.mono ?_
  rintro e w1 ⟨rfl, rfl⟩
  go_wp2_with fail
  go_ret
  exact ⟨rfl, rfl⟩
set_option maxHeartbeats 400000 in
theorem un_List (p : Option Addr) (w : World) (hm : Calls Try.prog 53 #[.pointer p] w fun e w' => e = .returned (.bool false) ∧ w = w') :
    Calls Try.prog 45 #[.pointer p] w fun e w' => e = .returned (.slice none 0 0) ∧ w = w' := by
  have HM := Lib.hid hm
  clear hm
  go_enter Try.func45, Try.ntmps45
  go_wp2_with fail
  refine HM.out.mono ?_
  rintro e w1 ⟨rfl, rfl⟩
  go_wp2_with fail
  go_ret
  exact ⟨rfl, rfl⟩

def zq : List Value := [.pointer none] ++ List.replicate 32 (.int .u32 0) ++ [.int .i64 0, .int .i64 0, .int .i64 0, .int .u32 0]
theorem gt_cast (a b : Nat) : decide ((a : Int) < (b : Int)) = decide (a < b) := by
  rw [Bool.eq_iff_iff, decide_eq_true_iff, decide_eq_true_iff]; omega

set_option maxHeartbeats 2000000 in
theorem QueueNone_walk (a b : Nat) (w : World) (ha : a < 4294967296) (hb : b < 4294967296) :
    Calls Try.prog 14 #[.int .u32 a, .int .u32 b] w fun e w' => e = .returned (.bool true) ∧ Below w.heap.size w w' := by
  go_enter Try.func14, Try.ntmps14
  go_wp2_with fail
  obtain ⟨g, hg⟩ : ∃ g, w.heap.size = g := ⟨_, rfl⟩
  obtain ⟨s, hs⟩ : ∃ s, w.heap.size + 1 = s := ⟨_, rfl⟩
  rw [hs]
  have hB := ((Below.refl w.heap.size w).alloc (Nat.le_refl _) (.cells zq.toArray 79)).alloc (by simp) (.cells #[Value.pointer none, Value.pointer (some ⟨w.heap.size, 0, none⟩)] 53)
  have x0 : ((w.alloc (.cells zq.toArray 79)).alloc (.cells #[Value.pointer none, Value.pointer (some ⟨w.heap.size, 0, none⟩)] 53)).cell? ⟨s, 0, none⟩ = some (.pointer none) := by
    rw [← hs]; simp
  have x1 : ((w.alloc (.cells zq.toArray 79)).alloc (.cells #[Value.pointer none, Value.pointer (some ⟨w.heap.size, 0, none⟩)] 53)).cell? ⟨s, 1, none⟩ = some (.pointer (some ⟨g, 0, none⟩)) := by
    rw [← hs, ← hg]; simp
  have x2 : ((w.alloc (.cells zq.toArray 79)).alloc (.cells #[Value.pointer none, Value.pointer (some ⟨w.heap.size, 0, none⟩)] 53)).cell? ⟨g, 0, none⟩ = some (.pointer none) := by
    rw [← hg]; simp [zq]
  change Code.wp _ _ _ _ ((w.alloc (.cells zq.toArray 79)).alloc (.cells #[Value.pointer none, Value.pointer (some ⟨w.heap.size, 0, none⟩)] 53))
  generalize (w.alloc (.cells zq.toArray 79)).alloc (.cells #[Value.pointer none, Value.pointer (some ⟨w.heap.size, 0, none⟩)] 53) = w2 at *
  clear hg hs
  go_loopw [15] (fun i wr => ∃ k : Nat, k ≤ 2 ∧ i = .int .i64 k ∧ w2 = wr) (fun i _ => 2 - (intOf i).toNat)
  case atStart => exact ⟨0, by omega, rfl, rfl⟩
  case round =>
    obtain ⟨k, hk, rfl, rfl⟩ := hrel
    by_cases hlt : k < 2
    · have key : ∃ p : Option Addr, w2.cell? ⟨s, k, none⟩ = some (.pointer p) ∧ Calls Try.prog 53 #[.pointer p] w2 fun e w' => e = .returned (.bool false) ∧ w2 = w' := by
        rcases (show k = 0 ∨ k = 1 by omega) with rfl | rfl
        · exact ⟨none, x0, made_nil w2⟩
        · exact ⟨_, x1, made_un g w2 x2⟩
      obtain ⟨p, hp, hmd⟩ := key
      have HMD := Lib.hid hmd
      clear hmd x0 x1 x2
      go_wp2_with fail
      refine (un_First p _ HMD.out).mono ?_
      rintro e w3 ⟨rfl, rfl⟩
      go_wp2_with fail
      refine (un_Put p a _ HMD.out).mono ?_
      rintro e w3 ⟨rfl, rfl⟩
      go_wp2_with fail
      refine (un_Drop p a _ HMD.out).mono ?_
      rintro e w3 ⟨rfl, rfl⟩
      go_wp2_with fail
      refine (un_Len p _ HMD.out).mono ?_
      rintro e w3 ⟨rfl, rfl⟩
      go_wp2_with fail
      refine (un_List p _ HMD.out).mono ?_
      rintro e w3 ⟨rfl, rfl⟩
      go_wp2_with fail
      go_roundw
      case rel => exact ⟨k + 1, by omega, by go_num, trivial⟩
      case measure => simp [intOf]; omega
    · clear x0 x1 x2
      go_wp2_with fail
      refine (qv_New 32 w2 (by omega) (by omega)).mono ?_
      rintro e w3 ⟨rfl, q3, hb3⟩
      obtain ⟨h, hh⟩ : ∃ h, w2.heap.size = h := ⟨_, rfl⟩
      have hhB : w.heap.size ≤ h := by rw [← hh]; exact hB.size
      replace hb3 := bthen hB hb3
      rw [hh] at q3 ⊢
      clear hh hB
      go_wp2_with fail
      refine (qv_Put h [] 32 0 0 _ q3).mono ?_
      rintro e w4 ⟨rfl, q4, g4⟩
      have hb4 := bgrow hb3 g4 hhB
      rw [show putE [] 32 0 0 = 2 from by decide]
      rw [show putQ [] 32 0 0 = [] from by decide, show putM [] 32 0 0 = 0 from by decide] at q4
      clear g4 hb3 q3
      go_wp2_with fail
      refine (qv_Put h [] 32 0 a _ q4).mono ?_
      rintro e w5 ⟨rfl, q5, g5⟩
      have hb5 := bgrow hb4 g5 hhB
      clear g5 hb4 q4
      by_cases ha0 : 0 < a
      · have p1 : putE [] 32 0 a = 0 := by unfold putE; rw [if_neg (by omega)]; simp
        rw [show putQ [] 32 0 a = [a] from by unfold putQ; rw [if_pos p1]; rfl, show putM [] 32 0 a = a from by unfold putM; rw [if_pos p1]] at q5
        rw [p1]
        have t0 : decide ((0 : Int) < (a : Int)) = true := by simp; omega
        clear p1
        go_wp2_with fail
        refine (qv_Drop h [a] 32 a a _ q5).mono ?_
        rintro e w6 ⟨rfl, q6, g6⟩
        have hb6 := bgrow hb5 g6 hhB
        rw [show decide (a ∈ [a]) = true from by simp]
        rw [show [a].erase a = [] from by simp] at q6
        clear g6 hb5 q5
        go_wp2_with fail
        refine (qv_Put h [] 32 a a _ q6).mono ?_
        rintro e w7 ⟨rfl, q7, g7⟩
        have hb7 := bgrow hb6 g7 hhB
        have p2 : putE [] 32 a a = 2 := by unfold putE; rw [if_pos (by omega)]
        rw [show putQ [] 32 a a = [] from by unfold putQ; rw [if_neg (by rw [p2]; decide)], show putM [] 32 a a = a from by unfold putM; rw [if_neg (by rw [p2]; decide)]] at q7
        rw [p2]
        clear g7 hb6 q6 p2
        go_wp2_with fail
        refine (qv_Put h [] 32 a b _ q7).mono ?_
        rintro e w9 ⟨rfl, q9, g9⟩
        have hb9 := bgrow hb7 g9 hhB
        clear g9 hb7 q7 q9
        obtain ⟨E, hE⟩ : ∃ E : Bool, decide (a < b) = E := ⟨_, rfl⟩
        have t1 : (((putE [] 32 a b : Nat) : Int) == 0) = E := by
          rw [← hE, show (((putE [] 32 a b : Nat) : Int) == 0) = ((putE [] 32 a b : Nat) == 0) from by rw [Bool.eq_iff_iff]; simp]
          unfold putE
          by_cases hba : b ≤ a
          · rw [if_pos hba]; simp; omega
          · rw [if_neg hba]; simp; omega
        go_wp2_with fail
        refine (queue_awake _).mono ?_
        rintro e w10 ⟨rfl, hb10⟩
        go_wp2_with fail
        go_ret
        exact ⟨rfl, bthen hb9 hb10⟩
      · obtain rfl : a = 0 := by omega
        rw [show putE [] 32 0 0 = 2 from by decide]
        rw [show putQ [] 32 0 0 = [] from by decide, show putM [] 32 0 0 = 0 from by decide] at q5
        go_wp2_with fail
        refine (qv_Put h [] 32 0 b _ q5).mono ?_
        rintro e w9 ⟨rfl, q9, g9⟩
        have hb9 := bgrow hb5 g9 hhB
        clear g9 hb5 q5 q9
        obtain ⟨E, hE⟩ : ∃ E : Bool, decide (0 < b) = E := ⟨_, rfl⟩
        have t1 : (((putE [] 32 0 b : Nat) : Int) == 0) = E := by
          rw [← hE, show (((putE [] 32 0 b : Nat) : Int) == 0) = ((putE [] 32 0 b : Nat) == 0) from by rw [Bool.eq_iff_iff]; simp]
          unfold putE
          by_cases hba : b ≤ 0
          · rw [if_pos hba]; simp; omega
          · rw [if_neg hba]; simp; omega
        go_wp2_with fail
        refine (queue_awake _).mono ?_
        rintro e w10 ⟨rfl, hb10⟩
        go_wp2_with fail
        go_ret
        exact ⟨rfl, bthen hb9 hb10⟩
end Go.Proofs.Ytheepgfafjinoaa
