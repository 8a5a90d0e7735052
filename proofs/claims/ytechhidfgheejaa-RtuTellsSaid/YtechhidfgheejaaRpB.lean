/- Kinds of replies: reply.find, reply.kindOf, and which are right (written by gen_rpb.py). -/
import Derived.Test.YtechhidfgheejaaRpA
import Derived.Test.YtechhidfgheejaaRegion
import Derived.Deep.RegionHeld3
namespace Go.Proofs.Ytechhidfgheejaa
open Go.RowKit
set_option linter.unusedSimpArgs false
set_option linter.unusedVariables false
def Kd.ty : Kd → TypeId
  | .exc => 84
  | .bl => 133
  | .wl => 134
  | .ob => 135
  | .ow => 136
  | .ct _ => 138
def Kd.v : Kd → Value
  | .ct m => .agg #[.int .u16 (m : Int)]
  | _ => .agg #[]
def Kd.fright : Kd → FuncId
  | .exc => 119
  | .bl => 132
  | .wl => 135
  | .ob => 140
  | .ow => 143
  | .ct _ => 146
def Kd.fwrite : Kd → FuncId
  | .exc => 120
  | .bl => 133
  | .wl => 136
  | .ob => 141
  | .ow => 144
  | .ct _ => 147
def Kd.fread : Kd → FuncId
  | .exc => 118
  | .bl => 131
  | .wl => 134
  | .ob => 139
  | .ow => 142
  | .ct _ => 145
/-- a kind as a value behind the interface -/
def kdI : Option Kd → Value
  | some k => .iface k.ty k.v
  | none => .nilIface
def tellK (k : Option Kd) : Value := .tuple #[kdI k, .bool k.isSome]

set_option maxHeartbeats 1000000 in
theorem reply_find (f : Nat) (w : World) (hf : f < 256) :
    Calls Try.prog 61 #[.int .u8 (f : Int)] w fun e w' => e = .returned (tellK (findK f)) ∧ w = w' := by
  by_cases hk : f = 1 ∨ f = 2 ∨ f = 3 ∨ f = 4 ∨ f = 23 ∨ f = 5 ∨ f = 6 ∨ f = 15 ∨ f = 16
  · rcases hk with rfl | rfl | rfl | rfl | rfl | rfl | rfl | rfl | rfl
    all_goals
      go_enter Try.func61, Try.ntmps61
      go_wp2_with fail
      go_ret2
      exact ⟨rfl, rfl⟩
  · have HV : Hid (findK f = none) := by
      (show _ = _); unfold findK
      rw [if_neg (by omega), if_neg (by omega), if_neg (by omega), if_neg (by omega), if_neg (by omega), if_neg (by omega)]
    have t1 : ((f : Int) == 1) = false := by simp; omega
    have t2 : ((f : Int) == 2) = false := by simp; omega
    have t3 : ((f : Int) == 3) = false := by simp; omega
    have t4 : ((f : Int) == 4) = false := by simp; omega
    have t23 : ((f : Int) == 23) = false := by simp; omega
    have t5 : ((f : Int) == 5) = false := by simp; omega
    have t6 : ((f : Int) == 6) = false := by simp; omega
    have t15 : ((f : Int) == 15) = false := by simp; omega
    have t16 : ((f : Int) == 16) = false := by simp; omega
    clear hk
    go_enter Try.func61, Try.ntmps61
    go_wp2_with fail
    go_ret2
    exact ⟨by rw [HV.out]; rfl, rfl⟩
set_option maxHeartbeats 1000000 in
theorem reply_kindOf (r : Rp) (A : Option Addr) (c : Nat) (B : Option Addr) (d : Nat) (w : World) (hok : r.ok) :
    Calls Try.prog 83 #[r.v A c B d] w fun e w' => e = .returned (tellK (kindR r)) ∧ Below w.heap.size w w' := by
  have hb := (Below.refl _ w).alloc (Nat.le_refl _) (.cells #[.int .u8 (r.fn : Int), .int .u8 (r.ex : Int), .slice B r.bits.length d, .slice A r.words.length c, .int .u16 (r.at_ : Int), .int .u16 (r.many : Int)] 36)
  unfold Rp.v rpV
  by_cases hx : r.ex = 0
  · have HV : Hid (kindR r = findK r.fn) := by (show _ = _); unfold kindR; rw [if_neg (by simp [hx])]
    have v0 : ((r.ex : Int) != 0) = false := by simp [hx]
    have E := Lib.hid (fun W => reply_find r.fn W hok.fn)
    unfold tellK at E
    clear hx
    go_enter Try.func83, Try.ntmps83
    go_wp2_with fail
    refine (E.out _).mono ?_
    rintro e w2 ⟨rfl, rfl⟩
    go_wp2_with fail
    go_ret2
    exact ⟨by rw [HV.out]; rfl, hb⟩
  · have HV : Hid (kindR r = some .exc) := by (show _ = _); unfold kindR; rw [if_pos hx]
    have v0 : ((r.ex : Int) != 0) = true := by simp; omega
    clear hx
    go_enter Try.func83, Try.ntmps83
    go_wp2_with fail
    go_ret2
    exact ⟨by rw [HV.out]; rfl, hb⟩
set_option maxHeartbeats 2000000 in
theorem right_exc (r : Rp) (A : Option Addr) (c : Nat) (B : Option Addr) (d : Nat) (w : World) (hR : RpR w r A B) (hok : r.ok) (hw : r.words.length ≤ 1000000) (hk : r.bits.length ≤ 1000000) :
    Calls Try.prog 119 #[.agg #[], r.v A c B d] w fun e w' => e = .returned (.bool (rightK .exc r)) ∧ Below w.heap.size w w' := by
  have hb := ((Below.refl _ w).alloc (Nat.le_refl _) (.cells #[] 84)).alloc (by simp [World.size_alloc]) (.cells #[.int .u8 (r.fn : Int), .int .u8 (r.ex : Int), .slice B r.bits.length d, .slice A r.words.length c, .int .u16 (r.at_ : Int), .int .u16 (r.many : Int)] 36)
  have bx := Blk.newAt (w.alloc (.cells #[] 84)) 36 #[.int .u8 (r.fn : Int), .int .u8 (r.ex : Int), .slice B r.bits.length d, .slice A r.words.length c, .int .u16 (r.at_ : Int), .int .u16 (r.many : Int)] (w.heap.size + 1) (World.size_alloc _ _)
  unfold Rp.v rpV
  have hf := hok.fn
  have hx := hok.ex
  have E1 := Lib.hid (fun W => reply_Wrong r.fn r.ex W hf hx)
  have E2 := Lib.hid (fun W (h : RpR W r A B) => reply_Same r (wrongR r.fn r.ex) A c B d none 0 none 0 W h ⟨Rd.nil, Rd.nil⟩ hw hk)
  obtain ⟨r', hr'⟩ : ∃ r', wrongR r.fn r.ex = r' := ⟨_, rfl⟩
  rw [hr'] at E1 E2
  have HR' := Lib.hid hr'
  unfold Rp.v rpV at E1 E2
  clear hr'
  by_cases c1 : r.fn < 128
  case neg =>
      have v1 : decide ((r.fn : Int) < 128) = false := decide_eq_false (by omega)
      have HV : Hid (rightK .exc r = false) := by (show _ = _); simp [rightK, c1]
      clear c1
      go_enter Try.func119, Try.ntmps119
      go_upto_region 1 with fail
      generalize (w.alloc (.cells #[] 84)).alloc (.cells #[.int .u8 (r.fn : Int), .int .u8 (r.ex : Int), .slice B r.bits.length d, .slice A r.words.length c, .int .u16 (r.at_ : Int), .int .u16 (r.many : Int)] 36) = w1 at *
      obtain ⟨d0, d1, d2, d3, d4, d5⟩ := bx.c6
      have KK : Hid (∀ W : World, Below w1.heap.size w1 W → W.cell? ⟨w.heap.size + 1, 0, none⟩ = some (.int .u8 (r.fn : Int)) ∧ W.cell? ⟨w.heap.size + 1, 1, none⟩ = some (.int .u8 (r.ex : Int)) ∧ W.cell? ⟨w.heap.size + 1, 2, none⟩ = some (.slice B r.bits.length d) ∧ W.cell? ⟨w.heap.size + 1, 3, none⟩ = some (.slice A r.words.length c) ∧ W.cell? ⟨w.heap.size + 1, 4, none⟩ = some (.int .u16 (r.at_ : Int)) ∧ W.cell? ⟨w.heap.size + 1, 5, none⟩ = some (.int .u16 (r.many : Int))) := fun W hW => ⟨(bx.all hW).cell 0, (bx.all hW).cell 1, (bx.all hW).cell 2, (bx.all hW).cell 3, (bx.all hW).cell 4, (bx.all hW).cell 5⟩
      have b0 := (Below.refl w1.heap.size w1).drew
      refine wp_region_held_drew (S := fun W => W.cell? ⟨w.heap.size + 1, 0, none⟩ = some (.int .u8 (r.fn : Int)) ∧ W.cell? ⟨w.heap.size + 1, 1, none⟩ = some (.int .u8 (r.ex : Int)) ∧ W.cell? ⟨w.heap.size + 1, 2, none⟩ = some (.slice B r.bits.length d) ∧ W.cell? ⟨w.heap.size + 1, 3, none⟩ = some (.slice A r.words.length c) ∧ W.cell? ⟨w.heap.size + 1, 4, none⟩ = some (.int .u16 (r.at_ : Int)) ∧ W.cell? ⟨w.heap.size + 1, 5, none⟩ = some (.int .u16 (r.many : Int))) (by kernel_rfl) ?_ (fun hHeld => ?_)
      · exact KK.out _ b0
      refine takeRun (i := 0) (v := ?_) rfl (by kernel_rfl) (by kernel_rfl) (by kernel_rfl) (fun _ _ _ h => h) rfl ?_ (by assumption) ?_
      rotate_left
      · (intro w hSw; (try dsimp only at hSw); go_simp; (try with_reducible rfl))
      try simp only [Act.put, List.setIfInBounds_toArray, List.set_cons_zero, List.set_cons_succ]
      refine takeRun (i := 1) (v := ?_) rfl (by kernel_rfl) (by kernel_rfl) (by kernel_rfl) (fun _ _ _ h => h) rfl ?_ (by assumption) ?_
      rotate_left
      · (intro w hSw; (try dsimp only at hSw); go_simp; (try with_reducible rfl))
      try simp only [Act.put, List.setIfInBounds_toArray, List.set_cons_zero, List.set_cons_succ]
      refine takeRun (i := 2) (v := ?_) rfl (by kernel_rfl) (by kernel_rfl) (by kernel_rfl) (fun _ _ _ h => h) rfl ?_ (by assumption) ?_
      rotate_left
      · (intro w hSw; (try dsimp only at hSw); go_simp; (try with_reducible rfl))
      try simp only [Act.put, List.setIfInBounds_toArray, List.set_cons_zero, List.set_cons_succ]
      refine takeRun (i := 3) (v := ?_) rfl (by kernel_rfl) (by kernel_rfl) (by kernel_rfl) (fun _ _ _ h => h) rfl ?_ (by assumption) ?_
      rotate_left
      · (intro w hSw; (try dsimp only at hSw); go_simp; (try with_reducible rfl))
      try simp only [Act.put, List.setIfInBounds_toArray, List.set_cons_zero, List.set_cons_succ]
      refine takeSkip (i := 4) rfl (by kernel_rfl) (by kernel_rfl) (by kernel_rfl) (fun _ _ _ h => h) rfl (by assumption) ?_
      try simp only [Act.put, List.setIfInBounds_toArray, List.set_cons_zero, List.set_cons_succ]
      refine takeSkip (i := 5) rfl (by kernel_rfl) (by kernel_rfl) (by kernel_rfl) (fun _ _ _ h => h) rfl (by assumption) ?_
      try simp only [Act.put, List.setIfInBounds_toArray, List.set_cons_zero, List.set_cons_succ]
      refine takeSkip (i := 6) rfl (by kernel_rfl) (by kernel_rfl) (by kernel_rfl) (fun _ _ _ h => h) rfl (by assumption) ?_
      try simp only [Act.put, List.setIfInBounds_toArray, List.set_cons_zero, List.set_cons_succ]
      refine takeRun (i := 7) (v := ?_) rfl (by kernel_rfl) (by kernel_rfl) (by kernel_rfl) (fun _ _ _ h => h) rfl ?_ (by assumption) ?_
      rotate_left
      · (intro w hSw; (try dsimp only at hSw); go_simp; (try with_reducible rfl))
      try simp only [Act.put, List.setIfInBounds_toArray, List.set_cons_zero, List.set_cons_succ]
      refine takeRun (i := 8) (v := ?_) rfl (by kernel_rfl) (by kernel_rfl) (by kernel_rfl) (fun _ _ _ h => h) rfl ?_ (by assumption) ?_
      rotate_left
      · (intro w hSw; (try dsimp only at hSw); go_simp; (try with_reducible rfl))
      try simp only [Act.put, List.setIfInBounds_toArray, List.set_cons_zero, List.set_cons_succ]
      refine takeSkip (i := 9) rfl (by kernel_rfl) (by kernel_rfl) (by kernel_rfl) (fun _ _ _ h => h) rfl (by assumption) ?_
      try simp only [Act.put, List.setIfInBounds_toArray, List.set_cons_zero, List.set_cons_succ]
      refine takeSkip (i := 10) rfl (by kernel_rfl) (by kernel_rfl) (by kernel_rfl) (fun _ _ _ h => h) rfl (by assumption) ?_
      try simp only [Act.put, List.setIfInBounds_toArray, List.set_cons_zero, List.set_cons_succ]
      refine takeSkip (i := 11) rfl (by kernel_rfl) (by kernel_rfl) (by kernel_rfl) (fun _ _ _ h => h) rfl (by assumption) ?_
      try simp only [Act.put, List.setIfInBounds_toArray, List.set_cons_zero, List.set_cons_succ]
      refine takeRun (i := 12) (v := ?_) rfl (by kernel_rfl) (by kernel_rfl) (by kernel_rfl) (fun _ _ _ h => h) rfl ?_ (by assumption) ?_
      rotate_left
      · (intro w hSw; (try dsimp only at hSw); go_simp; (try with_reducible rfl))
      try simp only [Act.put, List.setIfInBounds_toArray, List.set_cons_zero, List.set_cons_succ]
      refine takeRun (i := 13) (v := ?_) rfl (by kernel_rfl) (by kernel_rfl) (by kernel_rfl) (fun _ _ _ h => h) rfl ?_ (by assumption) ?_
      rotate_left
      · (intro w hSw; (try dsimp only at hSw); go_simp; (try with_reducible rfl))
      try simp only [Act.put, List.setIfInBounds_toArray, List.set_cons_zero, List.set_cons_succ]
      refine takeSkip (i := 14) rfl (by kernel_rfl) (by kernel_rfl) (by kernel_rfl) (fun _ _ _ h => h) rfl (by assumption) ?_
      try simp only [Act.put, List.setIfInBounds_toArray, List.set_cons_zero, List.set_cons_succ]
      refine takeSkip (i := 15) rfl (by kernel_rfl) (by kernel_rfl) (by kernel_rfl) (fun _ _ _ h => h) rfl (by assumption) ?_
      try simp only [Act.put, List.setIfInBounds_toArray, List.set_cons_zero, List.set_cons_succ]
      refine takeSkip (i := 16) rfl (by kernel_rfl) (by kernel_rfl) (by kernel_rfl) (fun _ _ _ h => h) rfl (by assumption) ?_
      try simp only [Act.put, List.setIfInBounds_toArray, List.set_cons_zero, List.set_cons_succ]
      refine takeSkip (i := 17) rfl (by kernel_rfl) (by kernel_rfl) (by kernel_rfl) (fun _ _ _ h => h) rfl (by assumption) ?_
      try simp only [Act.put, List.setIfInBounds_toArray, List.set_cons_zero, List.set_cons_succ]
      refine takeSkip (i := 18) rfl (by kernel_rfl) (by kernel_rfl) (by kernel_rfl) (fun _ _ _ h => h) rfl (by assumption) ?_
      try simp only [Act.put, List.setIfInBounds_toArray, List.set_cons_zero, List.set_cons_succ]
      refine takeSkip (i := 19) rfl (by kernel_rfl) (by kernel_rfl) (by kernel_rfl) (fun _ _ _ h => h) rfl (by assumption) ?_
      try simp only [Act.put, List.setIfInBounds_toArray, List.set_cons_zero, List.set_cons_succ]
      refine takeSkip (i := 20) rfl (by kernel_rfl) (by kernel_rfl) (by kernel_rfl) (fun _ _ _ h => h) rfl (by assumption) ?_
      try simp only [Act.put, List.setIfInBounds_toArray, List.set_cons_zero, List.set_cons_succ]
      refine takeRun (i := 21) (v := ?_) rfl (by kernel_rfl) (by kernel_rfl) (by kernel_rfl) (fun _ _ _ h => h) rfl ?_ (by assumption) ?_
      rotate_left
      · (intro w hSw; (try dsimp only at hSw); go_simp; (try with_reducible rfl))
      try simp only [Act.put, List.setIfInBounds_toArray, List.set_cons_zero, List.set_cons_succ]
      refine takeRun (i := 22) (v := ?_) rfl (by kernel_rfl) (by kernel_rfl) (by kernel_rfl) (fun _ _ _ h => h) rfl ?_ (by assumption) ?_
      rotate_left
      · (intro w hSw; (try dsimp only at hSw); go_simp; (try with_reducible rfl))
      try simp only [Act.put, List.setIfInBounds_toArray, List.set_cons_zero, List.set_cons_succ]
      refine wpAnyH_done (by kernel_rfl) ?_ _
      go_wp2_with fail
      go_ret
      exact ⟨ret_bool HV.out.symm, below_drewN hb 1⟩
  have v1 : decide ((r.fn : Int) < 128) = true := decide_eq_true (by omega)
  by_cases c2 : 1 ≤ r.ex
  case neg =>
      have v2 : decide ((1 : Int) ≤ (r.ex : Int)) = false := decide_eq_false (by omega)
      have HV : Hid (rightK .exc r = false) := by (show _ = _); simp [rightK]; omega
      clear c2
      go_enter Try.func119, Try.ntmps119
      go_upto_region 1 with fail
      generalize (w.alloc (.cells #[] 84)).alloc (.cells #[.int .u8 (r.fn : Int), .int .u8 (r.ex : Int), .slice B r.bits.length d, .slice A r.words.length c, .int .u16 (r.at_ : Int), .int .u16 (r.many : Int)] 36) = w1 at *
      obtain ⟨d0, d1, d2, d3, d4, d5⟩ := bx.c6
      have KK : Hid (∀ W : World, Below w1.heap.size w1 W → W.cell? ⟨w.heap.size + 1, 0, none⟩ = some (.int .u8 (r.fn : Int)) ∧ W.cell? ⟨w.heap.size + 1, 1, none⟩ = some (.int .u8 (r.ex : Int)) ∧ W.cell? ⟨w.heap.size + 1, 2, none⟩ = some (.slice B r.bits.length d) ∧ W.cell? ⟨w.heap.size + 1, 3, none⟩ = some (.slice A r.words.length c) ∧ W.cell? ⟨w.heap.size + 1, 4, none⟩ = some (.int .u16 (r.at_ : Int)) ∧ W.cell? ⟨w.heap.size + 1, 5, none⟩ = some (.int .u16 (r.many : Int))) := fun W hW => ⟨(bx.all hW).cell 0, (bx.all hW).cell 1, (bx.all hW).cell 2, (bx.all hW).cell 3, (bx.all hW).cell 4, (bx.all hW).cell 5⟩
      have b0 := (Below.refl w1.heap.size w1).drew
      refine wp_region_held_drew (S := fun W => W.cell? ⟨w.heap.size + 1, 0, none⟩ = some (.int .u8 (r.fn : Int)) ∧ W.cell? ⟨w.heap.size + 1, 1, none⟩ = some (.int .u8 (r.ex : Int)) ∧ W.cell? ⟨w.heap.size + 1, 2, none⟩ = some (.slice B r.bits.length d) ∧ W.cell? ⟨w.heap.size + 1, 3, none⟩ = some (.slice A r.words.length c) ∧ W.cell? ⟨w.heap.size + 1, 4, none⟩ = some (.int .u16 (r.at_ : Int)) ∧ W.cell? ⟨w.heap.size + 1, 5, none⟩ = some (.int .u16 (r.many : Int))) (by kernel_rfl) ?_ (fun hHeld => ?_)
      · exact KK.out _ b0
      refine takeRun (i := 0) (v := ?_) rfl (by kernel_rfl) (by kernel_rfl) (by kernel_rfl) (fun _ _ _ h => h) rfl ?_ (by assumption) ?_
      rotate_left
      · (intro w hSw; (try dsimp only at hSw); go_simp; (try with_reducible rfl))
      try simp only [Act.put, List.setIfInBounds_toArray, List.set_cons_zero, List.set_cons_succ]
      refine takeRun (i := 1) (v := ?_) rfl (by kernel_rfl) (by kernel_rfl) (by kernel_rfl) (fun _ _ _ h => h) rfl ?_ (by assumption) ?_
      rotate_left
      · (intro w hSw; (try dsimp only at hSw); go_simp; (try with_reducible rfl))
      try simp only [Act.put, List.setIfInBounds_toArray, List.set_cons_zero, List.set_cons_succ]
      refine takeRun (i := 2) (v := ?_) rfl (by kernel_rfl) (by kernel_rfl) (by kernel_rfl) (fun _ _ _ h => h) rfl ?_ (by assumption) ?_
      rotate_left
      · (intro w hSw; (try dsimp only at hSw); go_simp; (try with_reducible rfl))
      try simp only [Act.put, List.setIfInBounds_toArray, List.set_cons_zero, List.set_cons_succ]
      refine takeRun (i := 3) (v := ?_) rfl (by kernel_rfl) (by kernel_rfl) (by kernel_rfl) (fun _ _ _ h => h) rfl ?_ (by assumption) ?_
      rotate_left
      · (intro w hSw; (try dsimp only at hSw); go_simp; (try with_reducible rfl))
      try simp only [Act.put, List.setIfInBounds_toArray, List.set_cons_zero, List.set_cons_succ]
      refine takeRun (i := 4) (v := ?_) rfl (by kernel_rfl) (by kernel_rfl) (by kernel_rfl) (fun _ _ _ h => h) rfl ?_ (by assumption) ?_
      rotate_left
      · (intro w hSw; (try dsimp only at hSw); go_simp; (try with_reducible rfl))
      try simp only [Act.put, List.setIfInBounds_toArray, List.set_cons_zero, List.set_cons_succ]
      refine takeRun (i := 5) (v := ?_) rfl (by kernel_rfl) (by kernel_rfl) (by kernel_rfl) (fun _ _ _ h => h) rfl ?_ (by assumption) ?_
      rotate_left
      · (intro w hSw; (try dsimp only at hSw); go_simp; (try with_reducible rfl))
      try simp only [Act.put, List.setIfInBounds_toArray, List.set_cons_zero, List.set_cons_succ]
      refine takeRun (i := 6) (v := ?_) rfl (by kernel_rfl) (by kernel_rfl) (by kernel_rfl) (fun _ _ _ h => h) rfl ?_ (by assumption) ?_
      rotate_left
      · (intro w hSw; (try dsimp only at hSw); go_simp; (try with_reducible rfl))
      try simp only [Act.put, List.setIfInBounds_toArray, List.set_cons_zero, List.set_cons_succ]
      refine takeRun (i := 7) (v := ?_) rfl (by kernel_rfl) (by kernel_rfl) (by kernel_rfl) (fun _ _ _ h => h) rfl ?_ (by assumption) ?_
      rotate_left
      · (intro w hSw; (try dsimp only at hSw); go_simp; (try with_reducible rfl))
      try simp only [Act.put, List.setIfInBounds_toArray, List.set_cons_zero, List.set_cons_succ]
      refine takeRun (i := 8) (v := ?_) rfl (by kernel_rfl) (by kernel_rfl) (by kernel_rfl) (fun _ _ _ h => h) rfl ?_ (by assumption) ?_
      rotate_left
      · (intro w hSw; (try dsimp only at hSw); go_simp; (try with_reducible rfl))
      try simp only [Act.put, List.setIfInBounds_toArray, List.set_cons_zero, List.set_cons_succ]
      refine takeSkip (i := 9) rfl (by kernel_rfl) (by kernel_rfl) (by kernel_rfl) (fun _ _ _ h => h) rfl (by assumption) ?_
      try simp only [Act.put, List.setIfInBounds_toArray, List.set_cons_zero, List.set_cons_succ]
      refine takeSkip (i := 10) rfl (by kernel_rfl) (by kernel_rfl) (by kernel_rfl) (fun _ _ _ h => h) rfl (by assumption) ?_
      try simp only [Act.put, List.setIfInBounds_toArray, List.set_cons_zero, List.set_cons_succ]
      refine takeSkip (i := 11) rfl (by kernel_rfl) (by kernel_rfl) (by kernel_rfl) (fun _ _ _ h => h) rfl (by assumption) ?_
      try simp only [Act.put, List.setIfInBounds_toArray, List.set_cons_zero, List.set_cons_succ]
      refine takeRun (i := 12) (v := ?_) rfl (by kernel_rfl) (by kernel_rfl) (by kernel_rfl) (fun _ _ _ h => h) rfl ?_ (by assumption) ?_
      rotate_left
      · (intro w hSw; (try dsimp only at hSw); go_simp; (try with_reducible rfl))
      try simp only [Act.put, List.setIfInBounds_toArray, List.set_cons_zero, List.set_cons_succ]
      refine takeRun (i := 13) (v := ?_) rfl (by kernel_rfl) (by kernel_rfl) (by kernel_rfl) (fun _ _ _ h => h) rfl ?_ (by assumption) ?_
      rotate_left
      · (intro w hSw; (try dsimp only at hSw); go_simp; (try with_reducible rfl))
      try simp only [Act.put, List.setIfInBounds_toArray, List.set_cons_zero, List.set_cons_succ]
      refine takeSkip (i := 14) rfl (by kernel_rfl) (by kernel_rfl) (by kernel_rfl) (fun _ _ _ h => h) rfl (by assumption) ?_
      try simp only [Act.put, List.setIfInBounds_toArray, List.set_cons_zero, List.set_cons_succ]
      refine takeSkip (i := 15) rfl (by kernel_rfl) (by kernel_rfl) (by kernel_rfl) (fun _ _ _ h => h) rfl (by assumption) ?_
      try simp only [Act.put, List.setIfInBounds_toArray, List.set_cons_zero, List.set_cons_succ]
      refine takeSkip (i := 16) rfl (by kernel_rfl) (by kernel_rfl) (by kernel_rfl) (fun _ _ _ h => h) rfl (by assumption) ?_
      try simp only [Act.put, List.setIfInBounds_toArray, List.set_cons_zero, List.set_cons_succ]
      refine takeSkip (i := 17) rfl (by kernel_rfl) (by kernel_rfl) (by kernel_rfl) (fun _ _ _ h => h) rfl (by assumption) ?_
      try simp only [Act.put, List.setIfInBounds_toArray, List.set_cons_zero, List.set_cons_succ]
      refine takeSkip (i := 18) rfl (by kernel_rfl) (by kernel_rfl) (by kernel_rfl) (fun _ _ _ h => h) rfl (by assumption) ?_
      try simp only [Act.put, List.setIfInBounds_toArray, List.set_cons_zero, List.set_cons_succ]
      refine takeSkip (i := 19) rfl (by kernel_rfl) (by kernel_rfl) (by kernel_rfl) (fun _ _ _ h => h) rfl (by assumption) ?_
      try simp only [Act.put, List.setIfInBounds_toArray, List.set_cons_zero, List.set_cons_succ]
      refine takeSkip (i := 20) rfl (by kernel_rfl) (by kernel_rfl) (by kernel_rfl) (fun _ _ _ h => h) rfl (by assumption) ?_
      try simp only [Act.put, List.setIfInBounds_toArray, List.set_cons_zero, List.set_cons_succ]
      refine takeRun (i := 21) (v := ?_) rfl (by kernel_rfl) (by kernel_rfl) (by kernel_rfl) (fun _ _ _ h => h) rfl ?_ (by assumption) ?_
      rotate_left
      · (intro w hSw; (try dsimp only at hSw); go_simp; (try with_reducible rfl))
      try simp only [Act.put, List.setIfInBounds_toArray, List.set_cons_zero, List.set_cons_succ]
      refine takeRun (i := 22) (v := ?_) rfl (by kernel_rfl) (by kernel_rfl) (by kernel_rfl) (fun _ _ _ h => h) rfl ?_ (by assumption) ?_
      rotate_left
      · (intro w hSw; (try dsimp only at hSw); go_simp; (try with_reducible rfl))
      try simp only [Act.put, List.setIfInBounds_toArray, List.set_cons_zero, List.set_cons_succ]
      refine wpAnyH_done (by kernel_rfl) ?_ _
      go_wp2_with fail
      go_ret
      exact ⟨ret_bool HV.out.symm, below_drewN hb 1⟩
  have v2 : decide ((1 : Int) ≤ (r.ex : Int)) = true := decide_eq_true (by omega)
  by_cases c3 : r.ex ≤ 4
  case neg =>
      have v3 : decide ((r.ex : Int) ≤ 4) = false := decide_eq_false (by omega)
      have HV : Hid (rightK .exc r = false) := by (show _ = _); simp [rightK]; omega
      clear c3
      go_enter Try.func119, Try.ntmps119
      go_upto_region 1 with fail
      generalize (w.alloc (.cells #[] 84)).alloc (.cells #[.int .u8 (r.fn : Int), .int .u8 (r.ex : Int), .slice B r.bits.length d, .slice A r.words.length c, .int .u16 (r.at_ : Int), .int .u16 (r.many : Int)] 36) = w1 at *
      obtain ⟨d0, d1, d2, d3, d4, d5⟩ := bx.c6
      have KK : Hid (∀ W : World, Below w1.heap.size w1 W → W.cell? ⟨w.heap.size + 1, 0, none⟩ = some (.int .u8 (r.fn : Int)) ∧ W.cell? ⟨w.heap.size + 1, 1, none⟩ = some (.int .u8 (r.ex : Int)) ∧ W.cell? ⟨w.heap.size + 1, 2, none⟩ = some (.slice B r.bits.length d) ∧ W.cell? ⟨w.heap.size + 1, 3, none⟩ = some (.slice A r.words.length c) ∧ W.cell? ⟨w.heap.size + 1, 4, none⟩ = some (.int .u16 (r.at_ : Int)) ∧ W.cell? ⟨w.heap.size + 1, 5, none⟩ = some (.int .u16 (r.many : Int))) := fun W hW => ⟨(bx.all hW).cell 0, (bx.all hW).cell 1, (bx.all hW).cell 2, (bx.all hW).cell 3, (bx.all hW).cell 4, (bx.all hW).cell 5⟩
      have b0 := (Below.refl w1.heap.size w1).drew
      refine wp_region_held_drew (S := fun W => W.cell? ⟨w.heap.size + 1, 0, none⟩ = some (.int .u8 (r.fn : Int)) ∧ W.cell? ⟨w.heap.size + 1, 1, none⟩ = some (.int .u8 (r.ex : Int)) ∧ W.cell? ⟨w.heap.size + 1, 2, none⟩ = some (.slice B r.bits.length d) ∧ W.cell? ⟨w.heap.size + 1, 3, none⟩ = some (.slice A r.words.length c) ∧ W.cell? ⟨w.heap.size + 1, 4, none⟩ = some (.int .u16 (r.at_ : Int)) ∧ W.cell? ⟨w.heap.size + 1, 5, none⟩ = some (.int .u16 (r.many : Int))) (by kernel_rfl) ?_ (fun hHeld => ?_)
      · exact KK.out _ b0
      refine takeRun (i := 0) (v := ?_) rfl (by kernel_rfl) (by kernel_rfl) (by kernel_rfl) (fun _ _ _ h => h) rfl ?_ (by assumption) ?_
      rotate_left
      · (intro w hSw; (try dsimp only at hSw); go_simp; (try with_reducible rfl))
      try simp only [Act.put, List.setIfInBounds_toArray, List.set_cons_zero, List.set_cons_succ]
      refine takeRun (i := 1) (v := ?_) rfl (by kernel_rfl) (by kernel_rfl) (by kernel_rfl) (fun _ _ _ h => h) rfl ?_ (by assumption) ?_
      rotate_left
      · (intro w hSw; (try dsimp only at hSw); go_simp; (try with_reducible rfl))
      try simp only [Act.put, List.setIfInBounds_toArray, List.set_cons_zero, List.set_cons_succ]
      refine takeRun (i := 2) (v := ?_) rfl (by kernel_rfl) (by kernel_rfl) (by kernel_rfl) (fun _ _ _ h => h) rfl ?_ (by assumption) ?_
      rotate_left
      · (intro w hSw; (try dsimp only at hSw); go_simp; (try with_reducible rfl))
      try simp only [Act.put, List.setIfInBounds_toArray, List.set_cons_zero, List.set_cons_succ]
      refine takeRun (i := 3) (v := ?_) rfl (by kernel_rfl) (by kernel_rfl) (by kernel_rfl) (fun _ _ _ h => h) rfl ?_ (by assumption) ?_
      rotate_left
      · (intro w hSw; (try dsimp only at hSw); go_simp; (try with_reducible rfl))
      try simp only [Act.put, List.setIfInBounds_toArray, List.set_cons_zero, List.set_cons_succ]
      refine takeRun (i := 4) (v := ?_) rfl (by kernel_rfl) (by kernel_rfl) (by kernel_rfl) (fun _ _ _ h => h) rfl ?_ (by assumption) ?_
      rotate_left
      · (intro w hSw; (try dsimp only at hSw); go_simp; (try with_reducible rfl))
      try simp only [Act.put, List.setIfInBounds_toArray, List.set_cons_zero, List.set_cons_succ]
      refine takeRun (i := 5) (v := ?_) rfl (by kernel_rfl) (by kernel_rfl) (by kernel_rfl) (fun _ _ _ h => h) rfl ?_ (by assumption) ?_
      rotate_left
      · (intro w hSw; (try dsimp only at hSw); go_simp; (try with_reducible rfl))
      try simp only [Act.put, List.setIfInBounds_toArray, List.set_cons_zero, List.set_cons_succ]
      refine takeRun (i := 6) (v := ?_) rfl (by kernel_rfl) (by kernel_rfl) (by kernel_rfl) (fun _ _ _ h => h) rfl ?_ (by assumption) ?_
      rotate_left
      · (intro w hSw; (try dsimp only at hSw); go_simp; (try with_reducible rfl))
      try simp only [Act.put, List.setIfInBounds_toArray, List.set_cons_zero, List.set_cons_succ]
      refine takeRun (i := 7) (v := ?_) rfl (by kernel_rfl) (by kernel_rfl) (by kernel_rfl) (fun _ _ _ h => h) rfl ?_ (by assumption) ?_
      rotate_left
      · (intro w hSw; (try dsimp only at hSw); go_simp; (try with_reducible rfl))
      try simp only [Act.put, List.setIfInBounds_toArray, List.set_cons_zero, List.set_cons_succ]
      refine takeRun (i := 8) (v := ?_) rfl (by kernel_rfl) (by kernel_rfl) (by kernel_rfl) (fun _ _ _ h => h) rfl ?_ (by assumption) ?_
      rotate_left
      · (intro w hSw; (try dsimp only at hSw); go_simp; (try with_reducible rfl))
      try simp only [Act.put, List.setIfInBounds_toArray, List.set_cons_zero, List.set_cons_succ]
      refine takeRun (i := 9) (v := ?_) rfl (by kernel_rfl) (by kernel_rfl) (by kernel_rfl) (fun _ _ _ h => h) rfl ?_ (by assumption) ?_
      rotate_left
      · (intro w hSw; (try dsimp only at hSw); go_simp; (try with_reducible rfl))
      try simp only [Act.put, List.setIfInBounds_toArray, List.set_cons_zero, List.set_cons_succ]
      refine takeRun (i := 10) (v := ?_) rfl (by kernel_rfl) (by kernel_rfl) (by kernel_rfl) (fun _ _ _ h => h) rfl ?_ (by assumption) ?_
      rotate_left
      · (intro w hSw; (try dsimp only at hSw); go_simp; (try with_reducible rfl))
      try simp only [Act.put, List.setIfInBounds_toArray, List.set_cons_zero, List.set_cons_succ]
      refine takeRun (i := 11) (v := ?_) rfl (by kernel_rfl) (by kernel_rfl) (by kernel_rfl) (fun _ _ _ h => h) rfl ?_ (by assumption) ?_
      rotate_left
      · (intro w hSw; (try dsimp only at hSw); go_simp; (try with_reducible rfl))
      try simp only [Act.put, List.setIfInBounds_toArray, List.set_cons_zero, List.set_cons_succ]
      refine takeRun (i := 12) (v := ?_) rfl (by kernel_rfl) (by kernel_rfl) (by kernel_rfl) (fun _ _ _ h => h) rfl ?_ (by assumption) ?_
      rotate_left
      · (intro w hSw; (try dsimp only at hSw); go_simp; (try with_reducible rfl))
      try simp only [Act.put, List.setIfInBounds_toArray, List.set_cons_zero, List.set_cons_succ]
      refine takeRun (i := 13) (v := ?_) rfl (by kernel_rfl) (by kernel_rfl) (by kernel_rfl) (fun _ _ _ h => h) rfl ?_ (by assumption) ?_
      rotate_left
      · (intro w hSw; (try dsimp only at hSw); go_simp; (try with_reducible rfl))
      try simp only [Act.put, List.setIfInBounds_toArray, List.set_cons_zero, List.set_cons_succ]
      refine takeSkip (i := 14) rfl (by kernel_rfl) (by kernel_rfl) (by kernel_rfl) (fun _ _ _ h => h) rfl (by assumption) ?_
      try simp only [Act.put, List.setIfInBounds_toArray, List.set_cons_zero, List.set_cons_succ]
      refine takeSkip (i := 15) rfl (by kernel_rfl) (by kernel_rfl) (by kernel_rfl) (fun _ _ _ h => h) rfl (by assumption) ?_
      try simp only [Act.put, List.setIfInBounds_toArray, List.set_cons_zero, List.set_cons_succ]
      refine takeSkip (i := 16) rfl (by kernel_rfl) (by kernel_rfl) (by kernel_rfl) (fun _ _ _ h => h) rfl (by assumption) ?_
      try simp only [Act.put, List.setIfInBounds_toArray, List.set_cons_zero, List.set_cons_succ]
      refine takeSkip (i := 17) rfl (by kernel_rfl) (by kernel_rfl) (by kernel_rfl) (fun _ _ _ h => h) rfl (by assumption) ?_
      try simp only [Act.put, List.setIfInBounds_toArray, List.set_cons_zero, List.set_cons_succ]
      refine takeSkip (i := 18) rfl (by kernel_rfl) (by kernel_rfl) (by kernel_rfl) (fun _ _ _ h => h) rfl (by assumption) ?_
      try simp only [Act.put, List.setIfInBounds_toArray, List.set_cons_zero, List.set_cons_succ]
      refine takeSkip (i := 19) rfl (by kernel_rfl) (by kernel_rfl) (by kernel_rfl) (fun _ _ _ h => h) rfl (by assumption) ?_
      try simp only [Act.put, List.setIfInBounds_toArray, List.set_cons_zero, List.set_cons_succ]
      refine takeSkip (i := 20) rfl (by kernel_rfl) (by kernel_rfl) (by kernel_rfl) (fun _ _ _ h => h) rfl (by assumption) ?_
      try simp only [Act.put, List.setIfInBounds_toArray, List.set_cons_zero, List.set_cons_succ]
      refine takeRun (i := 21) (v := ?_) rfl (by kernel_rfl) (by kernel_rfl) (by kernel_rfl) (fun _ _ _ h => h) rfl ?_ (by assumption) ?_
      rotate_left
      · (intro w hSw; (try dsimp only at hSw); go_simp; (try with_reducible rfl))
      try simp only [Act.put, List.setIfInBounds_toArray, List.set_cons_zero, List.set_cons_succ]
      refine takeRun (i := 22) (v := ?_) rfl (by kernel_rfl) (by kernel_rfl) (by kernel_rfl) (fun _ _ _ h => h) rfl ?_ (by assumption) ?_
      rotate_left
      · (intro w hSw; (try dsimp only at hSw); go_simp; (try with_reducible rfl))
      try simp only [Act.put, List.setIfInBounds_toArray, List.set_cons_zero, List.set_cons_succ]
      refine wpAnyH_done (by kernel_rfl) ?_ _
      go_wp2_with fail
      go_ret
      exact ⟨ret_bool HV.out.symm, below_drewN hb 1⟩
  case pos =>
      have v3 : decide ((r.ex : Int) ≤ 4) = true := decide_eq_true (by omega)
      have HV : Hid (rightK .exc r = sameR r r') := by (show _ = _); simp [rightK, c1, c2, c3, HR'.out]
      clear c1 c2 c3
      go_enter Try.func119, Try.ntmps119
      go_upto_region 1 with fail
      generalize (w.alloc (.cells #[] 84)).alloc (.cells #[.int .u8 (r.fn : Int), .int .u8 (r.ex : Int), .slice B r.bits.length d, .slice A r.words.length c, .int .u16 (r.at_ : Int), .int .u16 (r.many : Int)] 36) = w1 at *
      obtain ⟨d0, d1, d2, d3, d4, d5⟩ := bx.c6
      have KK : Hid (∀ W : World, Below w1.heap.size w1 W → W.cell? ⟨w.heap.size + 1, 0, none⟩ = some (.int .u8 (r.fn : Int)) ∧ W.cell? ⟨w.heap.size + 1, 1, none⟩ = some (.int .u8 (r.ex : Int)) ∧ W.cell? ⟨w.heap.size + 1, 2, none⟩ = some (.slice B r.bits.length d) ∧ W.cell? ⟨w.heap.size + 1, 3, none⟩ = some (.slice A r.words.length c) ∧ W.cell? ⟨w.heap.size + 1, 4, none⟩ = some (.int .u16 (r.at_ : Int)) ∧ W.cell? ⟨w.heap.size + 1, 5, none⟩ = some (.int .u16 (r.many : Int))) := fun W hW => ⟨(bx.all hW).cell 0, (bx.all hW).cell 1, (bx.all hW).cell 2, (bx.all hW).cell 3, (bx.all hW).cell 4, (bx.all hW).cell 5⟩
      have b0 := (Below.refl w1.heap.size w1).drew
      refine wp_region_held_drew (S := fun W => W.cell? ⟨w.heap.size + 1, 0, none⟩ = some (.int .u8 (r.fn : Int)) ∧ W.cell? ⟨w.heap.size + 1, 1, none⟩ = some (.int .u8 (r.ex : Int)) ∧ W.cell? ⟨w.heap.size + 1, 2, none⟩ = some (.slice B r.bits.length d) ∧ W.cell? ⟨w.heap.size + 1, 3, none⟩ = some (.slice A r.words.length c) ∧ W.cell? ⟨w.heap.size + 1, 4, none⟩ = some (.int .u16 (r.at_ : Int)) ∧ W.cell? ⟨w.heap.size + 1, 5, none⟩ = some (.int .u16 (r.many : Int))) (by kernel_rfl) ?_ (fun hHeld => ?_)
      · (first | exact KK.out _ b0 | exact KK.out _ hs3 | exact KK.out _ hs)
      refine takeRun (i := 0) (v := ?_) rfl (by kernel_rfl) (by kernel_rfl) (by kernel_rfl) (fun _ _ _ h => h) rfl ?_ (by assumption) ?_
      rotate_left
      · (intro w hSw; (try dsimp only at hSw); go_simp; (try with_reducible rfl))
      try simp only [Act.put, List.setIfInBounds_toArray, List.set_cons_zero, List.set_cons_succ]
      refine takeRun (i := 1) (v := ?_) rfl (by kernel_rfl) (by kernel_rfl) (by kernel_rfl) (fun _ _ _ h => h) rfl ?_ (by assumption) ?_
      rotate_left
      · (intro w hSw; (try dsimp only at hSw); go_simp; (try with_reducible rfl))
      try simp only [Act.put, List.setIfInBounds_toArray, List.set_cons_zero, List.set_cons_succ]
      refine takeRun (i := 2) (v := ?_) rfl (by kernel_rfl) (by kernel_rfl) (by kernel_rfl) (fun _ _ _ h => h) rfl ?_ (by assumption) ?_
      rotate_left
      · (intro w hSw; (try dsimp only at hSw); go_simp; (try with_reducible rfl))
      try simp only [Act.put, List.setIfInBounds_toArray, List.set_cons_zero, List.set_cons_succ]
      refine takeRun (i := 3) (v := ?_) rfl (by kernel_rfl) (by kernel_rfl) (by kernel_rfl) (fun _ _ _ h => h) rfl ?_ (by assumption) ?_
      rotate_left
      · (intro w hSw; (try dsimp only at hSw); go_simp; (try with_reducible rfl))
      try simp only [Act.put, List.setIfInBounds_toArray, List.set_cons_zero, List.set_cons_succ]
      refine takeRun (i := 4) (v := ?_) rfl (by kernel_rfl) (by kernel_rfl) (by kernel_rfl) (fun _ _ _ h => h) rfl ?_ (by assumption) ?_
      rotate_left
      · (intro w hSw; (try dsimp only at hSw); go_simp; (try with_reducible rfl))
      try simp only [Act.put, List.setIfInBounds_toArray, List.set_cons_zero, List.set_cons_succ]
      refine takeRun (i := 5) (v := ?_) rfl (by kernel_rfl) (by kernel_rfl) (by kernel_rfl) (fun _ _ _ h => h) rfl ?_ (by assumption) ?_
      rotate_left
      · (intro w hSw; (try dsimp only at hSw); go_simp; (try with_reducible rfl))
      try simp only [Act.put, List.setIfInBounds_toArray, List.set_cons_zero, List.set_cons_succ]
      refine takeRun (i := 6) (v := ?_) rfl (by kernel_rfl) (by kernel_rfl) (by kernel_rfl) (fun _ _ _ h => h) rfl ?_ (by assumption) ?_
      rotate_left
      · (intro w hSw; (try dsimp only at hSw); go_simp; (try with_reducible rfl))
      try simp only [Act.put, List.setIfInBounds_toArray, List.set_cons_zero, List.set_cons_succ]
      refine takeRun (i := 7) (v := ?_) rfl (by kernel_rfl) (by kernel_rfl) (by kernel_rfl) (fun _ _ _ h => h) rfl ?_ (by assumption) ?_
      rotate_left
      · (intro w hSw; (try dsimp only at hSw); go_simp; (try with_reducible rfl))
      try simp only [Act.put, List.setIfInBounds_toArray, List.set_cons_zero, List.set_cons_succ]
      refine takeRun (i := 8) (v := ?_) rfl (by kernel_rfl) (by kernel_rfl) (by kernel_rfl) (fun _ _ _ h => h) rfl ?_ (by assumption) ?_
      rotate_left
      · (intro w hSw; (try dsimp only at hSw); go_simp; (try with_reducible rfl))
      try simp only [Act.put, List.setIfInBounds_toArray, List.set_cons_zero, List.set_cons_succ]
      refine takeRun (i := 9) (v := ?_) rfl (by kernel_rfl) (by kernel_rfl) (by kernel_rfl) (fun _ _ _ h => h) rfl ?_ (by assumption) ?_
      rotate_left
      · (intro w hSw; (try dsimp only at hSw); go_simp; (try with_reducible rfl))
      try simp only [Act.put, List.setIfInBounds_toArray, List.set_cons_zero, List.set_cons_succ]
      refine takeRun (i := 10) (v := ?_) rfl (by kernel_rfl) (by kernel_rfl) (by kernel_rfl) (fun _ _ _ h => h) rfl ?_ (by assumption) ?_
      rotate_left
      · (intro w hSw; (try dsimp only at hSw); go_simp; (try with_reducible rfl))
      try simp only [Act.put, List.setIfInBounds_toArray, List.set_cons_zero, List.set_cons_succ]
      refine takeRun (i := 11) (v := ?_) rfl (by kernel_rfl) (by kernel_rfl) (by kernel_rfl) (fun _ _ _ h => h) rfl ?_ (by assumption) ?_
      rotate_left
      · (intro w hSw; (try dsimp only at hSw); go_simp; (try with_reducible rfl))
      try simp only [Act.put, List.setIfInBounds_toArray, List.set_cons_zero, List.set_cons_succ]
      refine takeRun (i := 12) (v := ?_) rfl (by kernel_rfl) (by kernel_rfl) (by kernel_rfl) (fun _ _ _ h => h) rfl ?_ (by assumption) ?_
      rotate_left
      · (intro w hSw; (try dsimp only at hSw); go_simp; (try with_reducible rfl))
      try simp only [Act.put, List.setIfInBounds_toArray, List.set_cons_zero, List.set_cons_succ]
      refine takeRun (i := 13) (v := ?_) rfl (by kernel_rfl) (by kernel_rfl) (by kernel_rfl) (fun _ _ _ h => h) rfl ?_ (by assumption) ?_
      rotate_left
      · (intro w hSw; (try dsimp only at hSw); go_simp; (try with_reducible rfl))
      try simp only [Act.put, List.setIfInBounds_toArray, List.set_cons_zero, List.set_cons_succ]
      refine takeRun (i := 14) (v := ?_) rfl (by kernel_rfl) (by kernel_rfl) (by kernel_rfl) (fun _ _ _ h => h) rfl ?_ (by assumption) ?_
      rotate_left
      · (intro w hSw; (try dsimp only at hSw); go_simp; (try with_reducible rfl))
      try simp only [Act.put, List.setIfInBounds_toArray, List.set_cons_zero, List.set_cons_succ]
      refine takeRun (i := 15) (v := ?_) rfl (by kernel_rfl) (by kernel_rfl) (by kernel_rfl) (fun _ _ _ h => h) rfl ?_ (by assumption) ?_
      rotate_left
      · (intro w hSw; (try dsimp only at hSw); go_simp; (try with_reducible rfl))
      try simp only [Act.put, List.setIfInBounds_toArray, List.set_cons_zero, List.set_cons_succ]
      refine takeRun (i := 16) (v := ?_) rfl (by kernel_rfl) (by kernel_rfl) (by kernel_rfl) (fun _ _ _ h => h) rfl ?_ (by assumption) ?_
      rotate_left
      · (intro w hSw; (try dsimp only at hSw); go_simp; (try with_reducible rfl))
      try simp only [Act.put, List.setIfInBounds_toArray, List.set_cons_zero, List.set_cons_succ]
      refine takeRun (i := 17) (v := ?_) rfl (by kernel_rfl) (by kernel_rfl) (by kernel_rfl) (fun _ _ _ h => h) rfl ?_ (by assumption) ?_
      rotate_left
      · (intro w hSw; (try dsimp only at hSw); go_simp; (try with_reducible rfl))
      try simp only [Act.put, List.setIfInBounds_toArray, List.set_cons_zero, List.set_cons_succ]
      refine takeRun (i := 18) (v := ?_) rfl (by kernel_rfl) (by kernel_rfl) (by kernel_rfl) (fun _ _ _ h => h) rfl ?_ (by assumption) ?_
      rotate_left
      · (intro w hSw; (try dsimp only at hSw); go_simp; (try with_reducible rfl))
      try simp only [Act.put, List.setIfInBounds_toArray, List.set_cons_zero, List.set_cons_succ]
      refine goOne (i := 19) (by kernel_rfl) rfl (fun K hK => ?_)
      go_simp
      (refine (E1.out _).mono ?_; rintro e w2 ⟨rfl, hs⟩; replace hs := undrew hs)
      go_wp2_with fail
      refine hK.out _ _ ?_ (fun hHeld => ?_)
      · (first | exact KK.out _ b0 | exact KK.out _ hs3 | exact KK.out _ hs)
      clear hK K
      try simp only [Act.put, List.setIfInBounds_toArray, List.set_cons_zero, List.set_cons_succ]
      refine goOne (i := 20) (by kernel_rfl) rfl (fun K hK => ?_)
      go_simp
      (refine (E2.out _ ((hR.below hb).below hs)).mono ?_; rintro e w3 ⟨rfl, hs3⟩; replace hs3 := bthen hs hs3)
      go_wp2_with fail
      refine hK.out _ _ ?_ (fun hHeld => ?_)
      · (first | exact KK.out _ b0 | exact KK.out _ hs3 | exact KK.out _ hs)
      clear hK K
      try simp only [Act.put, List.setIfInBounds_toArray, List.set_cons_zero, List.set_cons_succ]
      refine takeRun (i := 21) (v := ?_) rfl (by kernel_rfl) (by kernel_rfl) (by kernel_rfl) (fun _ _ _ h => h) rfl ?_ (by assumption) ?_
      rotate_left
      · (intro w hSw; (try dsimp only at hSw); go_simp; (try with_reducible rfl))
      try simp only [Act.put, List.setIfInBounds_toArray, List.set_cons_zero, List.set_cons_succ]
      refine takeRun (i := 22) (v := ?_) rfl (by kernel_rfl) (by kernel_rfl) (by kernel_rfl) (fun _ _ _ h => h) rfl ?_ (by assumption) ?_
      rotate_left
      · (intro w hSw; (try dsimp only at hSw); go_simp; (try with_reducible rfl))
      try simp only [Act.put, List.setIfInBounds_toArray, List.set_cons_zero, List.set_cons_succ]
      refine wpAnyH_done (by kernel_rfl) ?_ _
      go_wp2_with fail
      go_ret
      exact ⟨ret_bool HV.out.symm, bthen hb hs3⟩

set_option maxHeartbeats 2000000 in
theorem right_bl (r : Rp) (A : Option Addr) (c : Nat) (B : Option Addr) (d : Nat) (w : World) (hR : RpR w r A B) (hok : r.ok) (hw : r.words.length ≤ 1000000) (hk : r.bits.length ≤ 1000000) :
    Calls Try.prog 132 #[.agg #[], r.v A c B d] w fun e w' => e = .returned (.bool (rightK .bl r)) ∧ Below w.heap.size w w' := by
  have hb := ((Below.refl _ w).alloc (Nat.le_refl _) (.cells #[] 133)).alloc (by simp [World.size_alloc]) (.cells #[.int .u8 (r.fn : Int), .int .u8 (r.ex : Int), .slice B r.bits.length d, .slice A r.words.length c, .int .u16 (r.at_ : Int), .int .u16 (r.many : Int)] 36)
  have bx := Blk.newAt (w.alloc (.cells #[] 133)) 36 #[.int .u8 (r.fn : Int), .int .u8 (r.ex : Int), .slice B r.bits.length d, .slice A r.words.length c, .int .u16 (r.at_ : Int), .int .u16 (r.many : Int)] (w.heap.size + 1) (World.size_alloc _ _)
  unfold Rp.v rpV
  have E2 := Lib.hid (fun W (h : RpR W r A B) => reply_Same r ⟨r.fn, 0, r.bits, [], 0, 0⟩ A c B d none 0 B d W h ⟨Rd.nil, h.bits⟩ hw hk)
  unfold Rp.v rpV at E2
  simp only [List.length_nil] at E2
  by_cases c0 : 8 ≤ r.bits.length
  case neg =>
      have v0 : decide ((8 : Int) ≤ (r.bits.length : Int)) = false := decide_eq_false (by omega)
      have HV : Hid (rightK .bl r = false) := by (show _ = _); simp [rightK, c0]
      clear c0
      go_enter Try.func132, Try.ntmps132
      go_upto_region 1 with fail
      generalize (w.alloc (.cells #[] 133)).alloc (.cells #[.int .u8 (r.fn : Int), .int .u8 (r.ex : Int), .slice B r.bits.length d, .slice A r.words.length c, .int .u16 (r.at_ : Int), .int .u16 (r.many : Int)] 36) = w1 at *
      obtain ⟨d0, d1, d2, d3, d4, d5⟩ := bx.c6
      go_wp2_with fail
      go_ret
      exact ⟨ret_bool HV.out.symm, hb⟩
  have v0 : decide ((8 : Int) ≤ (r.bits.length : Int)) = true := decide_eq_true (by omega)
  by_cases c1 : r.bits.length ≤ 2000
  case neg =>
      have v1 : decide ((r.bits.length : Int) ≤ 2000) = false := decide_eq_false (by omega)
      have HV : Hid (rightK .bl r = false) := by (show _ = _); simp [rightK, c0, c1]
      clear c0 c1
      go_enter Try.func132, Try.ntmps132
      go_upto_region 1 with fail
      generalize (w.alloc (.cells #[] 133)).alloc (.cells #[.int .u8 (r.fn : Int), .int .u8 (r.ex : Int), .slice B r.bits.length d, .slice A r.words.length c, .int .u16 (r.at_ : Int), .int .u16 (r.many : Int)] 36) = w1 at *
      obtain ⟨d0, d1, d2, d3, d4, d5⟩ := bx.c6
      go_wp2_with fail
      go_ret
      exact ⟨ret_bool HV.out.symm, hb⟩
  have v1 : decide ((r.bits.length : Int) ≤ 2000) = true := decide_eq_true (by omega)
  by_cases c2 : r.bits.length % 8 = 0
  case neg =>
      have v2 : ((r.bits.length : Int) % 8 == 0) = false := by simp; omega
      have HV : Hid (rightK .bl r = false) := by (show _ = _); simp [rightK, c0, c1, c2]
      clear c0 c1 c2
      go_enter Try.func132, Try.ntmps132
      go_upto_region 1 with fail
      generalize (w.alloc (.cells #[] 133)).alloc (.cells #[.int .u8 (r.fn : Int), .int .u8 (r.ex : Int), .slice B r.bits.length d, .slice A r.words.length c, .int .u16 (r.at_ : Int), .int .u16 (r.many : Int)] 36) = w1 at *
      obtain ⟨d0, d1, d2, d3, d4, d5⟩ := bx.c6
      go_wp2_with fail
      go_ret
      exact ⟨ret_bool HV.out.symm, hb⟩
  have v2 : ((r.bits.length : Int) % 8 == 0) = true := by simp; omega
  have HV : Hid (rightK .bl r = sameR r ⟨r.fn, 0, r.bits, [], 0, 0⟩) := by (show _ = _); simp [rightK, c0, c1, c2]
  clear c0 c1 c2
  go_enter Try.func132, Try.ntmps132
  go_upto_region 1 with fail
  generalize (w.alloc (.cells #[] 133)).alloc (.cells #[.int .u8 (r.fn : Int), .int .u8 (r.ex : Int), .slice B r.bits.length d, .slice A r.words.length c, .int .u16 (r.at_ : Int), .int .u16 (r.many : Int)] 36) = w1 at *
  obtain ⟨d0, d1, d2, d3, d4, d5⟩ := bx.c6
  go_wp2_with fail
  refine (E2.out _ (hR.below hb)).mono ?_
  rintro e w2 ⟨rfl, hs⟩
  go_wp2_with fail
  go_ret
  exact ⟨ret_bool HV.out.symm, bthen hb hs⟩
set_option maxHeartbeats 2000000 in
theorem right_wl (r : Rp) (A : Option Addr) (c : Nat) (B : Option Addr) (d : Nat) (w : World) (hR : RpR w r A B) (hok : r.ok) (hw : r.words.length ≤ 1000000) (hk : r.bits.length ≤ 1000000) :
    Calls Try.prog 135 #[.agg #[], r.v A c B d] w fun e w' => e = .returned (.bool (rightK .wl r)) ∧ Below w.heap.size w w' := by
  have hb := ((Below.refl _ w).alloc (Nat.le_refl _) (.cells #[] 134)).alloc (by simp [World.size_alloc]) (.cells #[.int .u8 (r.fn : Int), .int .u8 (r.ex : Int), .slice B r.bits.length d, .slice A r.words.length c, .int .u16 (r.at_ : Int), .int .u16 (r.many : Int)] 36)
  have bx := Blk.newAt (w.alloc (.cells #[] 134)) 36 #[.int .u8 (r.fn : Int), .int .u8 (r.ex : Int), .slice B r.bits.length d, .slice A r.words.length c, .int .u16 (r.at_ : Int), .int .u16 (r.many : Int)] (w.heap.size + 1) (World.size_alloc _ _)
  unfold Rp.v rpV
  have E2 := Lib.hid (fun W (h : RpR W r A B) => reply_Same r ⟨r.fn, 0, [], r.words, 0, 0⟩ A c B d A c none 0 W h ⟨h.words, Rd.nil⟩ hw hk)
  unfold Rp.v rpV at E2
  simp only [List.length_nil] at E2
  by_cases c0 : 1 ≤ r.words.length
  case neg =>
      have v0 : decide ((1 : Int) ≤ (r.words.length : Int)) = false := decide_eq_false (by omega)
      have HV : Hid (rightK .wl r = false) := by (show _ = _); simp [rightK, c0]
      clear c0
      go_enter Try.func135, Try.ntmps135
      go_upto_region 1 with fail
      generalize (w.alloc (.cells #[] 134)).alloc (.cells #[.int .u8 (r.fn : Int), .int .u8 (r.ex : Int), .slice B r.bits.length d, .slice A r.words.length c, .int .u16 (r.at_ : Int), .int .u16 (r.many : Int)] 36) = w1 at *
      obtain ⟨d0, d1, d2, d3, d4, d5⟩ := bx.c6
      go_wp2_with fail
      go_ret
      exact ⟨ret_bool HV.out.symm, hb⟩
  have v0 : decide ((1 : Int) ≤ (r.words.length : Int)) = true := decide_eq_true (by omega)
  by_cases c1 : r.words.length ≤ 125
  case neg =>
      have v1 : decide ((r.words.length : Int) ≤ 125) = false := decide_eq_false (by omega)
      have HV : Hid (rightK .wl r = false) := by (show _ = _); simp [rightK, c0, c1]
      clear c0 c1
      go_enter Try.func135, Try.ntmps135
      go_upto_region 1 with fail
      generalize (w.alloc (.cells #[] 134)).alloc (.cells #[.int .u8 (r.fn : Int), .int .u8 (r.ex : Int), .slice B r.bits.length d, .slice A r.words.length c, .int .u16 (r.at_ : Int), .int .u16 (r.many : Int)] 36) = w1 at *
      obtain ⟨d0, d1, d2, d3, d4, d5⟩ := bx.c6
      go_wp2_with fail
      go_ret
      exact ⟨ret_bool HV.out.symm, hb⟩
  have v1 : decide ((r.words.length : Int) ≤ 125) = true := decide_eq_true (by omega)
  have HV : Hid (rightK .wl r = sameR r ⟨r.fn, 0, [], r.words, 0, 0⟩) := by (show _ = _); simp [rightK, c0, c1]
  clear c0 c1
  go_enter Try.func135, Try.ntmps135
  go_upto_region 1 with fail
  generalize (w.alloc (.cells #[] 134)).alloc (.cells #[.int .u8 (r.fn : Int), .int .u8 (r.ex : Int), .slice B r.bits.length d, .slice A r.words.length c, .int .u16 (r.at_ : Int), .int .u16 (r.many : Int)] 36) = w1 at *
  obtain ⟨d0, d1, d2, d3, d4, d5⟩ := bx.c6
  go_wp2_with fail
  refine (E2.out _ (hR.below hb)).mono ?_
  rintro e w2 ⟨rfl, hs⟩
  go_wp2_with fail
  go_ret
  exact ⟨ret_bool HV.out.symm, bthen hb hs⟩
set_option maxHeartbeats 2000000 in
theorem right_ob (r : Rp) (A : Option Addr) (c : Nat) (B : Option Addr) (d : Nat) (w : World) (hR : RpR w r A B) (hok : r.ok) (hw : r.words.length ≤ 1000000) (hk : r.bits.length ≤ 1000000) :
    Calls Try.prog 140 #[.agg #[], r.v A c B d] w fun e w' => e = .returned (.bool (rightK .ob r)) ∧ Below w.heap.size w w' := by
  have hb := ((Below.refl _ w).alloc (Nat.le_refl _) (.cells #[] 135)).alloc (by simp [World.size_alloc]) (.cells #[.int .u8 (r.fn : Int), .int .u8 (r.ex : Int), .slice B r.bits.length d, .slice A r.words.length c, .int .u16 (r.at_ : Int), .int .u16 (r.many : Int)] 36)
  have bx := Blk.newAt (w.alloc (.cells #[] 135)) 36 #[.int .u8 (r.fn : Int), .int .u8 (r.ex : Int), .slice B r.bits.length d, .slice A r.words.length c, .int .u16 (r.at_ : Int), .int .u16 (r.many : Int)] (w.heap.size + 1) (World.size_alloc _ _)
  unfold Rp.v rpV
  have E2 := Lib.hid (fun W (h : RpR W r A B) => reply_Same r ⟨r.fn, 0, r.bits, [], r.at_, 0⟩ A c B d none 0 B d W h ⟨Rd.nil, h.bits⟩ hw hk)
  unfold Rp.v rpV at E2
  simp only [List.length_nil] at E2
  by_cases c0 : r.bits.length = 1
  case neg =>
      have v0 : ((r.bits.length : Int) == 1) = false := by simp; omega
      have HV : Hid (rightK .ob r = false) := by (show _ = _); simp [rightK, c0]
      clear c0
      go_enter Try.func140, Try.ntmps140
      go_upto_region 1 with fail
      generalize (w.alloc (.cells #[] 135)).alloc (.cells #[.int .u8 (r.fn : Int), .int .u8 (r.ex : Int), .slice B r.bits.length d, .slice A r.words.length c, .int .u16 (r.at_ : Int), .int .u16 (r.many : Int)] 36) = w1 at *
      obtain ⟨d0, d1, d2, d3, d4, d5⟩ := bx.c6
      go_wp2_with fail
      go_ret
      exact ⟨ret_bool HV.out.symm, hb⟩
  have v0 : ((r.bits.length : Int) == 1) = true := by simp; omega
  have HV : Hid (rightK .ob r = sameR r ⟨r.fn, 0, r.bits, [], r.at_, 0⟩) := by (show _ = _); simp [rightK, c0]
  clear c0
  go_enter Try.func140, Try.ntmps140
  go_upto_region 1 with fail
  generalize (w.alloc (.cells #[] 135)).alloc (.cells #[.int .u8 (r.fn : Int), .int .u8 (r.ex : Int), .slice B r.bits.length d, .slice A r.words.length c, .int .u16 (r.at_ : Int), .int .u16 (r.many : Int)] 36) = w1 at *
  obtain ⟨d0, d1, d2, d3, d4, d5⟩ := bx.c6
  go_wp2_with fail
  refine (E2.out _ (hR.below hb)).mono ?_
  rintro e w2 ⟨rfl, hs⟩
  go_wp2_with fail
  go_ret
  exact ⟨ret_bool HV.out.symm, bthen hb hs⟩
set_option maxHeartbeats 2000000 in
theorem right_ow (r : Rp) (A : Option Addr) (c : Nat) (B : Option Addr) (d : Nat) (w : World) (hR : RpR w r A B) (hok : r.ok) (hw : r.words.length ≤ 1000000) (hk : r.bits.length ≤ 1000000) :
    Calls Try.prog 143 #[.agg #[], r.v A c B d] w fun e w' => e = .returned (.bool (rightK .ow r)) ∧ Below w.heap.size w w' := by
  have hb := ((Below.refl _ w).alloc (Nat.le_refl _) (.cells #[] 136)).alloc (by simp [World.size_alloc]) (.cells #[.int .u8 (r.fn : Int), .int .u8 (r.ex : Int), .slice B r.bits.length d, .slice A r.words.length c, .int .u16 (r.at_ : Int), .int .u16 (r.many : Int)] 36)
  have bx := Blk.newAt (w.alloc (.cells #[] 136)) 36 #[.int .u8 (r.fn : Int), .int .u8 (r.ex : Int), .slice B r.bits.length d, .slice A r.words.length c, .int .u16 (r.at_ : Int), .int .u16 (r.many : Int)] (w.heap.size + 1) (World.size_alloc _ _)
  unfold Rp.v rpV
  have E2 := Lib.hid (fun W (h : RpR W r A B) => reply_Same r ⟨r.fn, 0, [], r.words, r.at_, 0⟩ A c B d A c none 0 W h ⟨h.words, Rd.nil⟩ hw hk)
  unfold Rp.v rpV at E2
  simp only [List.length_nil] at E2
  by_cases c0 : r.words.length = 1
  case neg =>
      have v0 : ((r.words.length : Int) == 1) = false := by simp; omega
      have HV : Hid (rightK .ow r = false) := by (show _ = _); simp [rightK, c0]
      clear c0
      go_enter Try.func143, Try.ntmps143
      go_upto_region 1 with fail
      generalize (w.alloc (.cells #[] 136)).alloc (.cells #[.int .u8 (r.fn : Int), .int .u8 (r.ex : Int), .slice B r.bits.length d, .slice A r.words.length c, .int .u16 (r.at_ : Int), .int .u16 (r.many : Int)] 36) = w1 at *
      obtain ⟨d0, d1, d2, d3, d4, d5⟩ := bx.c6
      go_wp2_with fail
      go_ret
      exact ⟨ret_bool HV.out.symm, hb⟩
  have v0 : ((r.words.length : Int) == 1) = true := by simp; omega
  have HV : Hid (rightK .ow r = sameR r ⟨r.fn, 0, [], r.words, r.at_, 0⟩) := by (show _ = _); simp [rightK, c0]
  clear c0
  go_enter Try.func143, Try.ntmps143
  go_upto_region 1 with fail
  generalize (w.alloc (.cells #[] 136)).alloc (.cells #[.int .u8 (r.fn : Int), .int .u8 (r.ex : Int), .slice B r.bits.length d, .slice A r.words.length c, .int .u16 (r.at_ : Int), .int .u16 (r.many : Int)] 36) = w1 at *
  obtain ⟨d0, d1, d2, d3, d4, d5⟩ := bx.c6
  go_wp2_with fail
  refine (E2.out _ (hR.below hb)).mono ?_
  rintro e w2 ⟨rfl, hs⟩
  go_wp2_with fail
  go_ret
  exact ⟨ret_bool HV.out.symm, bthen hb hs⟩
set_option maxHeartbeats 2000000 in
theorem right_ct (m : Nat) (hm : m < 65536) (r : Rp) (A : Option Addr) (c : Nat) (B : Option Addr) (d : Nat) (w : World) (hR : RpR w r A B) (hok : r.ok) (hw : r.words.length ≤ 1000000) (hk : r.bits.length ≤ 1000000) :
    Calls Try.prog 146 #[.agg #[.int .u16 (m : Int)], r.v A c B d] w fun e w' => e = .returned (.bool (rightK (.ct m) r)) ∧ Below w.heap.size w w' := by
  have hb := ((Below.refl _ w).alloc (Nat.le_refl _) (.cells #[.int .u16 (m : Int)] 138)).alloc (by simp [World.size_alloc]) (.cells #[.int .u8 (r.fn : Int), .int .u8 (r.ex : Int), .slice B r.bits.length d, .slice A r.words.length c, .int .u16 (r.at_ : Int), .int .u16 (r.many : Int)] 36)
  have bx := Blk.newAt (w.alloc (.cells #[.int .u16 (m : Int)] 138)) 36 #[.int .u8 (r.fn : Int), .int .u8 (r.ex : Int), .slice B r.bits.length d, .slice A r.words.length c, .int .u16 (r.at_ : Int), .int .u16 (r.many : Int)] (w.heap.size + 1) (World.size_alloc _ _)
  have bk := (Blk.new w 138 #[.int .u16 (m : Int)]).alloc (.cells #[.int .u8 (r.fn : Int), .int .u8 (r.ex : Int), .slice B r.bits.length d, .slice A r.words.length c, .int .u16 (r.at_ : Int), .int .u16 (r.many : Int)] 36)
  unfold Rp.v rpV
  have E2 := Lib.hid (fun W (h : RpR W r A B) => reply_Same r ⟨r.fn, 0, [], [], r.at_, r.many⟩ A c B d none 0 none 0 W h ⟨Rd.nil, Rd.nil⟩ hw hk)
  unfold Rp.v rpV at E2
  simp only [List.length_nil] at E2
  by_cases c0 : 1 ≤ r.many
  case neg =>
      have v0 : decide ((1 : Int) ≤ (r.many : Int)) = false := decide_eq_false (by omega)
      have HV : Hid (rightK (.ct m) r = false) := by (show _ = _); simp [rightK, c0]
      clear c0
      go_enter Try.func146, Try.ntmps146
      go_upto_region 1 with fail
      generalize (w.alloc (.cells #[.int .u16 (m : Int)] 138)).alloc (.cells #[.int .u8 (r.fn : Int), .int .u8 (r.ex : Int), .slice B r.bits.length d, .slice A r.words.length c, .int .u16 (r.at_ : Int), .int .u16 (r.many : Int)] 36) = w1 at *
      obtain ⟨d0, d1, d2, d3, d4, d5⟩ := bx.c6
      have e0 := bk.c1
      go_wp2_with fail
      go_ret
      exact ⟨ret_bool HV.out.symm, hb⟩
  have v0 : decide ((1 : Int) ≤ (r.many : Int)) = true := decide_eq_true (by omega)
  by_cases c1 : r.many ≤ m
  case neg =>
      have v1 : decide (r.many ≤ m) = false := decide_eq_false (by omega)
      have HV : Hid (rightK (.ct m) r = false) := by (show _ = _); simp [rightK, c0, c1]
      clear c0 c1
      go_enter Try.func146, Try.ntmps146
      go_upto_region 1 with fail
      generalize (w.alloc (.cells #[.int .u16 (m : Int)] 138)).alloc (.cells #[.int .u8 (r.fn : Int), .int .u8 (r.ex : Int), .slice B r.bits.length d, .slice A r.words.length c, .int .u16 (r.at_ : Int), .int .u16 (r.many : Int)] 36) = w1 at *
      obtain ⟨d0, d1, d2, d3, d4, d5⟩ := bx.c6
      have e0 := bk.c1
      go_wp2_with fail
      go_ret
      exact ⟨ret_bool HV.out.symm, hb⟩
  have v1 : decide (r.many ≤ m) = true := decide_eq_true (by omega)
  have HV : Hid (rightK (.ct m) r = sameR r ⟨r.fn, 0, [], [], r.at_, r.many⟩) := by (show _ = _); simp [rightK, c0, c1]
  clear c0 c1
  go_enter Try.func146, Try.ntmps146
  go_upto_region 1 with fail
  generalize (w.alloc (.cells #[.int .u16 (m : Int)] 138)).alloc (.cells #[.int .u8 (r.fn : Int), .int .u8 (r.ex : Int), .slice B r.bits.length d, .slice A r.words.length c, .int .u16 (r.at_ : Int), .int .u16 (r.many : Int)] 36) = w1 at *
  obtain ⟨d0, d1, d2, d3, d4, d5⟩ := bx.c6
  have e0 := bk.c1
  go_wp2_with fail
  refine (E2.out _ (hR.below hb)).mono ?_
  rintro e w2 ⟨rfl, hs⟩
  go_wp2_with fail
  go_ret
  exact ⟨ret_bool HV.out.symm, bthen hb hs⟩
/-- whichever kind -/
def Kd.ok : Kd → Prop
  | .ct m => m < 65536
  | _ => True
theorem right_any (k : Kd) (hk' : k.ok) (r : Rp) (A : Option Addr) (c : Nat) (B : Option Addr) (d : Nat) (w : World) (hR : RpR w r A B) (hok : r.ok) (hw : r.words.length ≤ 1000000) (hk : r.bits.length ≤ 1000000) :
    Calls Try.prog k.fright #[k.v, r.v A c B d] w fun e w' => e = .returned (.bool (rightK k r)) ∧ Below w.heap.size w w' := by
  cases k with
  | exc => exact right_exc r A c B d w hR hok hw hk
  | bl => exact right_bl r A c B d w hR hok hw hk
  | wl => exact right_wl r A c B d w hR hok hw hk
  | ob => exact right_ob r A c B d w hR hok hw hk
  | ow => exact right_ow r A c B d w hR hok hw hk
  | ct m => exact right_ct m hk' r A c B d w hR hok hw hk
theorem findK_ok {f : Nat} {k : Kd} (h : findK f = some k) : k.ok := by
  unfold findK at h
  repeat' split at h
  all_goals first | (injection h with h; subst h; first | trivial | (show _ < _; decide)) | cases h
theorem kindR_ok {r : Rp} {k : Kd} (h : kindR r = some k) : k.ok := by
  unfold kindR at h
  split at h
  · injection h with h; subst h; trivial
  · exact findK_ok h
end Go.Proofs.Ytechhidfgheejaa
