/- The walk of the law AskTells (written by gen_asktells.py). -/
import Derived.Test.YtechhidfgheejaaRefE
import Derived.Test.YtechhidfgheejaaRefS
import Derived.Test.YtechhidfgheejaaAskAwake
import Derived.Test.YtechhidfgheejaaLowB
import Derived.Deep.DeepCutAuto
namespace Go.Proofs.Ytechhidfgheejaa
open Go.RowKit
set_option linter.unusedSimpArgs false
set_option linter.unusedVariables false

/-- what is told of bytes, either way -/
theorem Told.any {w w' : World} {r : Option Ak} {e : Ending} (h : Told w r (.int .i64 0) (.int .i64 12) e w') :
    ∃ A c B d, e = .returned (.tuple #[(r.getD Ak.zero).v A c B d, .int .i64 ((if r.isSome then 0 else 12 : Nat) : Int)]) ∧ (RdN w.heap.size w' A (ws (r.getD Ak.zero).words) ∧ RdN w.heap.size w' B (os (r.getD Ak.zero).bits)) ∧ Below w.heap.size w w' := by
  cases r with
  | none => exact ⟨none, 0, none, 0, h.1, ⟨RdN.nil, RdN.nil⟩, h.2⟩
  | some a =>
    obtain ⟨A, c, B, d, he, h1, h2, hb⟩ := h
    exact ⟨A, c, B, d, he, ⟨h1, h2⟩, hb⟩
theorem zero_small : Ak.zero.small := ⟨⟨by decide, by decide, by decide, by decide, fun x hx => by cases hx⟩, by decide, by decide⟩
theorem parse_small {l : List Nat} (hl : Bs l) : ((parseA l).getD Ak.zero).small := by
  cases hp : parseA l with
  | none => exact zero_small
  | some a => exact readA_small (parseA_some hp).1 hl
theorem look_small {l : List Nat} (hl : Bs l) : (lookA l).1.small := by
  unfold lookA
  cases hp : parseA l with
  | some a => exact readA_small (parseA_some hp).1 hl
  | none =>
    simp only
    split
    · exact zero_small
    · exact ⟨⟨getD_lt hl 0, by simp, by simp, by simp, fun x hx => by cases hx⟩, by simp, by simp⟩
theorem sameA_self (a : Ak) : sameA a a = true := sameA_iff.2 rfl

set_option maxRecDepth 100000 in
set_option maxHeartbeats 8000000 in
theorem AskTells_walk (a : Ak) (Aa : Option Addr) (ca : Nat) (Ba : Option Addr) (da : Nat) (o : Ak) (Ao : Option Addr) (co : Nat) (Bo : Option Addr) (do_ : Nat) (A : Option Addr) (n c : Nat) (l : List Nat) (w : World) (hRa : AkR w a Aa Ba) (hoa : a.ok) (hRo : AkR w o Ao Bo) (hoo : o.ok) (hA : Rd w A (bs l)) (hn : l.length = n) (hl : Bs l) (hnc : n ≤ c) :
    Calls Try.prog 4 #[a.v Aa ca Ba da, o.v Ao co Bo do_, .slice A n c] w fun e w' => e = .returned (.bool true) ∧ Below w.heap.size w w' := by
  have HN := Lib.hid hn
  clear hn
  have E1 := Lib.hid (fun W => low_Few Aa a.words.length ca Ba a.bits.length da W)
  have E2 := Lib.hid (fun W => low_Few Ao o.words.length co Bo o.bits.length do_ W)
  obtain ⟨f1, hf1⟩ : ∃ b, fewN a.words.length a.bits.length = b := ⟨_, rfl⟩
  obtain ⟨f2, hf2⟩ : ∃ b, fewN o.words.length o.bits.length = b := ⟨_, rfl⟩
  rw [hf1] at E1
  rw [hf2] at E2
  simp only [Ak.v, akV]
  have hb := ((Below.refl w.heap.size w).alloc (Nat.le_refl _) (.cells #[.int .u8 (a.fn : Int), .int .u16 (a.at_ : Int), .int .u16 (a.many : Int), .int .u16 (a.to_ : Int), .slice Aa a.words.length ca, .slice Ba a.bits.length da] 41)).alloc (by simp) (.cells #[.int .u8 (o.fn : Int), .int .u16 (o.at_ : Int), .int .u16 (o.many : Int), .int .u16 (o.to_ : Int), .slice Ao o.words.length co, .slice Bo o.bits.length do_] 41)
  have bx := (Blk.newAt w 41 #[.int .u8 (a.fn : Int), .int .u16 (a.at_ : Int), .int .u16 (a.many : Int), .int .u16 (a.to_ : Int), .slice Aa a.words.length ca, .slice Ba a.bits.length da] (w.heap.size) rfl).alloc (.cells #[.int .u8 (o.fn : Int), .int .u16 (o.at_ : Int), .int .u16 (o.many : Int), .int .u16 (o.to_ : Int), .slice Ao o.words.length co, .slice Bo o.bits.length do_] 41)
  have by_ := Blk.newAt (w.alloc (.cells #[.int .u8 (a.fn : Int), .int .u16 (a.at_ : Int), .int .u16 (a.many : Int), .int .u16 (a.to_ : Int), .slice Aa a.words.length ca, .slice Ba a.bits.length da] 41)) 41 #[.int .u8 (o.fn : Int), .int .u16 (o.at_ : Int), .int .u16 (o.many : Int), .int .u16 (o.to_ : Int), .slice Ao o.words.length co, .slice Bo o.bits.length do_] (w.heap.size + 1) (by simp [World.size_alloc])
  go_enter Try.func4, Try.ntmps4
  go_upto_region 1 with fail
  obtain ⟨gb, hgb⟩ : ∃ g, w.heap.size + 1 = g := ⟨_, rfl⟩
  rw [hgb] at by_ ⊢
  obtain ⟨ga, hga⟩ : ∃ g, w.heap.size = g := ⟨_, rfl⟩
  rw [hga] at bx ⊢
  generalize (w.alloc (.cells #[.int .u8 (a.fn : Int), .int .u16 (a.at_ : Int), .int .u16 (a.many : Int), .int .u16 (a.to_ : Int), .slice Aa a.words.length ca, .slice Ba a.bits.length da] 41)).alloc (.cells #[.int .u8 (o.fn : Int), .int .u16 (o.at_ : Int), .int .u16 (o.many : Int), .int .u16 (o.to_ : Int), .slice Ao o.words.length co, .slice Bo o.bits.length do_] 41) = w1 at *
  have hwga : w.heap.size ≤ ga := by omega
  have hwgb : w.heap.size ≤ gb := by omega
  clear hga hgb
  obtain ⟨p0, p1, p2, p3, p4, p5⟩ := bx.c6
  obtain ⟨q0, q1, q2, q3, q4, q5⟩ := by_.c6
  cases f1 with
  | false =>
    go_wp2_with fail
    refine (E1.out _).mono ?_
    rintro e wq ⟨rfl, rfl⟩
    go_wp2_with fail
    refine (ask_awake _).mono ?_
    rintro e wz ⟨rfl, hs⟩
    go_wp2_with fail
    go_ret
    exact ⟨rfl, bthen hb hs⟩
  | true =>
  cases f2 with
  | false =>
    go_wp2_with fail
    refine (E1.out _).mono ?_
    rintro e wq ⟨rfl, rfl⟩
    go_wp2_with fail
    refine (E2.out _).mono ?_
    rintro e wq ⟨rfl, rfl⟩
    go_wp2_with fail
    refine (ask_awake _).mono ?_
    rintro e wz ⟨rfl, hs⟩
    go_wp2_with fail
    go_ret
    exact ⟨rfl, bthen hb hs⟩
  | true =>
  obtain ⟨la1, la2⟩ := fewN_le hf1
  obtain ⟨lo1, lo2⟩ := fewN_le hf2
  clear hf1 hf2
  by_cases hbig : 300 < n
  · have v1 : decide ((300 : Int) < (n : Int)) = true := decide_eq_true (by omega)
    go_wp2_with fail
    refine (E1.out _).mono ?_
    rintro e wq ⟨rfl, rfl⟩
    go_wp2_with fail
    refine (E2.out _).mono ?_
    rintro e wq ⟨rfl, rfl⟩
    go_wp2_with fail
    refine (ask_awake _).mono ?_
    rintro e wz ⟨rfl, hs⟩
    go_wp2_with fail
    go_ret
    exact ⟨rfl, bthen hb hs⟩
  have v1 : decide ((300 : Int) < (n : Int)) = false := decide_eq_false (by omega)
  have hl0 : n ≤ 300 := by omega
  clear hbig
  go_wp2_with fail
  refine (E1.out _).mono ?_
  rintro e wq ⟨rfl, rfl⟩
  go_wp2_with fail
  refine (E2.out _).mono ?_
  rintro e wq ⟨rfl, rfl⟩
  clear E1 E2
  clear p0 p1 p2 p3 p4 p5
  clear q0 q1 q2 q3 q4 q5
  replace hRa := hRa.below hb
  replace hRo := hRo.below hb
  replace hA := hA.below hb
  have HE : Hid (bs [] = []) := rfl
  go_wp2_with (at_builtin; refine app_b rfl _ _ rfl w1 ((Below.refl _ _).alloc (Nat.le_refl _) _) _ _ _ [] rfl (Ow.lit _ _ _ [] (Nat.le_refl _) (Nat.zero_le _) HE.out rfl) rfl A n c l rfl (hA.alloc _) HN.out (by omega) ?_)
  intro A2 c2 w2 o2 hs hg
  clear hg HE
  replace bx := bx.all hs
  replace by_ := by_.all hs
  replace hRa := hRa.below hs
  replace hRo := hRo.below hs
  replace hA := hA.below hs
  replace hb := bthen hb hs
  clear hs
  have hnc2 : n ≤ c2 := by have := o2.le; rw [bs_length] at this; have := HN.out; simp at *; omega
  replace o2 := o2.rd
  (try rw [List.nil_append] at o2)
  go_upto_region 4 with fail
  (try rw [Nat.zero_add])
  obtain ⟨nx, hnx⟩ : ∃ k, (bytesN a).length = k := ⟨_, rfl⟩
  have HNX := Lib.hid hnx
  obtain ⟨er, her⟩ : ∃ k, errN a = k := ⟨_, rfl⟩
  obtain ⟨rt, hrt⟩ : ∃ k, rightN a.fn a.many a.to_ a.words.length a.bits.length = k := ⟨_, rfl⟩
  obtain ⟨sm, hsm⟩ : ∃ k, sameA a o = k := ⟨_, rfl⟩
  have F1 := Lib.hid (fun W (h : AkR W a Aa Ba) => ask_Bytes a Aa ca Ba da W h hoa (by omega) (by omega))
  have F2 := Lib.hid (fun W (h : AkR W a Aa Ba) => ref_Bytes a Aa ca Ba da W h hoa (by omega) (by omega))
  have G1 := Lib.hid (fun W => ask_Right a.fn a.at_ a.many a.to_ Aa a.words.length ca Ba a.bits.length da W hoa.fn hoa.many hoa.to_ (by omega) (by omega))
  have G2 := Lib.hid (fun W => ref_Right a.fn a.at_ a.many a.to_ Aa a.words.length ca Ba a.bits.length da W hoa.many (by omega) (by omega))
  have S1 := Lib.hid (fun W (h1 : AkR W a Aa Ba) (h2 : AkR W o Ao Bo) => ask_Same a o Aa ca Ba da Ao co Bo do_ W h1 h2 (by omega) (by omega))
  have S2 := Lib.hid (fun W (h1 : AkR W a Aa Ba) (h2 : AkR W o Ao Bo) => ref_Same a o Aa ca Ba da Ao co Bo do_ W h1 h2 (by omega) (by omega))
  rw [hrt] at G1 G2
  rw [hsm] at S1 S2
  have hBx : Bs (bytesN a) := by
    by_cases h : rightA a = true
    · exact bytesA_Bs hoa h
    · unfold bytesN; rw [if_neg h]; intro x hx; cases hx
  simp only [her, hnx] at F1 F2
  simp only [Ak.v, akV] at F1 F2 S1 S2
  unfold akV at G1 G2
  clear hnx her hrt hsm
  obtain ⟨p0, p1, p2, p3, p4, p5⟩ := bx.c6
  go_wp2_with fail
  refine (F1.out _ hRa).mono ?_
  rintro e w3 ⟨A3, c3, rfl, o3, hs⟩
  clear p0 p1 p2 p3 p4 p5
  replace bx := bx.all hs
  replace by_ := by_.all hs
  replace hRa := hRa.below hs
  replace hRo := hRo.below hs
  replace hA := hA.below hs
  replace o2 := o2.below hs
  replace hb := bthen hb hs
  clear hs
  obtain ⟨p0, p1, p2, p3, p4, p5⟩ := bx.c6
  replace o3 := o3.rd
  go_wp2_with fail
  refine (F2.out _ hRa).mono ?_
  rintro e w4 ⟨A4, c4, rfl, o4, hs⟩
  clear p0 p1 p2 p3 p4 p5
  replace bx := bx.all hs
  replace by_ := by_.all hs
  replace hRa := hRa.below hs
  replace hRo := hRo.below hs
  replace hA := hA.below hs
  replace o2 := o2.below hs
  replace o3 := o3.below hs
  replace hb := bthen hb hs
  clear hs
  obtain ⟨p0, p1, p2, p3, p4, p5⟩ := bx.c6
  replace o4 := o4.rd
  clear F1 F2
  clear p0 p1 p2 p3 p4 p5
  have L1 := Lib.hid (fun W (h1 : Rd W A3 (bs (bytesN a))) (h2 : Rd W A4 (bs (bytesN a))) => low_Same A3 A4 nx c3 nx c4 (bytesN a) (bytesN a) W h1 h2 hBx hBx HNX.out HNX.out)
  rw [sameB_self] at L1
  go_upto_region 6 with fail
  have hs := (Below.refl w4.heap.size w4).drew
  replace bx := bx.all hs
  replace by_ := by_.all hs
  replace hRa := hRa.below hs
  replace hRo := hRo.below hs
  replace hA := hA.below hs
  replace o2 := o2.below hs
  replace o3 := o3.below hs
  replace o4 := o4.below hs
  replace hb := bthen hb hs
  clear hs
  refine wp_region_held_drew (S := fun W => W.cell? ⟨ga, 0, none⟩ = some (.int .u8 (a.fn : Int)) ∧ W.cell? ⟨ga, 1, none⟩ = some (.int .u16 (a.at_ : Int)) ∧ W.cell? ⟨ga, 2, none⟩ = some (.int .u16 (a.many : Int)) ∧ W.cell? ⟨ga, 3, none⟩ = some (.int .u16 (a.to_ : Int)) ∧ W.cell? ⟨ga, 4, none⟩ = some (.slice Aa a.words.length ca) ∧ W.cell? ⟨ga, 5, none⟩ = some (.slice Ba a.bits.length da) ∧ W.cell? ⟨gb, 0, none⟩ = some (.int .u8 (o.fn : Int)) ∧ W.cell? ⟨gb, 1, none⟩ = some (.int .u16 (o.at_ : Int)) ∧ W.cell? ⟨gb, 2, none⟩ = some (.int .u16 (o.many : Int)) ∧ W.cell? ⟨gb, 3, none⟩ = some (.int .u16 (o.to_ : Int)) ∧ W.cell? ⟨gb, 4, none⟩ = some (.slice Ao o.words.length co) ∧ W.cell? ⟨gb, 5, none⟩ = some (.slice Bo o.bits.length do_)) (by kernel_rfl) ?_ (fun hHeld => ?_)
  · exact ⟨bx.cell 0, bx.cell 1, bx.cell 2, bx.cell 3, bx.cell 4, bx.cell 5, by_.cell 0, by_.cell 1, by_.cell 2, by_.cell 3, by_.cell 4, by_.cell 5⟩
  generalize w4.drew = w5 at *
  refine takeRun (i := 0) (v := ?_) rfl (by kernel_rfl) (by kernel_rfl) (by kernel_rfl) (fun _ _ _ h => h) rfl ?_ (by assumption) ?_
  rotate_left
  · (intro w hSw; (try dsimp only at hSw); go_simp; (try with_reducible rfl))
  try simp only [Act.put, List.setIfInBounds_toArray, List.set_cons_zero, List.set_cons_succ]
  refine takeRun (i := 2) (v := ?_) rfl (by kernel_rfl) (by kernel_rfl) (by kernel_rfl) (fun _ _ _ h => h) rfl ?_ (by assumption) ?_
  rotate_left
  · (intro w hSw; (try dsimp only at hSw); go_simp; (try with_reducible rfl))
  try simp only [Act.put, List.setIfInBounds_toArray, List.set_cons_zero, List.set_cons_succ]
  refine goOne (i := 1) (by kernel_rfl) rfl (fun K hK => ?_)
  go_simp
  refine (G1.out _).mono ?_
  rintro e w6 ⟨rfl, hs⟩
  replace bx := bx.all hs
  replace by_ := by_.all hs
  replace hRa := hRa.below hs
  replace hRo := hRo.below hs
  replace hA := hA.below hs
  replace o2 := o2.below hs
  replace o3 := o3.below hs
  replace o4 := o4.below hs
  replace hb := bthen hb hs
  clear hs
  go_wp2_with fail
  refine hK.out _ _ ?_ (fun hHeld => ?_)
  · exact ⟨bx.cell 0, bx.cell 1, bx.cell 2, bx.cell 3, bx.cell 4, bx.cell 5, by_.cell 0, by_.cell 1, by_.cell 2, by_.cell 3, by_.cell 4, by_.cell 5⟩
  clear hK K
  try simp only [Act.put, List.setIfInBounds_toArray, List.set_cons_zero, List.set_cons_succ]
  refine goOne (i := 3) (by kernel_rfl) rfl (fun K hK => ?_)
  go_simp
  refine (G2.out _).mono ?_
  rintro e w7 ⟨rfl, hs⟩
  replace bx := bx.all hs
  replace by_ := by_.all hs
  replace hRa := hRa.below hs
  replace hRo := hRo.below hs
  replace hA := hA.below hs
  replace o2 := o2.below hs
  replace o3 := o3.below hs
  replace o4 := o4.below hs
  replace hb := bthen hb hs
  clear hs
  go_wp2_with fail
  refine hK.out _ _ ?_ (fun hHeld => ?_)
  · exact ⟨bx.cell 0, bx.cell 1, bx.cell 2, bx.cell 3, bx.cell 4, bx.cell 5, by_.cell 0, by_.cell 1, by_.cell 2, by_.cell 3, by_.cell 4, by_.cell 5⟩
  clear hK K
  try simp only [Act.put, List.setIfInBounds_toArray, List.set_cons_zero, List.set_cons_succ]
  refine takeRun (i := 4) (v := ?_) rfl (by kernel_rfl) (by kernel_rfl) (by kernel_rfl) (fun _ _ _ h => h) rfl ?_ (by assumption) ?_
  rotate_left
  · (intro w hSw; (try dsimp only at hSw); go_simp; (try with_reducible rfl))
  try simp only [Act.put, List.setIfInBounds_toArray, List.set_cons_zero, List.set_cons_succ]
  refine takeRun (i := 5) (v := ?_) rfl (by kernel_rfl) (by kernel_rfl) (by kernel_rfl) (fun _ _ _ h => h) rfl ?_ (by assumption) ?_
  rotate_left
  · (intro w hSw; (try dsimp only at hSw); go_simp; (try with_reducible rfl))
  try simp only [Act.put, List.setIfInBounds_toArray, List.set_cons_zero, List.set_cons_succ]
  refine takeRun (i := 6) (v := ?_) rfl (by kernel_rfl) (by kernel_rfl) (by kernel_rfl) (fun _ _ _ h => h) rfl ?_ (by assumption) ?_
  rotate_left
  · (intro w hSw; (try dsimp only at hSw); go_simp; (try with_reducible rfl))
  try simp only [Act.put, List.setIfInBounds_toArray, List.set_cons_zero, List.set_cons_succ]
  refine takeRun (i := 7) (v := ?_) rfl (by kernel_rfl) (by kernel_rfl) (by kernel_rfl) (fun _ _ _ h => h) rfl ?_ (by assumption) ?_
  rotate_left
  · (intro w hSw; (try dsimp only at hSw); go_simp; (try with_reducible rfl))
  try simp only [Act.put, List.setIfInBounds_toArray, List.set_cons_zero, List.set_cons_succ]
  refine takeRun (i := 9) (v := ?_) rfl (by kernel_rfl) (by kernel_rfl) (by kernel_rfl) (fun _ _ _ h => h) rfl ?_ (by assumption) ?_
  rotate_left
  · (intro w hSw; (try dsimp only at hSw); go_simp; (try with_reducible rfl))
  try simp only [Act.put, List.setIfInBounds_toArray, List.set_cons_zero, List.set_cons_succ]
  refine takeRun (i := 10) (v := ?_) rfl (by kernel_rfl) (by kernel_rfl) (by kernel_rfl) (fun _ _ _ h => h) rfl ?_ (by assumption) ?_
  rotate_left
  · (intro w hSw; (try dsimp only at hSw); go_simp; (try with_reducible rfl))
  try simp only [Act.put, List.setIfInBounds_toArray, List.set_cons_zero, List.set_cons_succ]
  refine goOne (i := 8) (by kernel_rfl) rfl (fun K hK => ?_)
  go_simp
  refine (S1.out _ hRa hRo).mono ?_
  rintro e w8 ⟨rfl, hs⟩
  replace bx := bx.all hs
  replace by_ := by_.all hs
  replace hRa := hRa.below hs
  replace hRo := hRo.below hs
  replace hA := hA.below hs
  replace o2 := o2.below hs
  replace o3 := o3.below hs
  replace o4 := o4.below hs
  replace hb := bthen hb hs
  clear hs
  go_wp2_with fail
  refine hK.out _ _ ?_ (fun hHeld => ?_)
  · exact ⟨bx.cell 0, bx.cell 1, bx.cell 2, bx.cell 3, bx.cell 4, bx.cell 5, by_.cell 0, by_.cell 1, by_.cell 2, by_.cell 3, by_.cell 4, by_.cell 5⟩
  clear hK K
  try simp only [Act.put, List.setIfInBounds_toArray, List.set_cons_zero, List.set_cons_succ]
  refine goOne (i := 11) (by kernel_rfl) rfl (fun K hK => ?_)
  go_simp
  refine (S2.out _ hRa hRo).mono ?_
  rintro e w9 ⟨rfl, hs⟩
  replace bx := bx.all hs
  replace by_ := by_.all hs
  replace hRa := hRa.below hs
  replace hRo := hRo.below hs
  replace hA := hA.below hs
  replace o2 := o2.below hs
  replace o3 := o3.below hs
  replace o4 := o4.below hs
  replace hb := bthen hb hs
  clear hs
  go_wp2_with fail
  refine hK.out _ _ ?_ (fun hHeld => ?_)
  · exact ⟨bx.cell 0, bx.cell 1, bx.cell 2, bx.cell 3, bx.cell 4, bx.cell 5, by_.cell 0, by_.cell 1, by_.cell 2, by_.cell 3, by_.cell 4, by_.cell 5⟩
  clear hK K
  try simp only [Act.put, List.setIfInBounds_toArray, List.set_cons_zero, List.set_cons_succ]
  refine takeRun (i := 12) (v := ?_) rfl (by kernel_rfl) (by kernel_rfl) (by kernel_rfl) (fun _ _ _ h => h) rfl ?_ (by assumption) ?_
  rotate_left
  · (intro w hSw; (try dsimp only at hSw); go_simp; (try with_reducible rfl))
  try simp only [Act.put, List.setIfInBounds_toArray, List.set_cons_zero, List.set_cons_succ]
  refine takeRun (i := 13) (v := ?_) rfl (by kernel_rfl) (by kernel_rfl) (by kernel_rfl) (fun _ _ _ h => h) rfl ?_ (by assumption) ?_
  rotate_left
  · (intro w hSw; (try dsimp only at hSw); go_simp; (try with_reducible rfl))
  try simp only [Act.put, List.setIfInBounds_toArray, List.set_cons_zero, List.set_cons_succ]
  refine takeRun (i := 14) (v := ?_) rfl (by kernel_rfl) (by kernel_rfl) (by kernel_rfl) (fun _ _ _ h => h) rfl ?_ (by assumption) ?_
  rotate_left
  · (intro w hSw; (try dsimp only at hSw); go_simp; (try with_reducible rfl))
  try simp only [Act.put, List.setIfInBounds_toArray, List.set_cons_zero, List.set_cons_succ]
  refine takeRun (i := 15) (v := ?_) rfl (by kernel_rfl) (by kernel_rfl) (by kernel_rfl) (fun _ _ _ h => h) rfl ?_ (by assumption) ?_
  rotate_left
  · (intro w hSw; (try dsimp only at hSw); go_simp; (try with_reducible rfl))
  try simp only [Act.put, List.setIfInBounds_toArray, List.set_cons_zero, List.set_cons_succ]
  refine takeRun (i := 16) (v := ?_) rfl (by kernel_rfl) (by kernel_rfl) (by kernel_rfl) (fun _ _ _ h => h) rfl ?_ (by assumption) ?_
  rotate_left
  · (intro w hSw; (try dsimp only at hSw); go_simp; (try with_reducible rfl))
  try simp only [Act.put, List.setIfInBounds_toArray, List.set_cons_zero, List.set_cons_succ]
  refine takeRun (i := 17) (v := ?_) rfl (by kernel_rfl) (by kernel_rfl) (by kernel_rfl) (fun _ _ _ h => h) rfl ?_ (by assumption) ?_
  rotate_left
  · (intro w hSw; (try dsimp only at hSw); go_simp; (try with_reducible rfl))
  try simp only [Act.put, List.setIfInBounds_toArray, List.set_cons_zero, List.set_cons_succ]
  refine takeRun (i := 18) (v := ?_) rfl (by kernel_rfl) (by kernel_rfl) (by kernel_rfl) (fun _ _ _ h => h) rfl ?_ (by assumption) ?_
  rotate_left
  · (intro w hSw; (try dsimp only at hSw); go_simp; (try with_reducible rfl))
  try simp only [Act.put, List.setIfInBounds_toArray, List.set_cons_zero, List.set_cons_succ]
  refine takeRun (i := 19) (v := ?_) rfl (by kernel_rfl) (by kernel_rfl) (by kernel_rfl) (fun _ _ _ h => h) rfl ?_ (by assumption) ?_
  rotate_left
  · (intro w hSw; (try dsimp only at hSw); go_simp; (try with_reducible rfl))
  try simp only [Act.put, List.setIfInBounds_toArray, List.set_cons_zero, List.set_cons_succ]
  refine takeRun (i := 20) (v := ?_) rfl (by kernel_rfl) (by kernel_rfl) (by kernel_rfl) (fun _ _ _ h => h) rfl ?_ (by assumption) ?_
  rotate_left
  · (intro w hSw; (try dsimp only at hSw); go_simp; (try with_reducible rfl))
  try simp only [Act.put, List.setIfInBounds_toArray, List.set_cons_zero, List.set_cons_succ]
  refine takeRun (i := 21) (v := ?_) rfl (by kernel_rfl) (by kernel_rfl) (by kernel_rfl) (fun _ _ _ h => h) rfl ?_ (by assumption) ?_
  rotate_left
  · (intro w hSw; (try dsimp only at hSw); go_simp; (try with_reducible rfl))
  try simp only [Act.put, List.setIfInBounds_toArray, List.set_cons_zero, List.set_cons_succ]
  refine goOne (i := 22) (by kernel_rfl) rfl (fun K hK => ?_)
  go_simp
  refine (L1.out _ o3 o4).mono ?_
  rintro e wq ⟨rfl, rfl⟩
  go_wp2_with fail
  refine hK.out _ _ ?_ (fun hHeld => ?_)
  · exact ⟨bx.cell 0, bx.cell 1, bx.cell 2, bx.cell 3, bx.cell 4, bx.cell 5, by_.cell 0, by_.cell 1, by_.cell 2, by_.cell 3, by_.cell 4, by_.cell 5⟩
  clear hK K
  try simp only [Act.put, List.setIfInBounds_toArray, List.set_cons_zero, List.set_cons_succ]
  refine takeRun (i := 23) (v := ?_) rfl (by kernel_rfl) (by kernel_rfl) (by kernel_rfl) (fun _ _ _ h => h) rfl ?_ (by assumption) ?_
  rotate_left
  · (intro w hSw; (try dsimp only at hSw); go_simp; (try with_reducible rfl))
  try simp only [Act.put, List.setIfInBounds_toArray, List.set_cons_zero, List.set_cons_succ]
  refine takeRun (i := 24) (v := ?_) rfl (by kernel_rfl) (by kernel_rfl) (by kernel_rfl) (fun _ _ _ h => h) rfl ?_ (by assumption) ?_
  rotate_left
  · (intro w hSw; (try dsimp only at hSw); go_simp; (try with_reducible rfl))
  try simp only [Act.put, List.setIfInBounds_toArray, List.set_cons_zero, List.set_cons_succ]
  refine wpAnyH_done (by kernel_rfl) ?_ _
  clear G1 G2 S1 S2 L1
  clear o3 o4 by_ hRo
  obtain ⟨x, hx⟩ : ∃ x, (parseA l).getD Ak.zero = x := ⟨_, rfl⟩
  obtain ⟨ep, hep⟩ : ∃ k, (if (parseA l).isSome then 0 else 12 : Nat) = k := ⟨_, rfl⟩
  have hxs := parse_small hl
  rw [hx] at hxs
  have hxw := hxs.words
  have hxk := hxs.bits
  have P1 := Lib.hid (fun W h => (ask_Parse A2 n c2 l W h HN.out hl hnc2 (by omega)).mono fun e w' (hT : Told W (parseA l) (.int .i64 0) (.int .i64 12) e w') => hT.any)
  have P2 := Lib.hid (fun W h => (ref_Parse A n c l W h HN.out hl hnc (by omega)).mono fun e w' (hT : Told W (parseA l) (.int .i64 0) (.int .i64 12) e w') => hT.any)
  simp only [hx, hep] at P1 P2
  simp only [Ak.v, akV] at P1 P2
  obtain ⟨y, hy⟩ : ∃ y, (lookA l).1 = y := ⟨_, rfl⟩
  obtain ⟨el, hel⟩ : ∃ k, (lookA l).2 = k := ⟨_, rfl⟩
  have hys := look_small hl
  rw [hy] at hys
  have hyw := hys.words
  have hyk := hys.bits
  have Q1 := Lib.hid (fun W h => ask_Look A2 n c2 l W h HN.out hl hnc2 (by omega))
  have Q2 := Lib.hid (fun W h => ref_Look A n c l W h HN.out hl hnc (by omega))
  simp only [hy, hel] at Q1 Q2
  simp only [Told, Ak.v, akV] at Q1 Q2
  clear hx hep hy hel
  go_wp2_with fail
  refine (P1.out _ o2).mono ?_
  rintro e w10 ⟨A5, c5, B5, d5, rfl, ⟨rw5, rb5⟩, hs⟩
  replace bx := bx.all hs
  replace hRa := hRa.below hs
  replace hA := hA.below hs
  replace o2 := o2.below hs
  replace hb := bthen hb hs
  clear hs
  go_upto_region 9 with fail
  have bk5 := Blk.new w10 41 #[.int .u8 (x.fn : Int), .int .u16 (x.at_ : Int), .int .u16 (x.many : Int), .int .u16 (x.to_ : Int), .slice A5 x.words.length c5, .slice B5 x.bits.length d5]
  have hs := (Below.refl w10.heap.size w10).alloc (Nat.le_refl _) (.cells #[.int .u8 (x.fn : Int), .int .u16 (x.at_ : Int), .int .u16 (x.many : Int), .int .u16 (x.to_ : Int), .slice A5 x.words.length c5, .slice B5 x.bits.length d5] 41)
  generalize w10.alloc (.cells #[.int .u8 (x.fn : Int), .int .u16 (x.at_ : Int), .int .u16 (x.many : Int), .int .u16 (x.to_ : Int), .slice A5 x.words.length c5, .slice B5 x.bits.length d5] 41) = w11 at *
  obtain ⟨g5, hg5⟩ : ∃ g, w10.heap.size = g := ⟨_, rfl⟩
  have g5lt : w10.heap.size ≤ g5 := by omega
  replace bx := bx.all hs
  replace hRa := hRa.below hs
  replace hA := hA.below hs
  replace o2 := o2.below hs
  replace rw5 := rw5.below hs
  replace rb5 := rb5.below hs
  replace hb := bthen hb hs
  clear hs
  rw [hg5] at bk5 ⊢
  clear hg5 g5lt
  go_wp2_with fail
  refine (P2.out _ hA).mono ?_
  rintro e w12 ⟨A6, c6, B6, d6, rfl, ⟨rw6, rb6⟩, hs⟩
  replace bx := bx.all hs
  replace hRa := hRa.below hs
  replace hA := hA.below hs
  replace o2 := o2.below hs
  replace rw5 := rw5.below hs
  replace rb5 := rb5.below hs
  replace bk5 := bk5.all hs
  replace hb := bthen hb hs
  clear hs
  go_upto_region 10 with fail
  have bk6 := Blk.new w12 41 #[.int .u8 (x.fn : Int), .int .u16 (x.at_ : Int), .int .u16 (x.many : Int), .int .u16 (x.to_ : Int), .slice A6 x.words.length c6, .slice B6 x.bits.length d6]
  have hs := (Below.refl w12.heap.size w12).alloc (Nat.le_refl _) (.cells #[.int .u8 (x.fn : Int), .int .u16 (x.at_ : Int), .int .u16 (x.many : Int), .int .u16 (x.to_ : Int), .slice A6 x.words.length c6, .slice B6 x.bits.length d6] 41)
  generalize w12.alloc (.cells #[.int .u8 (x.fn : Int), .int .u16 (x.at_ : Int), .int .u16 (x.many : Int), .int .u16 (x.to_ : Int), .slice A6 x.words.length c6, .slice B6 x.bits.length d6] 41) = w13 at *
  obtain ⟨g6, hg6⟩ : ∃ g, w12.heap.size = g := ⟨_, rfl⟩
  have g6lt : w12.heap.size ≤ g6 := by omega
  replace bx := bx.all hs
  replace hRa := hRa.below hs
  replace hA := hA.below hs
  replace o2 := o2.below hs
  replace rw5 := rw5.below hs
  replace rb5 := rb5.below hs
  replace bk5 := bk5.all hs
  replace rw6 := rw6.below hs
  replace rb6 := rb6.below hs
  replace hb := bthen hb hs
  clear hs
  rw [hg6] at bk6 ⊢
  clear hg6 g6lt
  go_wp2_with fail
  refine (Q1.out _ o2).mono ?_
  rintro e w14 ⟨A7, c7, B7, d7, rfl, rw7, rb7, hs⟩
  replace bx := bx.all hs
  replace hRa := hRa.below hs
  replace hA := hA.below hs
  replace o2 := o2.below hs
  replace rw5 := rw5.below hs
  replace rb5 := rb5.below hs
  replace bk5 := bk5.all hs
  replace rw6 := rw6.below hs
  replace rb6 := rb6.below hs
  replace bk6 := bk6.all hs
  replace hb := bthen hb hs
  clear hs
  go_upto_region 11 with fail
  have bk7 := Blk.new w14 41 #[.int .u8 (y.fn : Int), .int .u16 (y.at_ : Int), .int .u16 (y.many : Int), .int .u16 (y.to_ : Int), .slice A7 y.words.length c7, .slice B7 y.bits.length d7]
  have hs := (Below.refl w14.heap.size w14).alloc (Nat.le_refl _) (.cells #[.int .u8 (y.fn : Int), .int .u16 (y.at_ : Int), .int .u16 (y.many : Int), .int .u16 (y.to_ : Int), .slice A7 y.words.length c7, .slice B7 y.bits.length d7] 41)
  generalize w14.alloc (.cells #[.int .u8 (y.fn : Int), .int .u16 (y.at_ : Int), .int .u16 (y.many : Int), .int .u16 (y.to_ : Int), .slice A7 y.words.length c7, .slice B7 y.bits.length d7] 41) = w15 at *
  obtain ⟨g7, hg7⟩ : ∃ g, w14.heap.size = g := ⟨_, rfl⟩
  have g7lt : w14.heap.size ≤ g7 := by omega
  replace bx := bx.all hs
  replace hRa := hRa.below hs
  replace hA := hA.below hs
  replace o2 := o2.below hs
  replace rw5 := rw5.below hs
  replace rb5 := rb5.below hs
  replace bk5 := bk5.all hs
  replace rw6 := rw6.below hs
  replace rb6 := rb6.below hs
  replace bk6 := bk6.all hs
  replace rw7 := rw7.below hs
  replace rb7 := rb7.below hs
  replace hb := bthen hb hs
  clear hs
  rw [hg7] at bk7 ⊢
  clear hg7 g7lt
  go_wp2_with fail
  refine (Q2.out _ hA).mono ?_
  rintro e w16 ⟨A8, c8, B8, d8, rfl, rw8, rb8, hs⟩
  replace bx := bx.all hs
  replace hRa := hRa.below hs
  replace hA := hA.below hs
  replace o2 := o2.below hs
  replace rw5 := rw5.below hs
  replace rb5 := rb5.below hs
  replace bk5 := bk5.all hs
  replace rw6 := rw6.below hs
  replace rb6 := rb6.below hs
  replace bk6 := bk6.all hs
  replace rw7 := rw7.below hs
  replace rb7 := rb7.below hs
  replace bk7 := bk7.all hs
  replace hb := bthen hb hs
  clear hs
  go_upto_region 12 with fail
  have bk8 := Blk.new w16 41 #[.int .u8 (y.fn : Int), .int .u16 (y.at_ : Int), .int .u16 (y.many : Int), .int .u16 (y.to_ : Int), .slice A8 y.words.length c8, .slice B8 y.bits.length d8]
  have hs := (Below.refl w16.heap.size w16).alloc (Nat.le_refl _) (.cells #[.int .u8 (y.fn : Int), .int .u16 (y.at_ : Int), .int .u16 (y.many : Int), .int .u16 (y.to_ : Int), .slice A8 y.words.length c8, .slice B8 y.bits.length d8] 41)
  generalize w16.alloc (.cells #[.int .u8 (y.fn : Int), .int .u16 (y.at_ : Int), .int .u16 (y.many : Int), .int .u16 (y.to_ : Int), .slice A8 y.words.length c8, .slice B8 y.bits.length d8] 41) = w17 at *
  obtain ⟨g8, hg8⟩ : ∃ g, w16.heap.size = g := ⟨_, rfl⟩
  have g8lt : w16.heap.size ≤ g8 := by omega
  replace bx := bx.all hs
  replace hRa := hRa.below hs
  replace hA := hA.below hs
  replace o2 := o2.below hs
  replace rw5 := rw5.below hs
  replace rb5 := rb5.below hs
  replace bk5 := bk5.all hs
  replace rw6 := rw6.below hs
  replace rb6 := rb6.below hs
  replace bk6 := bk6.all hs
  replace rw7 := rw7.below hs
  replace rb7 := rb7.below hs
  replace bk7 := bk7.all hs
  replace rw8 := rw8.below hs
  replace rb8 := rb8.below hs
  replace hb := bthen hb hs
  clear hs
  rw [hg8] at bk8 ⊢
  clear hg8 g8lt
  clear P1 P2 Q1 Q2
  have T1 := Lib.hid (fun W h1 h2 => ref_Same x x A5 c5 B5 d5 A6 c6 B6 d6 W h1 h2 (by omega) (by omega))
  have T2 := Lib.hid (fun W h1 h2 => ref_Same y y A7 c7 B7 d7 A8 c8 B8 d8 W h1 h2 (by omega) (by omega))
  rw [sameA_self] at T1 T2
  simp only [Ak.v, akV] at T1 T2
  obtain ⟨m50, m51, m52, m53, m54, m55⟩ := bk5.c6
  obtain ⟨m60, m61, m62, m63, m64, m65⟩ := bk6.c6
  obtain ⟨m70, m71, m72, m73, m74, m75⟩ := bk7.c6
  obtain ⟨m80, m81, m82, m83, m84, m85⟩ := bk8.c6
  go_wp2_with fail
  refine (T1.out _ ⟨rw5.rd, rb5.rd⟩ ⟨rw6.rd, rb6.rd⟩).mono ?_
  rintro e w18 ⟨rfl, hs⟩
  clear m50 m51 m52 m53 m54 m55
  clear m60 m61 m62 m63 m64 m65
  clear m70 m71 m72 m73 m74 m75
  clear m80 m81 m82 m83 m84 m85
  replace bx := bx.all hs
  replace hRa := hRa.below hs
  replace hA := hA.below hs
  replace o2 := o2.below hs
  replace rw5 := rw5.below hs
  replace rb5 := rb5.below hs
  replace bk5 := bk5.all hs
  replace rw6 := rw6.below hs
  replace rb6 := rb6.below hs
  replace bk6 := bk6.all hs
  replace rw7 := rw7.below hs
  replace rb7 := rb7.below hs
  replace bk7 := bk7.all hs
  replace rw8 := rw8.below hs
  replace rb8 := rb8.below hs
  replace bk8 := bk8.all hs
  replace hb := bthen hb hs
  clear hs
  obtain ⟨m50, m51, m52, m53, m54, m55⟩ := bk5.c6
  obtain ⟨m60, m61, m62, m63, m64, m65⟩ := bk6.c6
  obtain ⟨m70, m71, m72, m73, m74, m75⟩ := bk7.c6
  obtain ⟨m80, m81, m82, m83, m84, m85⟩ := bk8.c6
  go_wp2_with fail
  refine (T2.out _ ⟨rw7.rd, rb7.rd⟩ ⟨rw8.rd, rb8.rd⟩).mono ?_
  rintro e w19 ⟨rfl, hs⟩
  clear m50 m51 m52 m53 m54 m55
  clear m60 m61 m62 m63 m64 m65
  clear m70 m71 m72 m73 m74 m75
  clear m80 m81 m82 m83 m84 m85
  replace bx := bx.all hs
  replace hRa := hRa.below hs
  replace hA := hA.below hs
  replace o2 := o2.below hs
  replace rw5 := rw5.below hs
  replace rb5 := rb5.below hs
  replace bk5 := bk5.all hs
  replace rw6 := rw6.below hs
  replace rb6 := rb6.below hs
  replace bk6 := bk6.all hs
  replace rw7 := rw7.below hs
  replace rb7 := rb7.below hs
  replace bk7 := bk7.all hs
  replace rw8 := rw8.below hs
  replace rb8 := rb8.below hs
  replace bk8 := bk8.all hs
  replace hb := bthen hb hs
  clear hs
  obtain ⟨m50, m51, m52, m53, m54, m55⟩ := bk5.c6
  obtain ⟨m60, m61, m62, m63, m64, m65⟩ := bk6.c6
  obtain ⟨m70, m71, m72, m73, m74, m75⟩ := bk7.c6
  obtain ⟨m80, m81, m82, m83, m84, m85⟩ := bk8.c6
  clear T1 T2
  clear m50 m51 m52 m53 m54 m55
  clear m60 m61 m62 m63 m64 m65
  clear m70 m71 m72 m73 m74 m75
  clear m80 m81 m82 m83 m84 m85
  clear rw5 rb5 bk5 rw6 rb6 bk6 rw7 rb7 bk7 rw8 rb8 bk8
  obtain ⟨na, hna⟩ : ∃ k, a.bits.length = k := ⟨_, rfl⟩
  obtain ⟨np, hnp⟩ : ∃ k, (na + 7) / 8 = k := ⟨_, rfl⟩
  have HPL : Hid ((pk a.bits).length = np) := by (show _ = _); rw [pk_length, hna, hnp]
  have K1 := Lib.hid (fun W h => ask_Pack Ba a.bits.length da a.bits W h rfl (by omega))
  have K2 := Lib.hid (fun W h => ref_Pack Ba a.bits.length da a.bits W h rfl (by omega))
  have K3 := Lib.hid (fun W A3 c3 A4 c4 (h1 : Rd W A3 (bs (pk a.bits))) (h2 : Rd W A4 (bs (pk a.bits))) => low_Same A3 A4 np c3 np c4 (pk a.bits) (pk a.bits) W h1 h2 (pk_Bs _) (pk_Bs _) HPL.out HPL.out)
  rw [sameB_self] at K3
  simp only [hna, hnp] at K1 K2
  rw [hna] at bx
  obtain ⟨nu, hnu⟩ : ∃ k, 8 * n = k := ⟨_, rfl⟩
  have HUL : Hid ((unpk l).length = nu) := by (show _ = _); rw [unpk_length, HN.out, hnu]
  have U1 := Lib.hid (fun W h => ask_Unpack A2 n c2 l W h HN.out hl (by omega))
  have U2 := Lib.hid (fun W h => ref_Unpack A n c l W h HN.out hl (by omega))
  have U3 := Lib.hid (fun W A3 c3 A4 c4 (h1 : Rd W A3 (os (unpk l))) (h2 : Rd W A4 (os (unpk l))) => low_Bits A3 A4 nu c3 nu c4 (unpk l) (unpk l) W h1 h2 HUL.out HUL.out (by omega))
  rw [sameO_self] at U3
  simp only [hnu] at U1 U2
  have U4 := Lib.hid (fun W h1 h2 => low_Same A2 A n c2 n c l l W h1 h2 hl hl HN.out HN.out)
  rw [sameB_self] at U4
  have awk := Lib.hid ask_awake
  clear hna hnp hnu
  go_upto_region 14 with fail
  have hs := (Below.refl w19.heap.size w19).drew
  replace bx := bx.all hs
  replace hRa := hRa.below hs
  replace hA := hA.below hs
  replace o2 := o2.below hs
  replace hb := bthen hb hs
  clear hs
  refine wp_region_held_drew (S := fun W => W.cell? ⟨ga, 0, none⟩ = some (.int .u8 (a.fn : Int)) ∧ W.cell? ⟨ga, 1, none⟩ = some (.int .u16 (a.at_ : Int)) ∧ W.cell? ⟨ga, 2, none⟩ = some (.int .u16 (a.many : Int)) ∧ W.cell? ⟨ga, 3, none⟩ = some (.int .u16 (a.to_ : Int)) ∧ W.cell? ⟨ga, 4, none⟩ = some (.slice Aa a.words.length ca) ∧ W.cell? ⟨ga, 5, none⟩ = some (.slice Ba na da)) (by kernel_rfl) ?_ (fun hHeld => ?_)
  · exact ⟨bx.cell 0, bx.cell 1, bx.cell 2, bx.cell 3, bx.cell 4, bx.cell 5⟩
  generalize w19.drew = w20 at *
  refine takeRun (i := 0) (v := ?_) rfl (by kernel_rfl) (by kernel_rfl) (by kernel_rfl) (fun _ _ _ h => h) rfl ?_ (by assumption) ?_
  rotate_left
  · (intro w hSw; (try dsimp only at hSw); go_simp; (try with_reducible rfl))
  try simp only [Act.put, List.setIfInBounds_toArray, List.set_cons_zero, List.set_cons_succ]
  refine takeRun (i := 1) (v := ?_) rfl (by kernel_rfl) (by kernel_rfl) (by kernel_rfl) (fun _ _ _ h => h) rfl ?_ (by assumption) ?_
  rotate_left
  · (intro w hSw; (try dsimp only at hSw); go_simp; (try with_reducible rfl))
  try simp only [Act.put, List.setIfInBounds_toArray, List.set_cons_zero, List.set_cons_succ]
  refine takeRun (i := 3) (v := ?_) rfl (by kernel_rfl) (by kernel_rfl) (by kernel_rfl) (fun _ _ _ h => h) rfl ?_ (by assumption) ?_
  rotate_left
  · (intro w hSw; (try dsimp only at hSw); go_simp; (try with_reducible rfl))
  try simp only [Act.put, List.setIfInBounds_toArray, List.set_cons_zero, List.set_cons_succ]
  refine takeRun (i := 4) (v := ?_) rfl (by kernel_rfl) (by kernel_rfl) (by kernel_rfl) (fun _ _ _ h => h) rfl ?_ (by assumption) ?_
  rotate_left
  · (intro w hSw; (try dsimp only at hSw); go_simp; (try with_reducible rfl))
  try simp only [Act.put, List.setIfInBounds_toArray, List.set_cons_zero, List.set_cons_succ]
  refine goOne (i := 2) (by kernel_rfl) rfl (fun K hK => ?_)
  go_simp
  refine (K1.out _ hRa.bits).mono ?_
  rintro e w21 ⟨A13, c13, rfl, o13, hs⟩
  replace bx := bx.all hs
  replace hRa := hRa.below hs
  replace hA := hA.below hs
  replace o2 := o2.below hs
  replace hb := bthen hb hs
  clear hs
  replace o13 := o13.rd
  go_wp2_with fail
  refine hK.out _ _ ?_ (fun hHeld => ?_)
  · exact ⟨bx.cell 0, bx.cell 1, bx.cell 2, bx.cell 3, bx.cell 4, bx.cell 5⟩
  clear hK K
  try simp only [Act.put, List.setIfInBounds_toArray, List.set_cons_zero, List.set_cons_succ]
  refine goOne (i := 5) (by kernel_rfl) rfl (fun K hK => ?_)
  go_simp
  refine (K2.out _ hRa.bits).mono ?_
  rintro e w22 ⟨A14, c14, rfl, o14, hs⟩
  replace bx := bx.all hs
  replace hRa := hRa.below hs
  replace hA := hA.below hs
  replace o2 := o2.below hs
  replace o13 := o13.below hs
  replace hb := bthen hb hs
  clear hs
  replace o14 := o14.rd
  go_wp2_with fail
  refine hK.out _ _ ?_ (fun hHeld => ?_)
  · exact ⟨bx.cell 0, bx.cell 1, bx.cell 2, bx.cell 3, bx.cell 4, bx.cell 5⟩
  clear hK K
  try simp only [Act.put, List.setIfInBounds_toArray, List.set_cons_zero, List.set_cons_succ]
  refine goOne (i := 6) (by kernel_rfl) rfl (fun K hK => ?_)
  go_simp
  refine (K3.out _ A13 c13 A14 c14 o13 o14).mono ?_
  rintro e wq ⟨rfl, rfl⟩
  go_wp2_with fail
  refine hK.out _ _ ?_ (fun hHeld => ?_)
  · exact ⟨bx.cell 0, bx.cell 1, bx.cell 2, bx.cell 3, bx.cell 4, bx.cell 5⟩
  clear hK K
  try simp only [Act.put, List.setIfInBounds_toArray, List.set_cons_zero, List.set_cons_succ]
  refine takeRun (i := 7) (v := ?_) rfl (by kernel_rfl) (by kernel_rfl) (by kernel_rfl) (fun _ _ _ h => h) rfl ?_ (by assumption) ?_
  rotate_left
  · (intro w hSw; (try dsimp only at hSw); go_simp; (try with_reducible rfl))
  try simp only [Act.put, List.setIfInBounds_toArray, List.set_cons_zero, List.set_cons_succ]
  refine takeRun (i := 8) (v := ?_) rfl (by kernel_rfl) (by kernel_rfl) (by kernel_rfl) (fun _ _ _ h => h) rfl ?_ (by assumption) ?_
  rotate_left
  · (intro w hSw; (try dsimp only at hSw); go_simp; (try with_reducible rfl))
  try simp only [Act.put, List.setIfInBounds_toArray, List.set_cons_zero, List.set_cons_succ]
  refine takeRun (i := 10) (v := ?_) rfl (by kernel_rfl) (by kernel_rfl) (by kernel_rfl) (fun _ _ _ h => h) rfl ?_ (by assumption) ?_
  rotate_left
  · (intro w hSw; (try dsimp only at hSw); go_simp; (try with_reducible rfl))
  try simp only [Act.put, List.setIfInBounds_toArray, List.set_cons_zero, List.set_cons_succ]
  refine goOne (i := 9) (by kernel_rfl) rfl (fun K hK => ?_)
  go_simp
  refine (U1.out _ o2).mono ?_
  rintro e w23 ⟨A15, c15, rfl, o15, hs, -⟩
  replace bx := bx.all hs
  replace hRa := hRa.below hs
  replace hA := hA.below hs
  replace o2 := o2.below hs
  replace o13 := o13.below hs
  replace o14 := o14.below hs
  replace hb := bthen hb hs
  clear hs
  replace o15 := o15.rd
  go_wp2_with fail
  refine hK.out _ _ ?_ (fun hHeld => ?_)
  · exact ⟨bx.cell 0, bx.cell 1, bx.cell 2, bx.cell 3, bx.cell 4, bx.cell 5⟩
  clear hK K
  try simp only [Act.put, List.setIfInBounds_toArray, List.set_cons_zero, List.set_cons_succ]
  refine goOne (i := 11) (by kernel_rfl) rfl (fun K hK => ?_)
  go_simp
  refine (U2.out _ hA).mono ?_
  rintro e w24 ⟨A16, c16, rfl, o16, hs⟩
  replace bx := bx.all hs
  replace hRa := hRa.below hs
  replace hA := hA.below hs
  replace o2 := o2.below hs
  replace o13 := o13.below hs
  replace o14 := o14.below hs
  replace o15 := o15.below hs
  replace hb := bthen hb hs
  clear hs
  replace o16 := o16.rd
  go_wp2_with fail
  refine hK.out _ _ ?_ (fun hHeld => ?_)
  · exact ⟨bx.cell 0, bx.cell 1, bx.cell 2, bx.cell 3, bx.cell 4, bx.cell 5⟩
  clear hK K
  try simp only [Act.put, List.setIfInBounds_toArray, List.set_cons_zero, List.set_cons_succ]
  refine goOne (i := 12) (by kernel_rfl) rfl (fun K hK => ?_)
  go_simp
  refine (U3.out _ A15 c15 A16 c16 o15 o16).mono ?_
  rintro e w25 ⟨rfl, dn, hdn⟩
  have hs : Below w24.heap.size w24 w25 := by rw [hdn]; exact below_drewN (Below.refl _ _) dn
  clear hdn
  replace bx := bx.all hs
  replace hRa := hRa.below hs
  replace hA := hA.below hs
  replace o2 := o2.below hs
  replace o13 := o13.below hs
  replace o14 := o14.below hs
  replace o15 := o15.below hs
  replace o16 := o16.below hs
  replace hb := bthen hb hs
  clear hs
  go_wp2_with fail
  refine hK.out _ _ ?_ (fun hHeld => ?_)
  · exact ⟨bx.cell 0, bx.cell 1, bx.cell 2, bx.cell 3, bx.cell 4, bx.cell 5⟩
  clear hK K
  try simp only [Act.put, List.setIfInBounds_toArray, List.set_cons_zero, List.set_cons_succ]
  refine takeRun (i := 13) (v := ?_) rfl (by kernel_rfl) (by kernel_rfl) (by kernel_rfl) (fun _ _ _ h => h) rfl ?_ (by assumption) ?_
  rotate_left
  · (intro w hSw; (try dsimp only at hSw); go_simp; (try with_reducible rfl))
  try simp only [Act.put, List.setIfInBounds_toArray, List.set_cons_zero, List.set_cons_succ]
  refine takeRun (i := 14) (v := ?_) rfl (by kernel_rfl) (by kernel_rfl) (by kernel_rfl) (fun _ _ _ h => h) rfl ?_ (by assumption) ?_
  rotate_left
  · (intro w hSw; (try dsimp only at hSw); go_simp; (try with_reducible rfl))
  try simp only [Act.put, List.setIfInBounds_toArray, List.set_cons_zero, List.set_cons_succ]
  refine takeRun (i := 15) (v := ?_) rfl (by kernel_rfl) (by kernel_rfl) (by kernel_rfl) (fun _ _ _ h => h) rfl ?_ (by assumption) ?_
  rotate_left
  · (intro w hSw; (try dsimp only at hSw); go_simp; (try with_reducible rfl))
  try simp only [Act.put, List.setIfInBounds_toArray, List.set_cons_zero, List.set_cons_succ]
  refine takeRun (i := 16) (v := ?_) rfl (by kernel_rfl) (by kernel_rfl) (by kernel_rfl) (fun _ _ _ h => h) rfl ?_ (by assumption) ?_
  rotate_left
  · (intro w hSw; (try dsimp only at hSw); go_simp; (try with_reducible rfl))
  try simp only [Act.put, List.setIfInBounds_toArray, List.set_cons_zero, List.set_cons_succ]
  refine goOne (i := 17) (by kernel_rfl) rfl (fun K hK => ?_)
  go_simp
  refine (U4.out _ o2 hA).mono ?_
  rintro e wq ⟨rfl, rfl⟩
  go_wp2_with fail
  refine hK.out _ _ ?_ (fun hHeld => ?_)
  · exact ⟨bx.cell 0, bx.cell 1, bx.cell 2, bx.cell 3, bx.cell 4, bx.cell 5⟩
  clear hK K
  try simp only [Act.put, List.setIfInBounds_toArray, List.set_cons_zero, List.set_cons_succ]
  refine takeRun (i := 18) (v := ?_) rfl (by kernel_rfl) (by kernel_rfl) (by kernel_rfl) (fun _ _ _ h => h) rfl ?_ (by assumption) ?_
  rotate_left
  · (intro w hSw; (try dsimp only at hSw); go_simp; (try with_reducible rfl))
  try simp only [Act.put, List.setIfInBounds_toArray, List.set_cons_zero, List.set_cons_succ]
  refine takeRun (i := 19) (v := ?_) rfl (by kernel_rfl) (by kernel_rfl) (by kernel_rfl) (fun _ _ _ h => h) rfl ?_ (by assumption) ?_
  rotate_left
  · (intro w hSw; (try dsimp only at hSw); go_simp; (try with_reducible rfl))
  try simp only [Act.put, List.setIfInBounds_toArray, List.set_cons_zero, List.set_cons_succ]
  refine goOne (i := 20) (by kernel_rfl) rfl (fun K hK => ?_)
  go_simp
  refine (awk.out _).mono ?_
  rintro e w26 ⟨rfl, hs⟩
  replace bx := bx.all hs
  replace hRa := hRa.below hs
  replace hA := hA.below hs
  replace o2 := o2.below hs
  replace o13 := o13.below hs
  replace o14 := o14.below hs
  replace o15 := o15.below hs
  replace o16 := o16.below hs
  replace hb := bthen hb hs
  clear hs
  go_wp2_with fail
  refine hK.out _ _ ?_ (fun hHeld => ?_)
  · exact ⟨bx.cell 0, bx.cell 1, bx.cell 2, bx.cell 3, bx.cell 4, bx.cell 5⟩
  clear hK K
  try simp only [Act.put, List.setIfInBounds_toArray, List.set_cons_zero, List.set_cons_succ]
  refine takeRun (i := 21) (v := ?_) rfl (by kernel_rfl) (by kernel_rfl) (by kernel_rfl) (fun _ _ _ h => h) rfl ?_ (by assumption) ?_
  rotate_left
  · (intro w hSw; (try dsimp only at hSw); go_simp; (try with_reducible rfl))
  try simp only [Act.put, List.setIfInBounds_toArray, List.set_cons_zero, List.set_cons_succ]
  refine takeRun (i := 22) (v := ?_) rfl (by kernel_rfl) (by kernel_rfl) (by kernel_rfl) (fun _ _ _ h => h) rfl ?_ (by assumption) ?_
  rotate_left
  · (intro w hSw; (try dsimp only at hSw); go_simp; (try with_reducible rfl))
  try simp only [Act.put, List.setIfInBounds_toArray, List.set_cons_zero, List.set_cons_succ]
  refine wpAnyH_done (by kernel_rfl) ?_ _
  go_wp2_with fail
  go_ret
  exact ⟨rfl, hb⟩
end Go.Proofs.Ytechhidfgheejaa
