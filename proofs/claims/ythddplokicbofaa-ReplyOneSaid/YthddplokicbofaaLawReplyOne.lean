/- The walk of the law ReplyOne (written by gen_replyone.py). -/
import Derived.Test.YthddplokicbofaaRpAwake
import Derived.Test.YthddplokicbofaaRpLaw
import Derived.Test.YthddplokicbofaaRegion
import Derived.Deep.RegionHeld3
namespace Go.Proofs.Ythddplokicbofaa
open Go.RowKit
set_option linter.unusedSimpArgs false
set_option linter.unusedVariables false

/-- the last line: unlike requests have unlike bytes -/
theorem unlike_bytesR (a o : Rp) : (decide (errR a ≠ 0) || decide (errR o ≠ 0) || (sameB (bytesR a) (bytesR o) == sameR a o)) = true := by
  by_cases ha : rightR a = true
  · by_cases ho : rightR o = true
    · rw [same_bytesR ha ho]
      simp
    · simp [errR, ho]
  · simp [errR, ha]

set_option maxRecDepth 100000 in
set_option maxHeartbeats 4000000 in
theorem ReplyOne_walk (A : Option Addr) (n c : Nat) (l : List Nat) (a : Rp) (Aa : Option Addr) (ca : Nat) (Ba : Option Addr) (da : Nat) (o : Rp) (Ao : Option Addr) (co : Nat) (Bo : Option Addr) (do_ : Nat) (w : World) (hA : Rd w A (bs l)) (hn : l.length = n) (hl : Bs l) (hnc : n ≤ c)
    (hRa : RpR w a Aa Ba) (hoa : a.ok) (hRo : RpR w o Ao Bo) (hoo : o.ok) :
    Calls Try.prog 11 #[.slice A n c, a.v Aa ca Ba da, o.v Ao co Bo do_] w fun e w' => e = .returned (.bool true) ∧ Below w.heap.size w w' := by
  have HN := Lib.hid hn
  clear hn
  have hb1 := ((Below.refl _ w).alloc (Nat.le_refl _) (.cells #[.int .u8 (a.fn : Int), .int .u8 (a.ex : Int), .slice Ba a.bits.length da, .slice Aa a.words.length ca, .int .u16 (a.at_ : Int), .int .u16 (a.many : Int)] 52)).alloc (by simp [World.size_alloc]) (.cells #[.int .u8 (o.fn : Int), .int .u8 (o.ex : Int), .slice Bo o.bits.length do_, .slice Ao o.words.length co, .int .u16 (o.at_ : Int), .int .u16 (o.many : Int)] 52)
  have bx := (Blk.new w 52 #[.int .u8 (a.fn : Int), .int .u8 (a.ex : Int), .slice Ba a.bits.length da, .slice Aa a.words.length ca, .int .u16 (a.at_ : Int), .int .u16 (a.many : Int)]).alloc (.cells #[.int .u8 (o.fn : Int), .int .u8 (o.ex : Int), .slice Bo o.bits.length do_, .slice Ao o.words.length co, .int .u16 (o.at_ : Int), .int .u16 (o.many : Int)] 52)
  have by_ := Blk.newAt (w.alloc (.cells #[.int .u8 (a.fn : Int), .int .u8 (a.ex : Int), .slice Ba a.bits.length da, .slice Aa a.words.length ca, .int .u16 (a.at_ : Int), .int .u16 (a.many : Int)] 52)) 52 #[.int .u8 (o.fn : Int), .int .u8 (o.ex : Int), .slice Bo o.bits.length do_, .slice Ao o.words.length co, .int .u16 (o.at_ : Int), .int .u16 (o.many : Int)] (w.heap.size + 1) (World.size_alloc _ _)
  have E1 := Lib.hid (fun W => low_Few Aa a.words.length ca Ba a.bits.length da W)
  have E2 := Lib.hid (fun W => low_Few Ao o.words.length co Bo o.bits.length do_ W)
  obtain ⟨f1, hf1⟩ : ∃ b, fewN a.words.length a.bits.length = b := ⟨_, rfl⟩
  obtain ⟨f2, hf2⟩ : ∃ b, fewN o.words.length o.bits.length = b := ⟨_, rfl⟩
  rw [hf1] at E1
  rw [hf2] at E2
  simp only [Rp.v, rpV]
  go_enter Try.func11, Try.ntmps11
  go_upto_region 1 with fail
  generalize ((w.alloc (.cells #[.int .u8 (a.fn : Int), .int .u8 (a.ex : Int), .slice Ba a.bits.length da, .slice Aa a.words.length ca, .int .u16 (a.at_ : Int), .int .u16 (a.many : Int)] 52)).alloc (.cells #[.int .u8 (o.fn : Int), .int .u8 (o.ex : Int), .slice Bo o.bits.length do_, .slice Ao o.words.length co, .int .u16 (o.at_ : Int), .int .u16 (o.many : Int)] 52)) = w1 at *
  obtain ⟨g, hg⟩ : ∃ g, w.heap.size = g := ⟨_, rfl⟩
  rw [hg] at bx by_ ⊢
  obtain ⟨g2, hg2⟩ : ∃ g2, g + 1 = g2 := ⟨_, rfl⟩
  rw [hg2] at by_ ⊢
  clear hg hg2
  obtain ⟨p0, p1, p2, p3, p4, p5⟩ := bx.c6
  obtain ⟨q0, q1, q2, q3, q4, q5⟩ := by_.c6
  cases f1 with
  | false =>
    go_wp2_with fail
    refine (E1.out _).mono ?_
    rintro e w2 ⟨rfl, rfl⟩
    go_wp2_with fail
    refine (reply_awake _).mono ?_
    rintro e w3 ⟨rfl, hb3⟩
    go_wp2_with fail
    go_ret
    exact ⟨rfl, bthen hb1 hb3⟩
  | true =>
  cases f2 with
  | false =>
    go_wp2_with fail
    refine (E1.out _).mono ?_
    rintro e w2 ⟨rfl, rfl⟩
    go_wp2_with fail
    refine (E2.out _).mono ?_
    rintro e w2 ⟨rfl, rfl⟩
    go_wp2_with fail
    refine (reply_awake _).mono ?_
    rintro e w3 ⟨rfl, hb3⟩
    go_wp2_with fail
    go_ret
    exact ⟨rfl, bthen hb1 hb3⟩
  | true =>
  obtain ⟨la1, la2⟩ := fewN_le hf1
  obtain ⟨lo1, lo2⟩ := fewN_le hf2
  clear hf1 hf2
  by_cases hbig : 300 < n
  · have v1 : decide ((300 : Int) < (n : Int)) = true := decide_eq_true (by omega)
    go_wp2_with fail
    refine (E1.out _).mono ?_
    rintro e w2 ⟨rfl, rfl⟩
    go_wp2_with fail
    refine (E2.out _).mono ?_
    rintro e w2 ⟨rfl, rfl⟩
    go_wp2_with fail
    refine (reply_awake _).mono ?_
    rintro e w3 ⟨rfl, hb3⟩
    go_wp2_with fail
    go_ret
    exact ⟨rfl, bthen hb1 hb3⟩
  have v1 : decide ((300 : Int) < (n : Int)) = false := decide_eq_false (by omega)
  go_wp2_with fail
  refine (E1.out _).mono ?_
  rintro e w2 ⟨rfl, rfl⟩
  go_wp2_with fail
  refine (E2.out _).mono ?_
  rintro e w2 ⟨rfl, rfl⟩
  clear E1 E2 p0 p1 p2 p3 p4 p5 q0 q1 q2 q3 q4 q5
  have E3 := Lib.hid (reply_Parse A n c l w1 (hA.below hb1) HN.out hl hnc (by omega))
  obtain ⟨rr, hrr⟩ : ∃ rr, parseR l = rr := ⟨_, rfl⟩
  have HRR := Lib.hid hrr
  rw [hrr] at E3
  clear hrr
  go_wp2_with fail
  refine E3.out.mono ?_
  rintro e w2 hT
  have F1 := Lib.hid (fun W (h : RpR W a Aa Ba) => reply_Bytes a Aa ca Ba da W h hoa (by omega) (by omega))
  have F2 := Lib.hid (fun W (h : RpR W o Ao Bo) => reply_Bytes o Ao co Bo do_ W h hoo (by omega) (by omega))
  have HU := Lib.hid (unlike_bytesR a o)
  have hBa : Hid (rightR a = true → Bs (bytesR a)) := fun h => bytesR_Bs hoa h
  have hBo : Hid (rightR o = true → Bs (bytesR o)) := fun h => bytesR_Bs hoo h
  have HE1 : Hid (errR a = if rightR a then 0 else 13) := rfl
  have HE2 : Hid (errR o = if rightR o then 0 else 13) := rfl
  have S1 := Lib.hid (fun W (h1 : RpR W a Aa Ba) (h2 : RpR W o Ao Bo) => reply_Same a o Aa ca Ba da Ao co Bo do_ W h1 h2 (by omega) (by omega))
  simp only [Rp.v, rpV] at F1 F2 S1

  cases rr with
  | none =>
    obtain ⟨he, hb2⟩ := hT
    rw [show Rp.zero.v none 0 none 0 = .agg #[.int .u8 0, .int .u8 0, .slice none 0 0, .slice none 0 0, .int .u16 0, .int .u16 0] from rfl] at he
    subst he
    have hb2' := bthen hb1 hb2
    have hb5 := hb2'.alloc hb2'.size (.cells #[.int .u8 0, .int .u8 0, .slice none 0 0, .slice none 0 0, .int .u16 0, .int .u16 0] 52)
    have bx5 := (bx.all hb2).alloc (.cells #[.int .u8 0, .int .u8 0, .slice none 0 0, .slice none 0 0, .int .u16 0, .int .u16 0] 52)
    have by5 := (by_.all hb2).alloc (.cells #[.int .u8 0, .int .u8 0, .slice none 0 0, .slice none 0 0, .int .u16 0, .int .u16 0] 52)
    go_upto_region 8 with fail
    generalize w2.alloc (.cells #[.int .u8 0, .int .u8 0, .slice none 0 0, .slice none 0 0, .int .u16 0, .int .u16 0] 52) = w5 at *
    clear hb2 hb2' bx by_
    have hRa5 := hRa.below hb5
    have hRo5 := hRo.below hb5
    obtain ⟨p0, p1, p2, p3, p4, p5⟩ := bx5.c6
    go_wp2_with fail
    refine (F1.out _ hRa5).mono ?_
    rintro e w6 ⟨A6, c6, rfl, o6, hb6⟩
    have hb6' := bthen hb5 hb6
    have bx6 := bx5.all hb6
    have by6 := by5.all hb6
    clear p0 p1 p2 p3 p4 p5
    obtain ⟨q0, q1, q2, q3, q4, q5⟩ := by6.c6
    go_wp2_with fail
    refine (F2.out _ (hRo.below hb6')).mono ?_
    rintro e w7 ⟨A7, c7, rfl, o7, hb7⟩
    have hb7' := bthen hb6' hb7
    have bx7 := bx6.all hb7
    have by7 := by6.all hb7
    have o67 := o6.below hb7
    clear q0 q1 q2 q3 q4 q5 hb5 bx5 by5 hb6 hb6' bx6 by6 o6 hb7 hRa5 hRo5
    have hRa7 := hRa.below hb7'
    have hRo7 := hRo.below hb7'
    obtain ⟨nx, hnx⟩ : ∃ k, (bytesR a).length = k := ⟨_, rfl⟩
    obtain ⟨ny, hny⟩ : ∃ k, (bytesR o).length = k := ⟨_, rfl⟩
    have HNX := Lib.hid hnx
    have HNY := Lib.hid hny
    rw [hnx, hny]
    clear hnx hny
    by_cases ra : rightR a = true
    · have e1 : errR a = 0 := by rw [HE1.out, if_pos ra]
      by_cases ro : rightR o = true
      · have e2 : errR o = 0 := by rw [HE2.out, if_pos ro]
        have hs : sameB (bytesR a) (bytesR o) = sameR a o := by
          have := HU.out
          rw [e1, e2] at this
          simpa using this
        have G1 := Lib.hid (fun W (h1 : Rd W A6 (bs (bytesR a))) (h2 : Rd W A7 (bs (bytesR o))) => low_Same A6 A7 nx c6 ny c7 (bytesR a) (bytesR o) W h1 h2 (hBa.out ra) (hBo.out ro) HNX.out HNY.out)
        rw [hs] at G1
        obtain ⟨y, hy⟩ : ∃ y, sameR a o = y := ⟨_, rfl⟩
        rw [hy] at G1 S1
        rw [e1, e2]
        clear hy hs e1 e2 ra ro HU HE1 HE2
        have K : Hid (∀ W : World, Below w7.heap.size w7 W → W.cell? ⟨g, 0, none⟩ = some (.int .u8 (a.fn : Int)) ∧ W.cell? ⟨g, 1, none⟩ = some (.int .u8 (a.ex : Int)) ∧ W.cell? ⟨g, 2, none⟩ = some (.slice Ba a.bits.length da) ∧ W.cell? ⟨g, 3, none⟩ = some (.slice Aa a.words.length ca) ∧ W.cell? ⟨g, 4, none⟩ = some (.int .u16 (a.at_ : Int)) ∧ W.cell? ⟨g, 5, none⟩ = some (.int .u16 (a.many : Int)) ∧ W.cell? ⟨g2, 0, none⟩ = some (.int .u8 (o.fn : Int)) ∧ W.cell? ⟨g2, 1, none⟩ = some (.int .u8 (o.ex : Int)) ∧ W.cell? ⟨g2, 2, none⟩ = some (.slice Bo o.bits.length do_) ∧ W.cell? ⟨g2, 3, none⟩ = some (.slice Ao o.words.length co) ∧ W.cell? ⟨g2, 4, none⟩ = some (.int .u16 (o.at_ : Int)) ∧ W.cell? ⟨g2, 5, none⟩ = some (.int .u16 (o.many : Int))) := fun W hW => ⟨(bx7.all hW).cell 0, (bx7.all hW).cell 1, (bx7.all hW).cell 2, (bx7.all hW).cell 3, (bx7.all hW).cell 4, (bx7.all hW).cell 5, (by7.all hW).cell 0, (by7.all hW).cell 1, (by7.all hW).cell 2, (by7.all hW).cell 3, (by7.all hW).cell 4, (by7.all hW).cell 5⟩
        have b7 := Below.refl w7.heap.size w7
        go_upto_region 10 with fail
        go_region_held3 (fun W => W.cell? ⟨g, 0, none⟩ = some (.int .u8 (a.fn : Int)) ∧ W.cell? ⟨g, 1, none⟩ = some (.int .u8 (a.ex : Int)) ∧ W.cell? ⟨g, 2, none⟩ = some (.slice Ba a.bits.length da) ∧ W.cell? ⟨g, 3, none⟩ = some (.slice Aa a.words.length ca) ∧ W.cell? ⟨g, 4, none⟩ = some (.int .u16 (a.at_ : Int)) ∧ W.cell? ⟨g, 5, none⟩ = some (.int .u16 (a.many : Int)) ∧ W.cell? ⟨g2, 0, none⟩ = some (.int .u8 (o.fn : Int)) ∧ W.cell? ⟨g2, 1, none⟩ = some (.int .u8 (o.ex : Int)) ∧ W.cell? ⟨g2, 2, none⟩ = some (.slice Bo o.bits.length do_) ∧ W.cell? ⟨g2, 3, none⟩ = some (.slice Ao o.words.length co) ∧ W.cell? ⟨g2, 4, none⟩ = some (.int .u16 (o.at_ : Int)) ∧ W.cell? ⟨g2, 5, none⟩ = some (.int .u16 (o.many : Int))) (first | exact K.out _ b7.drew | exact K.out _ b7 | exact K.out _ hb9 | exact K.out _ (bthen hb9 ‹_›))
          (first
            | (go_at_call 22; refine (G1.out _ o67.rd.drew o7.rd.drew).mono ?_; rintro e w8 ⟨rfl, rfl⟩)
            | (go_at_call 39; refine (S1.out _ (hRa7.below b7.drew) (hRo7.below b7.drew)).mono ?_; rintro e w9 ⟨rfl, hb9⟩; replace hb9 := undrew hb9)
            | (go_at_call 32; refine (reply_awake _).mono ?_; rintro e w9b ⟨rfl, hb10⟩; have hb9b := bthen hb9 hb10))
        go_wp2_with fail
        go_ret
        exact ⟨rfl, bthen hb7' hb9b⟩
      · have e2 : errR o = 13 := by rw [HE2.out, if_neg ro]
        rw [e1, e2]
        go_upto_region 10 with fail
        refine wp_region_held_drew (S := fun _ => True) (by kernel_rfl) ?_ (fun hHeld => ?_)
        · exact trivial
        refine takeRun (i := 0) (v := ?_) rfl (by kernel_rfl) (by kernel_rfl) (by kernel_rfl) (fun _ _ _ h => h) rfl ?_ (by assumption) ?_
        rotate_left
        · (intro w hSw; (try dsimp only at hSw); go_simp; (try with_reducible rfl))
        try simp only [Act.put, List.setIfInBounds_toArray, List.set_cons_zero, List.set_cons_succ]
        refine takeRun (i := 1) (v := ?_) rfl (by kernel_rfl) (by kernel_rfl) (by kernel_rfl) (fun _ _ _ h => h) rfl ?_ (by assumption) ?_
        rotate_left
        · (intro w hSw; (try dsimp only at hSw); go_simp; (try with_reducible rfl))
        try simp only [Act.put, List.setIfInBounds_toArray, List.set_cons_zero, List.set_cons_succ]
        refine takeRun (i := 2) (v := ?_) rfl (by kernel_rfl) (by kernel_rfl) (by kernel_rfl) (fun _ _ _ h => h) rfl ?_ (by assumption) ?_
        rotate_left
        · (intro w hSw; (try dsimp only at hSw); go_simp; (try with_reducible rfl))
        try simp only [Act.put, List.setIfInBounds_toArray, List.set_cons_zero, List.set_cons_succ]
        refine takeRun (i := 3) (v := ?_) rfl (by kernel_rfl) (by kernel_rfl) (by kernel_rfl) (fun _ _ _ h => h) rfl ?_ (by assumption) ?_
        rotate_left
        · (intro w hSw; (try dsimp only at hSw); go_simp; (try with_reducible rfl))
        try simp only [Act.put, List.setIfInBounds_toArray, List.set_cons_zero, List.set_cons_succ]
        refine takeRun (i := 4) (v := ?_) rfl (by kernel_rfl) (by kernel_rfl) (by kernel_rfl) (fun _ _ _ h => h) rfl ?_ (by assumption) ?_
        rotate_left
        · (intro w hSw; (try dsimp only at hSw); go_simp; (try with_reducible rfl))
        try simp only [Act.put, List.setIfInBounds_toArray, List.set_cons_zero, List.set_cons_succ]
        refine takeRun (i := 5) (v := ?_) rfl (by kernel_rfl) (by kernel_rfl) (by kernel_rfl) (fun _ _ _ h => h) rfl ?_ (by assumption) ?_
        rotate_left
        · (intro w hSw; (try dsimp only at hSw); go_simp; (try with_reducible rfl))
        try simp only [Act.put, List.setIfInBounds_toArray, List.set_cons_zero, List.set_cons_succ]
        refine takeRun (i := 6) (v := ?_) rfl (by kernel_rfl) (by kernel_rfl) (by kernel_rfl) (fun _ _ _ h => h) rfl ?_ (by assumption) ?_
        rotate_left
        · (intro w hSw; (try dsimp only at hSw); go_simp; (try with_reducible rfl))
        try simp only [Act.put, List.setIfInBounds_toArray, List.set_cons_zero, List.set_cons_succ]
        refine takeSkip (i := 7) rfl (by kernel_rfl) (by kernel_rfl) (by kernel_rfl) (fun _ _ _ h => h) rfl (by assumption) ?_
        try simp only [Act.put, List.setIfInBounds_toArray, List.set_cons_zero, List.set_cons_succ]
        refine takeSkip (i := 8) rfl (by kernel_rfl) (by kernel_rfl) (by kernel_rfl) (fun _ _ _ h => h) rfl (by assumption) ?_
        try simp only [Act.put, List.setIfInBounds_toArray, List.set_cons_zero, List.set_cons_succ]
        refine takeSkip (i := 9) rfl (by kernel_rfl) (by kernel_rfl) (by kernel_rfl) (fun _ _ _ h => h) rfl (by assumption) ?_
        try simp only [Act.put, List.setIfInBounds_toArray, List.set_cons_zero, List.set_cons_succ]
        refine takeSkip (i := 10) rfl (by kernel_rfl) (by kernel_rfl) (by kernel_rfl) (fun _ _ _ h => h) rfl (by assumption) ?_
        try simp only [Act.put, List.setIfInBounds_toArray, List.set_cons_zero, List.set_cons_succ]
        refine takeSkip (i := 11) rfl (by kernel_rfl) (by kernel_rfl) (by kernel_rfl) (fun _ _ _ h => h) rfl (by assumption) ?_
        try simp only [Act.put, List.setIfInBounds_toArray, List.set_cons_zero, List.set_cons_succ]
        refine takeSkip (i := 12) rfl (by kernel_rfl) (by kernel_rfl) (by kernel_rfl) (fun _ _ _ h => h) rfl (by assumption) ?_
        try simp only [Act.put, List.setIfInBounds_toArray, List.set_cons_zero, List.set_cons_succ]
        refine takeSkip (i := 13) rfl (by kernel_rfl) (by kernel_rfl) (by kernel_rfl) (fun _ _ _ h => h) rfl (by assumption) ?_
        try simp only [Act.put, List.setIfInBounds_toArray, List.set_cons_zero, List.set_cons_succ]
        refine takeRun (i := 14) (v := ?_) rfl (by kernel_rfl) (by kernel_rfl) (by kernel_rfl) (fun _ _ _ h => h) rfl ?_ (by assumption) ?_
        rotate_left
        · (intro w hSw; (try dsimp only at hSw); go_simp; (try with_reducible rfl))
        try simp only [Act.put, List.setIfInBounds_toArray, List.set_cons_zero, List.set_cons_succ]
        refine takeRun (i := 15) (v := ?_) rfl (by kernel_rfl) (by kernel_rfl) (by kernel_rfl) (fun _ _ _ h => h) rfl ?_ (by assumption) ?_
        rotate_left
        · (intro w hSw; (try dsimp only at hSw); go_simp; (try with_reducible rfl))
        try simp only [Act.put, List.setIfInBounds_toArray, List.set_cons_zero, List.set_cons_succ]
        refine goOne (i := 16) (by kernel_rfl) rfl (fun K hK => ?_)
        go_simp
        (refine (reply_awake _).mono ?_; rintro e w8 ⟨rfl, hb8⟩; replace hb8 := undrew hb8)
        go_wp2_with fail
        refine hK.out _ _ ?_ (fun hHeld => ?_)
        · exact trivial
        clear hK K
        try simp only [Act.put, List.setIfInBounds_toArray, List.set_cons_zero, List.set_cons_succ]
        refine takeRun (i := 17) (v := ?_) rfl (by kernel_rfl) (by kernel_rfl) (by kernel_rfl) (fun _ _ _ h => h) rfl ?_ (by assumption) ?_
        rotate_left
        · (intro w hSw; (try dsimp only at hSw); go_simp; (try with_reducible rfl))
        try simp only [Act.put, List.setIfInBounds_toArray, List.set_cons_zero, List.set_cons_succ]
        refine takeRun (i := 18) (v := ?_) rfl (by kernel_rfl) (by kernel_rfl) (by kernel_rfl) (fun _ _ _ h => h) rfl ?_ (by assumption) ?_
        rotate_left
        · (intro w hSw; (try dsimp only at hSw); go_simp; (try with_reducible rfl))
        try simp only [Act.put, List.setIfInBounds_toArray, List.set_cons_zero, List.set_cons_succ]
        refine wpAnyH_done (by kernel_rfl) ?_ _
        go_wp2_with fail
        go_ret
        exact ⟨rfl, bthen hb7' hb8⟩
    · have e1 : errR a = 13 := by rw [HE1.out, if_neg ra]
      rw [e1]
      go_upto_region 10 with fail
      refine wp_region_held_drew (S := fun _ => True) (by kernel_rfl) ?_ (fun hHeld => ?_)
      · exact trivial
      refine takeRun (i := 0) (v := ?_) rfl (by kernel_rfl) (by kernel_rfl) (by kernel_rfl) (fun _ _ _ h => h) rfl ?_ (by assumption) ?_
      rotate_left
      · (intro w hSw; (try dsimp only at hSw); go_simp; (try with_reducible rfl))
      try simp only [Act.put, List.setIfInBounds_toArray, List.set_cons_zero, List.set_cons_succ]
      refine takeRun (i := 1) (v := ?_) rfl (by kernel_rfl) (by kernel_rfl) (by kernel_rfl) (fun _ _ _ h => h) rfl ?_ (by assumption) ?_
      rotate_left
      · (intro w hSw; (try dsimp only at hSw); go_simp; (try with_reducible rfl))
      try simp only [Act.put, List.setIfInBounds_toArray, List.set_cons_zero, List.set_cons_succ]
      refine takeRun (i := 2) (v := ?_) rfl (by kernel_rfl) (by kernel_rfl) (by kernel_rfl) (fun _ _ _ h => h) rfl ?_ (by assumption) ?_
      rotate_left
      · (intro w hSw; (try dsimp only at hSw); go_simp; (try with_reducible rfl))
      try simp only [Act.put, List.setIfInBounds_toArray, List.set_cons_zero, List.set_cons_succ]
      refine takeSkip (i := 3) rfl (by kernel_rfl) (by kernel_rfl) (by kernel_rfl) (fun _ _ _ h => h) rfl (by assumption) ?_
      try simp only [Act.put, List.setIfInBounds_toArray, List.set_cons_zero, List.set_cons_succ]
      refine takeSkip (i := 4) rfl (by kernel_rfl) (by kernel_rfl) (by kernel_rfl) (fun _ _ _ h => h) rfl (by assumption) ?_
      try simp only [Act.put, List.setIfInBounds_toArray, List.set_cons_zero, List.set_cons_succ]
      refine takeRun (i := 5) (v := ?_) rfl (by kernel_rfl) (by kernel_rfl) (by kernel_rfl) (fun _ _ _ h => h) rfl ?_ (by assumption) ?_
      rotate_left
      · (intro w hSw; (try dsimp only at hSw); go_simp; (try with_reducible rfl))
      try simp only [Act.put, List.setIfInBounds_toArray, List.set_cons_zero, List.set_cons_succ]
      refine takeRun (i := 6) (v := ?_) rfl (by kernel_rfl) (by kernel_rfl) (by kernel_rfl) (fun _ _ _ h => h) rfl ?_ (by assumption) ?_
      rotate_left
      · (intro w hSw; (try dsimp only at hSw); go_simp; (try with_reducible rfl))
      try simp only [Act.put, List.setIfInBounds_toArray, List.set_cons_zero, List.set_cons_succ]
      refine takeSkip (i := 7) rfl (by kernel_rfl) (by kernel_rfl) (by kernel_rfl) (fun _ _ _ h => h) rfl (by assumption) ?_
      try simp only [Act.put, List.setIfInBounds_toArray, List.set_cons_zero, List.set_cons_succ]
      refine takeSkip (i := 8) rfl (by kernel_rfl) (by kernel_rfl) (by kernel_rfl) (fun _ _ _ h => h) rfl (by assumption) ?_
      try simp only [Act.put, List.setIfInBounds_toArray, List.set_cons_zero, List.set_cons_succ]
      refine takeSkip (i := 9) rfl (by kernel_rfl) (by kernel_rfl) (by kernel_rfl) (fun _ _ _ h => h) rfl (by assumption) ?_
      try simp only [Act.put, List.setIfInBounds_toArray, List.set_cons_zero, List.set_cons_succ]
      refine takeSkip (i := 10) rfl (by kernel_rfl) (by kernel_rfl) (by kernel_rfl) (fun _ _ _ h => h) rfl (by assumption) ?_
      try simp only [Act.put, List.setIfInBounds_toArray, List.set_cons_zero, List.set_cons_succ]
      refine takeSkip (i := 11) rfl (by kernel_rfl) (by kernel_rfl) (by kernel_rfl) (fun _ _ _ h => h) rfl (by assumption) ?_
      try simp only [Act.put, List.setIfInBounds_toArray, List.set_cons_zero, List.set_cons_succ]
      refine takeSkip (i := 12) rfl (by kernel_rfl) (by kernel_rfl) (by kernel_rfl) (fun _ _ _ h => h) rfl (by assumption) ?_
      try simp only [Act.put, List.setIfInBounds_toArray, List.set_cons_zero, List.set_cons_succ]
      refine takeSkip (i := 13) rfl (by kernel_rfl) (by kernel_rfl) (by kernel_rfl) (fun _ _ _ h => h) rfl (by assumption) ?_
      try simp only [Act.put, List.setIfInBounds_toArray, List.set_cons_zero, List.set_cons_succ]
      refine takeRun (i := 14) (v := ?_) rfl (by kernel_rfl) (by kernel_rfl) (by kernel_rfl) (fun _ _ _ h => h) rfl ?_ (by assumption) ?_
      rotate_left
      · (intro w hSw; (try dsimp only at hSw); go_simp; (try with_reducible rfl))
      try simp only [Act.put, List.setIfInBounds_toArray, List.set_cons_zero, List.set_cons_succ]
      refine takeRun (i := 15) (v := ?_) rfl (by kernel_rfl) (by kernel_rfl) (by kernel_rfl) (fun _ _ _ h => h) rfl ?_ (by assumption) ?_
      rotate_left
      · (intro w hSw; (try dsimp only at hSw); go_simp; (try with_reducible rfl))
      try simp only [Act.put, List.setIfInBounds_toArray, List.set_cons_zero, List.set_cons_succ]
      refine goOne (i := 16) (by kernel_rfl) rfl (fun K hK => ?_)
      go_simp
      (refine (reply_awake _).mono ?_; rintro e w8 ⟨rfl, hb8⟩; replace hb8 := undrew hb8)
      go_wp2_with fail
      refine hK.out _ _ ?_ (fun hHeld => ?_)
      · exact trivial
      clear hK K
      try simp only [Act.put, List.setIfInBounds_toArray, List.set_cons_zero, List.set_cons_succ]
      refine takeRun (i := 17) (v := ?_) rfl (by kernel_rfl) (by kernel_rfl) (by kernel_rfl) (fun _ _ _ h => h) rfl ?_ (by assumption) ?_
      rotate_left
      · (intro w hSw; (try dsimp only at hSw); go_simp; (try with_reducible rfl))
      try simp only [Act.put, List.setIfInBounds_toArray, List.set_cons_zero, List.set_cons_succ]
      refine takeRun (i := 18) (v := ?_) rfl (by kernel_rfl) (by kernel_rfl) (by kernel_rfl) (fun _ _ _ h => h) rfl ?_ (by assumption) ?_
      rotate_left
      · (intro w hSw; (try dsimp only at hSw); go_simp; (try with_reducible rfl))
      try simp only [Act.put, List.setIfInBounds_toArray, List.set_cons_zero, List.set_cons_succ]
      refine wpAnyH_done (by kernel_rfl) ?_ _
      go_wp2_with fail
      go_ret
      exact ⟨rfl, bthen hb7' hb8⟩
  | some x =>
    obtain ⟨Ax, cx, Bx, dx, he, rw2, rb2, hb2⟩ := hT
    simp only [Rp.v, rpV] at he
    subst he
    obtain ⟨hrx, hbx⟩ := parseR_some HRR.out
    obtain ⟨kx, hkx, hlx⟩ := parseR_read HRR.out
    have hxok : x.ok := by rw [hkx]; exact readK_ok hl
    have hxw : x.words.length ≤ 1000 ∧ x.bits.length ≤ 10000 := by
      have := readK_len kx l
      rw [hkx]; omega
    obtain ⟨hxw1, hxw2⟩ := hxw
    clear hkx
    have hb2' := bthen hb1 hb2
    have hb3 := hb2'.alloc hb2'.size (.cells #[.int .u8 (x.fn : Int), .int .u8 (x.ex : Int), .slice Bx x.bits.length dx, .slice Ax x.words.length cx, .int .u16 (x.at_ : Int), .int .u16 (x.many : Int)] 52)
    have hb23 := (Below.refl _ w2).alloc (Nat.le_refl _) (.cells #[.int .u8 (x.fn : Int), .int .u8 (x.ex : Int), .slice Bx x.bits.length dx, .slice Ax x.words.length cx, .int .u16 (x.at_ : Int), .int .u16 (x.many : Int)] 52)
    have bx3 := (bx.all hb2).alloc (.cells #[.int .u8 (x.fn : Int), .int .u8 (x.ex : Int), .slice Bx x.bits.length dx, .slice Ax x.words.length cx, .int .u16 (x.at_ : Int), .int .u16 (x.many : Int)] 52)
    have by3 := (by_.all hb2).alloc (.cells #[.int .u8 (x.fn : Int), .int .u8 (x.ex : Int), .slice Bx x.bits.length dx, .slice Ax x.words.length cx, .int .u16 (x.at_ : Int), .int .u16 (x.many : Int)] 52)
    have bz3 := Blk.new w2 52 #[.int .u8 (x.fn : Int), .int .u8 (x.ex : Int), .slice Bx x.bits.length dx, .slice Ax x.words.length cx, .int .u16 (x.at_ : Int), .int .u16 (x.many : Int)]
    have rw3 := rw2.below hb23
    have rb3 := rb2.below hb23
    have F3 := Lib.hid (fun W (h : RpR W x Ax Bx) => reply_Bytes x Ax cx Bx dx W h hxok (by omega) (by omega))
    have F4 := Lib.hid (fun W (h : RpR W x Ax Bx) => reply_Right x Ax cx Bx dx W h hxok (by omega) (by omega))
    rw [hrx] at F4
    have ex : errR x = 0 := by unfold errR; rw [if_pos hrx]
    have hbn : bytesR x = l := hbx
    rw [ex, hbn, HN.out] at F3
    have F5 := Lib.hid (fun W (A' : Option Addr) (c' : Nat) (h1 : Rd W A (bs l)) (h2 : Rd W A' (bs l)) => low_Same A A' n c n c' l l W h1 h2 hl hl HN.out HN.out)
    rw [sameB_self] at F5
    simp only [Rp.v, rpV] at F3 F4
    clear ex hbn hrx hbx hlx
    go_upto_region 4 with fail
    generalize w2.alloc (.cells #[.int .u8 (x.fn : Int), .int .u8 (x.ex : Int), .slice Bx x.bits.length dx, .slice Ax x.words.length cx, .int .u16 (x.at_ : Int), .int .u16 (x.many : Int)] 52) = w3 at *
    obtain ⟨g3, hg3⟩ : ∃ g, w2.heap.size = g := ⟨_, rfl⟩
    rw [hg3] at bz3 ⊢
    clear hg3 hb2 hb2' hb23 rw2 rb2 bx by_
    obtain ⟨z0, z1, z2, z3, z4, z5⟩ := bz3.c6
    go_wp2_with fail
    refine (F3.out _ ⟨rw3.rd, rb3.rd⟩).mono ?_
    rintro e w4 ⟨A4, c4, rfl, o4, hb4⟩
    have hb4' := bthen hb3 hb4
    have bx4 := bx3.all hb4
    have by4 := by3.all hb4
    have bz4 := bz3.all hb4
    clear z0 z1 z2 z3 z4 z5
    obtain ⟨z0, z1, z2, z3, z4, z5⟩ := bz4.c6
    go_wp2_with fail
    refine (F4.out _ ⟨(rw3.below hb4).rd, (rb3.below hb4).rd⟩).mono ?_
    rintro e w5 ⟨rfl, hb5a⟩
    have hb5 := bthen hb4' hb5a
    have bx5 := bx4.all hb5a
    have by5 := by4.all hb5a
    have o5 := o4.below hb5a
    clear z0 z1 z2 z3 z4 z5 bz4 bz3
    go_wp2_with fail
    refine (F5.out _ A4 c4 (hA.below hb5) o5.rd).mono ?_
    rintro e w6 ⟨rfl, rfl⟩
    clear hb4 hb4' bx4 by4 hb5a o4 F3 F4 F5 hb3 bx3 by3 rw3 rb3
    go_upto_region 8 with fail
    have hRa5 := hRa.below hb5
    have hRo5 := hRo.below hb5
    obtain ⟨p0, p1, p2, p3, p4, p5⟩ := bx5.c6
    go_wp2_with fail
    refine (F1.out _ hRa5).mono ?_
    rintro e w6 ⟨A6, c6, rfl, o6, hb6⟩
    have hb6' := bthen hb5 hb6
    have bx6 := bx5.all hb6
    have by6 := by5.all hb6
    clear p0 p1 p2 p3 p4 p5
    obtain ⟨q0, q1, q2, q3, q4, q5⟩ := by6.c6
    go_wp2_with fail
    refine (F2.out _ (hRo.below hb6')).mono ?_
    rintro e w7 ⟨A7, c7, rfl, o7, hb7⟩
    have hb7' := bthen hb6' hb7
    have bx7 := bx6.all hb7
    have by7 := by6.all hb7
    have o67 := o6.below hb7
    clear q0 q1 q2 q3 q4 q5 hb5 bx5 by5 hb6 hb6' bx6 by6 o6 hb7 hRa5 hRo5
    have hRa7 := hRa.below hb7'
    have hRo7 := hRo.below hb7'
    obtain ⟨nx, hnx⟩ : ∃ k, (bytesR a).length = k := ⟨_, rfl⟩
    obtain ⟨ny, hny⟩ : ∃ k, (bytesR o).length = k := ⟨_, rfl⟩
    have HNX := Lib.hid hnx
    have HNY := Lib.hid hny
    rw [hnx, hny]
    clear hnx hny
    by_cases ra : rightR a = true
    · have e1 : errR a = 0 := by rw [HE1.out, if_pos ra]
      by_cases ro : rightR o = true
      · have e2 : errR o = 0 := by rw [HE2.out, if_pos ro]
        have hs : sameB (bytesR a) (bytesR o) = sameR a o := by
          have := HU.out
          rw [e1, e2] at this
          simpa using this
        have G1 := Lib.hid (fun W (h1 : Rd W A6 (bs (bytesR a))) (h2 : Rd W A7 (bs (bytesR o))) => low_Same A6 A7 nx c6 ny c7 (bytesR a) (bytesR o) W h1 h2 (hBa.out ra) (hBo.out ro) HNX.out HNY.out)
        rw [hs] at G1
        obtain ⟨y, hy⟩ : ∃ y, sameR a o = y := ⟨_, rfl⟩
        rw [hy] at G1 S1
        rw [e1, e2]
        clear hy hs e1 e2 ra ro HU HE1 HE2
        have K : Hid (∀ W : World, Below w7.heap.size w7 W → W.cell? ⟨g, 0, none⟩ = some (.int .u8 (a.fn : Int)) ∧ W.cell? ⟨g, 1, none⟩ = some (.int .u8 (a.ex : Int)) ∧ W.cell? ⟨g, 2, none⟩ = some (.slice Ba a.bits.length da) ∧ W.cell? ⟨g, 3, none⟩ = some (.slice Aa a.words.length ca) ∧ W.cell? ⟨g, 4, none⟩ = some (.int .u16 (a.at_ : Int)) ∧ W.cell? ⟨g, 5, none⟩ = some (.int .u16 (a.many : Int)) ∧ W.cell? ⟨g2, 0, none⟩ = some (.int .u8 (o.fn : Int)) ∧ W.cell? ⟨g2, 1, none⟩ = some (.int .u8 (o.ex : Int)) ∧ W.cell? ⟨g2, 2, none⟩ = some (.slice Bo o.bits.length do_) ∧ W.cell? ⟨g2, 3, none⟩ = some (.slice Ao o.words.length co) ∧ W.cell? ⟨g2, 4, none⟩ = some (.int .u16 (o.at_ : Int)) ∧ W.cell? ⟨g2, 5, none⟩ = some (.int .u16 (o.many : Int))) := fun W hW => ⟨(bx7.all hW).cell 0, (bx7.all hW).cell 1, (bx7.all hW).cell 2, (bx7.all hW).cell 3, (bx7.all hW).cell 4, (bx7.all hW).cell 5, (by7.all hW).cell 0, (by7.all hW).cell 1, (by7.all hW).cell 2, (by7.all hW).cell 3, (by7.all hW).cell 4, (by7.all hW).cell 5⟩
        have b7 := Below.refl w7.heap.size w7
        go_upto_region 10 with fail
        go_region_held3 (fun W => W.cell? ⟨g, 0, none⟩ = some (.int .u8 (a.fn : Int)) ∧ W.cell? ⟨g, 1, none⟩ = some (.int .u8 (a.ex : Int)) ∧ W.cell? ⟨g, 2, none⟩ = some (.slice Ba a.bits.length da) ∧ W.cell? ⟨g, 3, none⟩ = some (.slice Aa a.words.length ca) ∧ W.cell? ⟨g, 4, none⟩ = some (.int .u16 (a.at_ : Int)) ∧ W.cell? ⟨g, 5, none⟩ = some (.int .u16 (a.many : Int)) ∧ W.cell? ⟨g2, 0, none⟩ = some (.int .u8 (o.fn : Int)) ∧ W.cell? ⟨g2, 1, none⟩ = some (.int .u8 (o.ex : Int)) ∧ W.cell? ⟨g2, 2, none⟩ = some (.slice Bo o.bits.length do_) ∧ W.cell? ⟨g2, 3, none⟩ = some (.slice Ao o.words.length co) ∧ W.cell? ⟨g2, 4, none⟩ = some (.int .u16 (o.at_ : Int)) ∧ W.cell? ⟨g2, 5, none⟩ = some (.int .u16 (o.many : Int))) (first | exact K.out _ b7.drew | exact K.out _ b7 | exact K.out _ hb9 | exact K.out _ (bthen hb9 ‹_›))
          (first
            | (go_at_call 22; refine (G1.out _ o67.rd.drew o7.rd.drew).mono ?_; rintro e w8 ⟨rfl, rfl⟩)
            | (go_at_call 39; refine (S1.out _ (hRa7.below b7.drew) (hRo7.below b7.drew)).mono ?_; rintro e w9 ⟨rfl, hb9⟩; replace hb9 := undrew hb9)
            | (go_at_call 32; refine (reply_awake _).mono ?_; rintro e w9b ⟨rfl, hb10⟩; have hb9b := bthen hb9 hb10))
        go_wp2_with fail
        go_ret
        exact ⟨rfl, bthen hb7' hb9b⟩
      · have e2 : errR o = 13 := by rw [HE2.out, if_neg ro]
        rw [e1, e2]
        go_upto_region 10 with fail
        refine wp_region_held_drew (S := fun _ => True) (by kernel_rfl) ?_ (fun hHeld => ?_)
        · exact trivial
        refine takeRun (i := 0) (v := ?_) rfl (by kernel_rfl) (by kernel_rfl) (by kernel_rfl) (fun _ _ _ h => h) rfl ?_ (by assumption) ?_
        rotate_left
        · (intro w hSw; (try dsimp only at hSw); go_simp; (try with_reducible rfl))
        try simp only [Act.put, List.setIfInBounds_toArray, List.set_cons_zero, List.set_cons_succ]
        refine takeRun (i := 1) (v := ?_) rfl (by kernel_rfl) (by kernel_rfl) (by kernel_rfl) (fun _ _ _ h => h) rfl ?_ (by assumption) ?_
        rotate_left
        · (intro w hSw; (try dsimp only at hSw); go_simp; (try with_reducible rfl))
        try simp only [Act.put, List.setIfInBounds_toArray, List.set_cons_zero, List.set_cons_succ]
        refine takeRun (i := 2) (v := ?_) rfl (by kernel_rfl) (by kernel_rfl) (by kernel_rfl) (fun _ _ _ h => h) rfl ?_ (by assumption) ?_
        rotate_left
        · (intro w hSw; (try dsimp only at hSw); go_simp; (try with_reducible rfl))
        try simp only [Act.put, List.setIfInBounds_toArray, List.set_cons_zero, List.set_cons_succ]
        refine takeRun (i := 3) (v := ?_) rfl (by kernel_rfl) (by kernel_rfl) (by kernel_rfl) (fun _ _ _ h => h) rfl ?_ (by assumption) ?_
        rotate_left
        · (intro w hSw; (try dsimp only at hSw); go_simp; (try with_reducible rfl))
        try simp only [Act.put, List.setIfInBounds_toArray, List.set_cons_zero, List.set_cons_succ]
        refine takeRun (i := 4) (v := ?_) rfl (by kernel_rfl) (by kernel_rfl) (by kernel_rfl) (fun _ _ _ h => h) rfl ?_ (by assumption) ?_
        rotate_left
        · (intro w hSw; (try dsimp only at hSw); go_simp; (try with_reducible rfl))
        try simp only [Act.put, List.setIfInBounds_toArray, List.set_cons_zero, List.set_cons_succ]
        refine takeRun (i := 5) (v := ?_) rfl (by kernel_rfl) (by kernel_rfl) (by kernel_rfl) (fun _ _ _ h => h) rfl ?_ (by assumption) ?_
        rotate_left
        · (intro w hSw; (try dsimp only at hSw); go_simp; (try with_reducible rfl))
        try simp only [Act.put, List.setIfInBounds_toArray, List.set_cons_zero, List.set_cons_succ]
        refine takeRun (i := 6) (v := ?_) rfl (by kernel_rfl) (by kernel_rfl) (by kernel_rfl) (fun _ _ _ h => h) rfl ?_ (by assumption) ?_
        rotate_left
        · (intro w hSw; (try dsimp only at hSw); go_simp; (try with_reducible rfl))
        try simp only [Act.put, List.setIfInBounds_toArray, List.set_cons_zero, List.set_cons_succ]
        refine takeSkip (i := 7) rfl (by kernel_rfl) (by kernel_rfl) (by kernel_rfl) (fun _ _ _ h => h) rfl (by assumption) ?_
        try simp only [Act.put, List.setIfInBounds_toArray, List.set_cons_zero, List.set_cons_succ]
        refine takeSkip (i := 8) rfl (by kernel_rfl) (by kernel_rfl) (by kernel_rfl) (fun _ _ _ h => h) rfl (by assumption) ?_
        try simp only [Act.put, List.setIfInBounds_toArray, List.set_cons_zero, List.set_cons_succ]
        refine takeSkip (i := 9) rfl (by kernel_rfl) (by kernel_rfl) (by kernel_rfl) (fun _ _ _ h => h) rfl (by assumption) ?_
        try simp only [Act.put, List.setIfInBounds_toArray, List.set_cons_zero, List.set_cons_succ]
        refine takeSkip (i := 10) rfl (by kernel_rfl) (by kernel_rfl) (by kernel_rfl) (fun _ _ _ h => h) rfl (by assumption) ?_
        try simp only [Act.put, List.setIfInBounds_toArray, List.set_cons_zero, List.set_cons_succ]
        refine takeSkip (i := 11) rfl (by kernel_rfl) (by kernel_rfl) (by kernel_rfl) (fun _ _ _ h => h) rfl (by assumption) ?_
        try simp only [Act.put, List.setIfInBounds_toArray, List.set_cons_zero, List.set_cons_succ]
        refine takeSkip (i := 12) rfl (by kernel_rfl) (by kernel_rfl) (by kernel_rfl) (fun _ _ _ h => h) rfl (by assumption) ?_
        try simp only [Act.put, List.setIfInBounds_toArray, List.set_cons_zero, List.set_cons_succ]
        refine takeSkip (i := 13) rfl (by kernel_rfl) (by kernel_rfl) (by kernel_rfl) (fun _ _ _ h => h) rfl (by assumption) ?_
        try simp only [Act.put, List.setIfInBounds_toArray, List.set_cons_zero, List.set_cons_succ]
        refine takeRun (i := 14) (v := ?_) rfl (by kernel_rfl) (by kernel_rfl) (by kernel_rfl) (fun _ _ _ h => h) rfl ?_ (by assumption) ?_
        rotate_left
        · (intro w hSw; (try dsimp only at hSw); go_simp; (try with_reducible rfl))
        try simp only [Act.put, List.setIfInBounds_toArray, List.set_cons_zero, List.set_cons_succ]
        refine takeRun (i := 15) (v := ?_) rfl (by kernel_rfl) (by kernel_rfl) (by kernel_rfl) (fun _ _ _ h => h) rfl ?_ (by assumption) ?_
        rotate_left
        · (intro w hSw; (try dsimp only at hSw); go_simp; (try with_reducible rfl))
        try simp only [Act.put, List.setIfInBounds_toArray, List.set_cons_zero, List.set_cons_succ]
        refine goOne (i := 16) (by kernel_rfl) rfl (fun K hK => ?_)
        go_simp
        (refine (reply_awake _).mono ?_; rintro e w8 ⟨rfl, hb8⟩; replace hb8 := undrew hb8)
        go_wp2_with fail
        refine hK.out _ _ ?_ (fun hHeld => ?_)
        · exact trivial
        clear hK K
        try simp only [Act.put, List.setIfInBounds_toArray, List.set_cons_zero, List.set_cons_succ]
        refine takeRun (i := 17) (v := ?_) rfl (by kernel_rfl) (by kernel_rfl) (by kernel_rfl) (fun _ _ _ h => h) rfl ?_ (by assumption) ?_
        rotate_left
        · (intro w hSw; (try dsimp only at hSw); go_simp; (try with_reducible rfl))
        try simp only [Act.put, List.setIfInBounds_toArray, List.set_cons_zero, List.set_cons_succ]
        refine takeRun (i := 18) (v := ?_) rfl (by kernel_rfl) (by kernel_rfl) (by kernel_rfl) (fun _ _ _ h => h) rfl ?_ (by assumption) ?_
        rotate_left
        · (intro w hSw; (try dsimp only at hSw); go_simp; (try with_reducible rfl))
        try simp only [Act.put, List.setIfInBounds_toArray, List.set_cons_zero, List.set_cons_succ]
        refine wpAnyH_done (by kernel_rfl) ?_ _
        go_wp2_with fail
        go_ret
        exact ⟨rfl, bthen hb7' hb8⟩
    · have e1 : errR a = 13 := by rw [HE1.out, if_neg ra]
      rw [e1]
      go_upto_region 10 with fail
      refine wp_region_held_drew (S := fun _ => True) (by kernel_rfl) ?_ (fun hHeld => ?_)
      · exact trivial
      refine takeRun (i := 0) (v := ?_) rfl (by kernel_rfl) (by kernel_rfl) (by kernel_rfl) (fun _ _ _ h => h) rfl ?_ (by assumption) ?_
      rotate_left
      · (intro w hSw; (try dsimp only at hSw); go_simp; (try with_reducible rfl))
      try simp only [Act.put, List.setIfInBounds_toArray, List.set_cons_zero, List.set_cons_succ]
      refine takeRun (i := 1) (v := ?_) rfl (by kernel_rfl) (by kernel_rfl) (by kernel_rfl) (fun _ _ _ h => h) rfl ?_ (by assumption) ?_
      rotate_left
      · (intro w hSw; (try dsimp only at hSw); go_simp; (try with_reducible rfl))
      try simp only [Act.put, List.setIfInBounds_toArray, List.set_cons_zero, List.set_cons_succ]
      refine takeRun (i := 2) (v := ?_) rfl (by kernel_rfl) (by kernel_rfl) (by kernel_rfl) (fun _ _ _ h => h) rfl ?_ (by assumption) ?_
      rotate_left
      · (intro w hSw; (try dsimp only at hSw); go_simp; (try with_reducible rfl))
      try simp only [Act.put, List.setIfInBounds_toArray, List.set_cons_zero, List.set_cons_succ]
      refine takeSkip (i := 3) rfl (by kernel_rfl) (by kernel_rfl) (by kernel_rfl) (fun _ _ _ h => h) rfl (by assumption) ?_
      try simp only [Act.put, List.setIfInBounds_toArray, List.set_cons_zero, List.set_cons_succ]
      refine takeSkip (i := 4) rfl (by kernel_rfl) (by kernel_rfl) (by kernel_rfl) (fun _ _ _ h => h) rfl (by assumption) ?_
      try simp only [Act.put, List.setIfInBounds_toArray, List.set_cons_zero, List.set_cons_succ]
      refine takeRun (i := 5) (v := ?_) rfl (by kernel_rfl) (by kernel_rfl) (by kernel_rfl) (fun _ _ _ h => h) rfl ?_ (by assumption) ?_
      rotate_left
      · (intro w hSw; (try dsimp only at hSw); go_simp; (try with_reducible rfl))
      try simp only [Act.put, List.setIfInBounds_toArray, List.set_cons_zero, List.set_cons_succ]
      refine takeRun (i := 6) (v := ?_) rfl (by kernel_rfl) (by kernel_rfl) (by kernel_rfl) (fun _ _ _ h => h) rfl ?_ (by assumption) ?_
      rotate_left
      · (intro w hSw; (try dsimp only at hSw); go_simp; (try with_reducible rfl))
      try simp only [Act.put, List.setIfInBounds_toArray, List.set_cons_zero, List.set_cons_succ]
      refine takeSkip (i := 7) rfl (by kernel_rfl) (by kernel_rfl) (by kernel_rfl) (fun _ _ _ h => h) rfl (by assumption) ?_
      try simp only [Act.put, List.setIfInBounds_toArray, List.set_cons_zero, List.set_cons_succ]
      refine takeSkip (i := 8) rfl (by kernel_rfl) (by kernel_rfl) (by kernel_rfl) (fun _ _ _ h => h) rfl (by assumption) ?_
      try simp only [Act.put, List.setIfInBounds_toArray, List.set_cons_zero, List.set_cons_succ]
      refine takeSkip (i := 9) rfl (by kernel_rfl) (by kernel_rfl) (by kernel_rfl) (fun _ _ _ h => h) rfl (by assumption) ?_
      try simp only [Act.put, List.setIfInBounds_toArray, List.set_cons_zero, List.set_cons_succ]
      refine takeSkip (i := 10) rfl (by kernel_rfl) (by kernel_rfl) (by kernel_rfl) (fun _ _ _ h => h) rfl (by assumption) ?_
      try simp only [Act.put, List.setIfInBounds_toArray, List.set_cons_zero, List.set_cons_succ]
      refine takeSkip (i := 11) rfl (by kernel_rfl) (by kernel_rfl) (by kernel_rfl) (fun _ _ _ h => h) rfl (by assumption) ?_
      try simp only [Act.put, List.setIfInBounds_toArray, List.set_cons_zero, List.set_cons_succ]
      refine takeSkip (i := 12) rfl (by kernel_rfl) (by kernel_rfl) (by kernel_rfl) (fun _ _ _ h => h) rfl (by assumption) ?_
      try simp only [Act.put, List.setIfInBounds_toArray, List.set_cons_zero, List.set_cons_succ]
      refine takeSkip (i := 13) rfl (by kernel_rfl) (by kernel_rfl) (by kernel_rfl) (fun _ _ _ h => h) rfl (by assumption) ?_
      try simp only [Act.put, List.setIfInBounds_toArray, List.set_cons_zero, List.set_cons_succ]
      refine takeRun (i := 14) (v := ?_) rfl (by kernel_rfl) (by kernel_rfl) (by kernel_rfl) (fun _ _ _ h => h) rfl ?_ (by assumption) ?_
      rotate_left
      · (intro w hSw; (try dsimp only at hSw); go_simp; (try with_reducible rfl))
      try simp only [Act.put, List.setIfInBounds_toArray, List.set_cons_zero, List.set_cons_succ]
      refine takeRun (i := 15) (v := ?_) rfl (by kernel_rfl) (by kernel_rfl) (by kernel_rfl) (fun _ _ _ h => h) rfl ?_ (by assumption) ?_
      rotate_left
      · (intro w hSw; (try dsimp only at hSw); go_simp; (try with_reducible rfl))
      try simp only [Act.put, List.setIfInBounds_toArray, List.set_cons_zero, List.set_cons_succ]
      refine goOne (i := 16) (by kernel_rfl) rfl (fun K hK => ?_)
      go_simp
      (refine (reply_awake _).mono ?_; rintro e w8 ⟨rfl, hb8⟩; replace hb8 := undrew hb8)
      go_wp2_with fail
      refine hK.out _ _ ?_ (fun hHeld => ?_)
      · exact trivial
      clear hK K
      try simp only [Act.put, List.setIfInBounds_toArray, List.set_cons_zero, List.set_cons_succ]
      refine takeRun (i := 17) (v := ?_) rfl (by kernel_rfl) (by kernel_rfl) (by kernel_rfl) (fun _ _ _ h => h) rfl ?_ (by assumption) ?_
      rotate_left
      · (intro w hSw; (try dsimp only at hSw); go_simp; (try with_reducible rfl))
      try simp only [Act.put, List.setIfInBounds_toArray, List.set_cons_zero, List.set_cons_succ]
      refine takeRun (i := 18) (v := ?_) rfl (by kernel_rfl) (by kernel_rfl) (by kernel_rfl) (fun _ _ _ h => h) rfl ?_ (by assumption) ?_
      rotate_left
      · (intro w hSw; (try dsimp only at hSw); go_simp; (try with_reducible rfl))
      try simp only [Act.put, List.setIfInBounds_toArray, List.set_cons_zero, List.set_cons_succ]
      refine wpAnyH_done (by kernel_rfl) ?_ _
      go_wp2_with fail
      go_ret
      exact ⟨rfl, bthen hb7' hb8⟩
end Go.Proofs.Ythddplokicbofaa
