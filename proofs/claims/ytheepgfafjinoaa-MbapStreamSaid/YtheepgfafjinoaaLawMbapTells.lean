/- saucierlaw05.MbapTells returns true: a frame's bytes, and which frames bytes are, and begin with, is the reference's. -/
import Derived.Test.YtheepgfafjinoaaLawMbapBack
namespace Go.Proofs.Ytheepgfafjinoaa
open Go.RowKit
set_option linter.unusedSimpArgs false
set_option linter.unusedVariables false

def parV (l : List Nat) : Fr := if parF l = true then fstF l else Fr.zero
def parE (l : List Nat) : Nat := if parF l = true then 0 else 10
theorem Fx.R.zero (w : World) : Fx.R ⟨Fr.zero, none, 0⟩ w := ⟨Rd.nil, by intro x hx; cases hx⟩
theorem mb_Parse_any (A : Option Addr) (n c : Nat) (l : List Nat) (w : World) (hA : Rd w A (bs l)) (hn : l.length = n) (hl : Bs l) (hm : n ≤ 1000000000) (hc : n ≤ c) :
    Calls Try.prog 30 #[.slice A n c] w fun e w' => ∃ x : Fx, x.f = parV l ∧ e = .returned (.tuple #[.agg #[.int .u16 (x.f.tx : Int), .int .u8 (x.f.unit : Int), .slice x.A x.f.pdu.length x.c], .int .i64 (parE l : Nat)]) ∧ x.R w' ∧ Below w.heap.size w w' := by
  by_cases hp : parF l = true
  · have hp' := hp
    unfold parF at hp'
    simp only [Bool.and_eq_true, decide_eq_true_eq] at hp'
    refine (mb_Parse_yes A n c l w hA hn hl hm hc hp).mono ?_
    rintro e w' ⟨A', c', h1, h2, h3⟩
    refine ⟨⟨fstF l, A', c'⟩, by unfold parV; rw [if_pos hp], ?_, ⟨h2.rd, (fstF_ok hl).2.2⟩, h3⟩
    rw [h1, show parE l = 0 from by unfold parE; rw [if_pos hp]]
    simp only
    rw [fstF_pdu hp'.1, hp'.2, hn]
    rfl
  · refine (mb_Parse_no A n c l w hA hn hl hm hc (by simpa using hp)).mono ?_
    rintro e w' ⟨h1, h3⟩
    refine ⟨⟨Fr.zero, none, 0⟩, by unfold parV; rw [if_neg hp], ?_, Fx.R.zero w', h3⟩
    rw [h1, show parE l = 10 from by unfold parE; rw [if_neg hp]]
    rfl
theorem r05_Parse_any (A : Option Addr) (n c : Nat) (l : List Nat) (w : World) (hA : Rd w A (bs l)) (hn : l.length = n) (hl : Bs l) (hm : n ≤ 1000000000) :
    Calls Try.prog 31 #[.slice A n c] w fun e w' => ∃ x : Fx, x.f = parV l ∧ e = .returned (.tuple #[.agg #[.int .u16 (x.f.tx : Int), .int .u8 (x.f.unit : Int), .slice x.A x.f.pdu.length x.c], .int .i64 (parE l : Nat)]) ∧ x.R w' ∧ Below w.heap.size w w' := by
  by_cases hp : parF l = true
  · have hp' := hp
    unfold parF at hp'
    simp only [Bool.and_eq_true, decide_eq_true_eq] at hp'
    refine (r05_Parse_yes A n c l w hA hn hl hm hp).mono ?_
    rintro e w' ⟨A', c', h1, h2, h3⟩
    refine ⟨⟨fstF l, A', c'⟩, by unfold parV; rw [if_pos hp], ?_, ⟨h2.rd, (fstF_ok hl).2.2⟩, h3⟩
    rw [h1, show parE l = 0 from by unfold parE; rw [if_pos hp]]
    simp only
    rw [fstF_pdu hp'.1, hp'.2, hn]
    rfl
  · refine (r05_Parse_no A n c l w hA hn hl hm (by simpa using hp)).mono ?_
    rintro e w' ⟨h1, h3⟩
    refine ⟨⟨Fr.zero, none, 0⟩, by unfold parV; rw [if_neg hp], ?_, Fx.R.zero w', h3⟩
    rw [h1, show parE l = 10 from by unfold parE; rw [if_neg hp]]
    rfl
theorem cutF_count : ∀ (k : Nat) (l : List Nat), l.length ≤ k → (cutF l).1.length ≤ l.length := by
  intro k
  induction k with
  | zero =>
    intro l hl
    rw [cutF_no (by unfold hasF; rw [decide_eq_false (by omega)]; rfl)]
    simp
  | succ k ih =>
    intro l hl
    by_cases h : hasF l = true
    · have hh := hasF_len h
      rw [cutF_yes h]
      have := ih (l.drop (lenF l)) (by simp; omega)
      simp only [List.length_drop] at this
      simp only [List.length_cons]
      omega
    · rw [cutF_no (by simpa using h)]
      simp

set_option maxRecDepth 100000 in
set_option maxHeartbeats 4000000 in
theorem MbapTells_walk (f : Fr) (A : Option Addr) (n c : Nat) (A1 : Option Addr) (n1 c1 : Nat) (l : List Nat) (w : World) (hA : Rd w A (bs f.pdu)) (hn : f.pdu.length = n) (hok : f.ok) (hnc : n ≤ c)
    (hB : Rd w A1 (bs l)) (hn1 : l.length = n1) (hl : Bs l) (hnc1 : n1 ≤ c1) (hcm1 : c1 ≤ 9223372036854775807) :
    Calls Try.prog 7 #[frV f.tx f.unit A n c, .slice A1 n1 c1] w fun e w' => e = .returned (.bool true) ∧ Below w.heap.size w w' := by
  have HN := Lib.hid hn
  have HN1 := Lib.hid hn1
  have bx := Blk.new w 37 #[.int .u16 (f.tx : Int), .int .u8 (f.unit : Int), .slice A n c]
  have hb1 := (Below.refl _ w).alloc (Nat.le_refl _) (.cells #[.int .u16 (f.tx : Int), .int .u8 (f.unit : Int), .slice A n c] 37)
  clear hn hn1
  by_cases h300 : 300 < n
  · unfold frV
    go_enter Try.func7, Try.ntmps7
    go_wp2_with fail
    refine (mbap_awake _).mono ?_
    rintro e w5 ⟨rfl, hb5⟩
    go_wp2_with fail
    go_ret
    exact ⟨rfl, bthen hb1 hb5⟩
  by_cases h400 : 2000 < n1
  · have t1 : decide ((300 : Int) < (n : Int)) = false := by simp; omega
    unfold frV
    go_enter Try.func7, Try.ntmps7
    go_wp2_with fail
    refine (mbap_awake _).mono ?_
    rintro e w5 ⟨rfl, hb5⟩
    go_wp2_with fail
    go_ret
    exact ⟨rfl, bthen hb1 hb5⟩
  have t1 : decide ((300 : Int) < (n : Int)) = false := by simp; omega
  have t2 : decide ((2000 : Int) < (n1 : Int)) = false := by simp; omega
  unfold frV
  go_enter Try.func7, Try.ntmps7
  go_wp2_with fail
  have hb2 := hb1
  have bx2 := bx
  generalize w.alloc (.cells #[.int .u16 (f.tx : Int), .int .u8 (f.unit : Int), .slice A n c] 37) = w2 at *
  clear hb1 bx
  have hpack : Calls Try.prog 26 #[.agg #[.int .u16 (f.tx : Int), .int .u8 (f.unit : Int), .slice A n c]] w2 fun e w' => Below w2.heap.size w2 w' ∧ ∃ A' m c' er, e = .returned (.tuple #[.slice A' m c', .int .i64 ((er : Nat) : Int)]) ∧
      Hid ((f.right = false ∧ er = 2 ∧ m = 0) ∨ (f.right = true ∧ er = 0 ∧ m = 7 + n ∧ Rd w' A' (bs (packF f)))) := by
    by_cases hp : f.right = true
    · refine (mb_Pack_ok f A n c w2 (hA.below hb2) HN.out hok hp).mono ?_
      rintro e w' ⟨A', c', h1, h2, h3⟩
      exact ⟨h3, A', _, c', 0, h1, .inr ⟨hp, rfl, rfl, h2.rd⟩⟩
    · refine (mb_Pack_no f A n c w2 HN.out (by simpa using hp) (by omega)).mono ?_
      rintro e w' ⟨h1, h2⟩
      exact ⟨h2, none, 0, 0, 2, h1, .inl ⟨by simpa using hp, rfl, rfl⟩⟩
  have HPK := Lib.hid hpack
  clear hpack
  refine HPK.out.mono ?_
  rintro e w3 ⟨hb3, A3, m3, c3, er, rfl, HC⟩
  have hb3' := bthen hb2 hb3
  have bx3 := bx2.all hb3
  clear HPK hb2 bx2 t1 t2
  obtain ⟨d0, d1, d2⟩ := bx3.c3
  go_wp2_with fail
  have hright := r05_Right f A n c w3 HN.out (by omega)
  unfold frV at hright
  refine hright.mono ?_
  clear hright
  rintro e w4 ⟨rfl, hb4⟩
  have hb4' := bthen hb3' hb4
  have bx4 := bx3.all hb4
  clear d0 d1 d2 bx3
  go_upto_if 34 with fail
  go_cut [28] (fun v wc => Below w.heap.size w wc ∧ Blk wc w.heap.size 37 #[.int .u16 (f.tx : Int), .int .u8 (f.unit : Int), .slice A n c])
  case first =>
    obtain ⟨d0, d1, d2⟩ := bx4.c3
    rcases HC.out with ⟨hri, rfl, rfl⟩ | ⟨hri, rfl, rfl, hr3⟩
    · rw [hri]
      go_wp2_with fail
      go_meet
      exact ⟨hb4', bx4⟩
    · rw [hri]
      have hpk := r05_Pack f A n c w4 (hA.below hb4') HN.out hok hri
      unfold frV at hpk
      have HPK := Lib.hid hpk
      have hBp := packF_Bs hok hri
      have HPL : Hid ((packF f).length = 7 + n) := by (show _ = _); rw [packF_length, HN.out]; omega
      have hr4 := hr3.below hb4
      clear hpk hri
      go_wp2_with fail
      refine HPK.out.mono ?_
      rintro e w5 ⟨A5, c5, rfl, ho5, hb5⟩
      go_wp2_with fail
      refine (l06_Same A3 A5 (7 + n) c3 (7 + n) c5 _ _ _ (hr4.below hb5) ho5.rd hBp hBp HPL.out HPL.out).mono ?_
      rintro e w6 ⟨rfl, rfl⟩
      rw [sameB_self]
      go_wp2_with fail
      go_meet
      exact ⟨bthen hb4' hb5, bx4.all hb5⟩
  case rest =>
    obtain ⟨hbc, bxc⟩ := hcut
    clear HC hb3' hb3 hb4 hb4' bx4
    go_wp2_with fail
    refine (mb_Parse_any A1 n1 c1 l _ (hB.below hbc) HN1.out hl (by omega) hnc1).mono ?_
    rintro e w5 ⟨x, hx, rfl, hxr, hb5⟩
    have HX := Lib.hid hx
    have hb5' := bthen hbc hb5
    clear hx
    obtain ⟨pe, hpe⟩ : ∃ pe, parE l = pe := ⟨_, rfl⟩
    rw [hpe]
    have HPE := Lib.hid hpe
    clear hpe
    go_wp2_with fail
    have hb6 := hb5'.alloc hb5'.size (.cells #[.int .u16 (x.f.tx : Int), .int .u8 (x.f.unit : Int), .slice x.A x.f.pdu.length x.c] 37)
    have bx6 := Blk.new w5 37 #[.int .u16 (x.f.tx : Int), .int .u8 (x.f.unit : Int), .slice x.A x.f.pdu.length x.c]
    have hxr6 := hxr.below ((Below.refl _ w5).alloc (Nat.le_refl _) (.cells #[.int .u16 (x.f.tx : Int), .int .u8 (x.f.unit : Int), .slice x.A x.f.pdu.length x.c] 37))
    generalize w5.alloc (.cells #[.int .u16 (x.f.tx : Int), .int .u8 (x.f.unit : Int), .slice x.A x.f.pdu.length x.c] 37) = w6 at *
    clear hb5 hb5' hxr
    refine (r05_Parse_any A1 n1 c1 l _ (hB.below hb6) HN1.out hl (by omega)).mono ?_
    rintro e w7 ⟨y, hy, rfl, hyr, hb7⟩
    have HY := Lib.hid hy
    have hb7' := bthen hb6 hb7
    have bx7 := bx6.all hb7
    have hxr7 := hxr6.below hb7
    rw [HPE.out]
    clear hy bx6 hxr6 hb6 hb7
    go_wp2_with fail
    have hb8 := hb7'.alloc hb7'.size (.cells #[.int .u16 (y.f.tx : Int), .int .u8 (y.f.unit : Int), .slice y.A y.f.pdu.length y.c] 37)
    have hbk := (Below.refl _ w7).alloc (Nat.le_refl _) (.cells #[.int .u16 (y.f.tx : Int), .int .u8 (y.f.unit : Int), .slice y.A y.f.pdu.length y.c] 37)
    have by8 := Blk.new w7 37 #[.int .u16 (y.f.tx : Int), .int .u8 (y.f.unit : Int), .slice y.A y.f.pdu.length y.c]
    have bx8 := bx7.all hbk
    have hxr8 := hxr7.below hbk
    have hyr8 := hyr.below hbk
    generalize w7.alloc (.cells #[.int .u16 (y.f.tx : Int), .int .u8 (y.f.unit : Int), .slice y.A y.f.pdu.length y.c] 37) = w8 at *
    clear bx7 hxr7 hyr hbk hb7'
    refine (mb_Cut A1 n1 c1 l _ (hB.below hb8) HN1.out hl (by omega) hnc1 hcm1).mono ?_
    rintro e w9 ⟨A9, c9, xs, hxs, rfl, o9, hG9, hb9⟩
    have HXS := Lib.hid hxs
    have hlx : xs.length ≤ 2000 := by
      have h1 := cutF_count _ l (Nat.le_refl _)
      rw [← hxs, List.length_map, HN1.out] at h1
      omega
    have hb9' := bthen hb8 hb9
    have bx9 := bx8.all hb9
    have by9 := by8.all hb9
    have hxr9 := hxr8.below hb9
    have hyr9 := hyr8.below hb9
    obtain ⟨g2, hg2⟩ : ∃ g, (cutF l).2 = g := ⟨_, rfl⟩
    obtain ⟨g3, hg3⟩ : ∃ g, cutErr l = g := ⟨_, rfl⟩
    rw [hg2, hg3]
    have HG2 := Lib.hid hg2
    have HG3 := Lib.hid hg3
    have HGX := Lib.hid hG9
    clear hxs bx8 by8 hxr8 hyr8 hb8 hg2 hg3 hG9
    go_wp2_with fail
    refine (r05_Cut A1 n1 c1 l _ (hB.below hb9') HN1.out hl (by omega) hnc1 hcm1).mono ?_
    rintro e w10 ⟨A10, c10, ys, hys, rfl, o10, hG10, hb10⟩
    have HYS := Lib.hid hys
    have hly : ys.length = xs.length := by
      have h1 := HXS.out
      rw [← hys] at h1
      have := congrArg List.length h1
      simpa using this.symm
    have HLY := Lib.hid hly
    have hb10' := bthen hb9' hb10
    have bx10 := bx9.all hb10
    have by10 := by9.all hb10
    have hxr10 := hxr9.below hb10
    have hyr10 := hyr9.below hb10
    rw [HG2.out, HG3.out, HLY.out]
    have HGY := Lib.hid hG10
    have o9' := o9.below hb10
    have HGX' : Hid (∀ x ∈ xs, x.R w10) := by (show ∀ _, _); intro x hx; exact (HGX.out x hx).r.below hb10
    obtain ⟨d0, d1, d2⟩ := bx10.c3
    obtain ⟨e0, e1, e2⟩ := by10.c3
    have l1 := bx10.lt
    have l2 := by10.lt
    have u1 : ((pe : Int) == (pe : Int)) = true := by simp
    have u2 : ((g2 : Int) == (g2 : Int)) = true := by simp
    have u3 : ((g3 : Int) == (g3 : Int)) = true := by simp
    clear hys bx9 by9 hxr9 hyr9 hb9' hly hG10 hb9 hbc bxc
    go_wp2_with fail
    have hbC := ((Below.refl _ w10).alloc (Nat.le_refl _) (.cells #[.int .u16 (x.f.tx : Int), .int .u8 (x.f.unit : Int), .slice x.A x.f.pdu.length x.c] 37)).alloc (by simp) (.cells #[.int .u16 (y.f.tx : Int), .int .u8 (y.f.unit : Int), .slice y.A y.f.pdu.length y.c] 37)
    have HF1 := Lib.hid (fxs_one_lit x)
    have HF2 := Lib.hid (fxs_one_lit y)
    have rd1 := (Rd.lit w10 37 _ HF1.out).alloc (.cells #[.int .u16 (y.f.tx : Int), .int .u8 (y.f.unit : Int), .slice y.A y.f.pdu.length y.c] 37)
    refine (l05_same _ _ 1 1 1 [x] [y] _ rd1 (Rd.litAt _ _ _ _ (by simp) HF2.out) rfl rfl (fun z hz => ?_) (fun z hz => ?_) (by simp only [List.map_cons, List.map_nil]; rw [HX.out, HY.out]) (by omega)).mono ?_
    · simp only [List.mem_singleton] at hz
      subst hz
      exact hxr10.below hbC
    · simp only [List.mem_singleton] at hz
      subst hz
      exact hyr10.below hbC
    rintro e w11 ⟨rfl, kd, rfl⟩
    have hb11 := below_drewN hbC kd
    have hb11' := bthen hb10' hb11
    have oa := o9'.below hb11
    have ob := o10.below hb11
    have HGX2 : Hid (∀ x ∈ xs, x.R _) := fun x hx => (HGX'.out x hx).below hb11
    have HGY2 : Hid (∀ x ∈ ys, x.R _) := fun x hx => (HGY.out x hx).r.below hb11
    generalize (((w10.alloc (.cells #[.int .u16 (x.f.tx : Int), .int .u8 (x.f.unit : Int), .slice x.A x.f.pdu.length x.c] 37)).alloc (.cells #[.int .u16 (y.f.tx : Int), .int .u8 (y.f.unit : Int), .slice y.A y.f.pdu.length y.c] 37))).drewN kd = w11 at *
    clear hbC rd1 HF1 HF2 d0 d1 d2 e0 e1 e2 l1 l2 bx10 by10
    go_wp2_with fail
    refine (l05_same A9 A10 xs.length c9 c10 xs ys _ oa.rd ob.rd rfl HLY.out HGX2.out HGY2.out (by rw [HXS.out, HYS.out]) (by omega)).mono ?_
    rintro e w12 ⟨rfl, ke, rfl⟩
    have hb12 := below_drewN hb11' ke
    generalize w11.drewN ke = w12 at *
    go_wp2_with fail
    refine (mbap_awake _).mono ?_
    rintro e w13 ⟨rfl, hb13⟩
    go_wp2_with fail
    go_ret
    exact ⟨rfl, bthen hb12 hb13⟩
end Go.Proofs.Ytheepgfafjinoaa
