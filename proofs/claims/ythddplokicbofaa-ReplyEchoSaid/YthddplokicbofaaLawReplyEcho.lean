/- The walk of the law ReplyEcho (written by gen_replyecho.py). -/
import Derived.Test.YthddplokicbofaaRpAwake
import Derived.Test.YthddplokicbofaaRpLaw
import Derived.Deep.DeepCutAuto
namespace Go.Proofs.Ythddplokicbofaa
open Go.RowKit
set_option linter.unusedSimpArgs false
set_option linter.unusedVariables false

theorem fits_not {a : Ak} {r : Rp} (h : rightA a = false) : fitsA a r = false ∧ echoA a = none := by
  refine ⟨by unfold fitsA; rw [h]; rfl, by unfold echoA; rw [if_neg (by simp [h])]⟩
theorem right_fn {a : Ak} (h : rightA a = true) : a.fn ≤ 23 := by
  have := right_isFn h
  unfold isFn at this
  rw [decide_eq_true_iff] at this
  omega
theorem fits_wrong {a : Ak} (h : rightA a = true) (x : Nat) (hx : x ≤ 5) : fitsA a (wrongR a.fn x) = decide (1 ≤ x ∧ x ≤ 4) := by
  have hf := right_fn h
  have hm : a.fn % 128 = a.fn := by omega
  unfold fitsA wrongR
  simp only [h, Bool.true_and, hm, decide_true, Bool.and_true]
  by_cases h0 : x = 0
  · subst h0
    have : rightR ⟨a.fn, 0, [], [], 0, 0⟩ = false := by
      rw [Bool.eq_false_iff]
      intro h'
      rcases rightR_kinds h' with ⟨f, x, h1, h2, h3, e⟩ | ⟨f, l, hf, h1, h2, h3, e⟩ | ⟨f, l, hf, h1, h2, e⟩ | ⟨t, x, e⟩ | ⟨t, x, e⟩ | ⟨t, m, h1, h2, e⟩ | ⟨t, m, h1, h2, e⟩ <;> injection e with e1 e2 e3 e4 e5 e6
      · omega
      · subst e3; simp at h1
      · subst e4; simp at h1
      · cases e3
      · cases e4
      · omega
      · omega
    rw [this]; simp
  · have hk : kindR ⟨a.fn, x, [], [], 0, 0⟩ = some .exc := by unfold kindR; rw [if_pos h0]
    rw [rightR_of hk]
    simp only [rightK, wrongR, hm, sameR_self, Bool.and_true, h0, ne_eq, not_false_eq_true, if_true]
    have : a.fn < 128 := by omega
    simp only [this, decide_true, Bool.true_and]
    by_cases h1 : 1 ≤ x <;> by_cases h2 : x ≤ 4 <;> simp [h1, h2]
theorem fits_next {a : Ak} (h : rightA a = true) : fitsA a (wrongR (a.fn + 1) 1) = false := by
  have hf := right_fn h
  unfold fitsA wrongR
  have : ¬ a.fn = (a.fn + 1) % 128 := by omega
  simp [this]
theorem echo_some {a : Ak} (h : rightA a = true) : (echoA a).isSome = decide (a.fn = 5 ∨ a.fn = 6 ∨ a.fn = 15 ∨ a.fn = 16) := by
  unfold echoA
  rw [if_pos h]
  by_cases h5 : a.fn = 5
  · simp [h5]
  · by_cases h6 : a.fn = 6
    · simp [h6]
    · by_cases h15 : a.fn = 15 ∨ a.fn = 16 <;> simp [h5, h6, h15]
theorem echo_right {a : Ak} {e : Rp} (h : rightA a = true) (he : echoA a = some e) : rightR e = true ∧ e.ex = 0 ∧ e.fn = a.fn ∧ e.at_ = a.at_ := by
  unfold echoA at he
  rw [if_pos h] at he
  have hr := h
  unfold rightA at hr
  split at he
  · rename_i h5
    injection he with he; subst he
    exact ⟨by simp [rightR, kindR, findK, rightK, sameR_self], rfl, h5.symm, rfl⟩
  · split at he
    · rename_i h6
      injection he with he; subst he
      exact ⟨by simp [rightR, kindR, findK, rightK, sameR_self], rfl, h6.symm, rfl⟩
    · split at he
      · rename_i h15
        injection he with he; subst he
        refine ⟨?_, rfl, rfl, rfl⟩
        unfold rightN at hr
        simp only [Bool.and_eq_true] at hr
        have hw := hr.1.1.1.2
        rcases h15 with h | h <;> rw [h] at hw ⊢ <;> simp [wtn, shp] at hw <;> simp [rightR, kindR, findK, rightK, sameR_self, hw]
      · cases he
theorem fits_echo {a : Ak} {e r : Rp} (h : rightA a = true) (he : echoA a = some e) (hr : r.ex = 0) : fitsA a r = sameR e r := by
  obtain ⟨h1, h2, h3, h4⟩ := echo_right h he
  unfold fitsA
  rw [he, if_neg (by simp [hr])]
  simp only [fitB, h, Bool.true_and]
  by_cases hs : sameR e r = true
  · have := sameR_iff.1 hs
    subst this
    simp [h1, h3, sameR_self]
  · have : sameR e r = false := by simpa using hs
    rw [this]; simp

set_option maxRecDepth 100000 in
set_option maxHeartbeats 16000000 in
theorem ReplyEcho_walk (a : Ak) (A : Option Addr) (c : Nat) (B : Option Addr) (d : Nat) (r : Rp) (A' : Option Addr) (c' : Nat) (B' : Option Addr) (d' : Nat) (ex : Nat) (w : World) (hR : AkR w a A B) (hok : a.ok) (hR' : RpR w r A' B') (hok' : r.ok) (hnc' : r.words.length ≤ c') (hd' : r.bits.length ≤ d') (hex : ex < 256) :
    Calls Try.prog 12 #[a.v A c B d, r.v A' c' B' d', .int .u8 (ex : Int)] w fun e w' => e = .returned (.bool true) ∧ Below w.heap.size w w' := by
  have awk := Lib.hid reply_awake
  have FW1 := Lib.hid (fun W => low_Few A a.words.length c B a.bits.length d W)
  have FW2 := Lib.hid (fun W => low_Few A' r.words.length c' B' r.bits.length d' W)
  obtain ⟨f1, hf1⟩ : ∃ b, fewN a.words.length a.bits.length = b := ⟨_, rfl⟩
  obtain ⟨f2, hf2⟩ : ∃ b, fewN r.words.length r.bits.length = b := ⟨_, rfl⟩
  rw [hf1] at FW1
  rw [hf2] at FW2
  obtain ⟨x, hx⟩ : ∃ x, ex % 6 = x := ⟨_, rfl⟩
  have hxi : (ex : Int) % 6 = (x : Int) := by omega
  have hx5 : x ≤ 5 := by omega
  clear hx
  have hb := ((Below.refl w.heap.size w).alloc (Nat.le_refl _) (.cells #[.int .u8 (a.fn : Int), .int .u16 (a.at_ : Int), .int .u16 (a.many : Int), .int .u16 (a.to_ : Int), .slice A a.words.length c, .slice B a.bits.length d] 26)).alloc (by simp [World.size_alloc]) (.cells #[.int .u8 (r.fn : Int), .int .u8 (r.ex : Int), .slice B' r.bits.length d', .slice A' r.words.length c', .int .u16 (r.at_ : Int), .int .u16 (r.many : Int)] 52)
  have bx := (Blk.new w 26 #[.int .u8 (a.fn : Int), .int .u16 (a.at_ : Int), .int .u16 (a.many : Int), .int .u16 (a.to_ : Int), .slice A a.words.length c, .slice B a.bits.length d]).alloc (.cells #[.int .u8 (r.fn : Int), .int .u8 (r.ex : Int), .slice B' r.bits.length d', .slice A' r.words.length c', .int .u16 (r.at_ : Int), .int .u16 (r.many : Int)] 52)
  have by_ := Blk.newAt (w.alloc (.cells #[.int .u8 (a.fn : Int), .int .u16 (a.at_ : Int), .int .u16 (a.many : Int), .int .u16 (a.to_ : Int), .slice A a.words.length c, .slice B a.bits.length d] 26)) 52 #[.int .u8 (r.fn : Int), .int .u8 (r.ex : Int), .slice B' r.bits.length d', .slice A' r.words.length c', .int .u16 (r.at_ : Int), .int .u16 (r.many : Int)] (w.heap.size + 1) (World.size_alloc _ _)
  simp only [Ak.v, akV, Rp.v, rpV]
  go_enter Try.func12, Try.ntmps12
  go_upto_region 1 with fail
  generalize (w.alloc (.cells #[.int .u8 (a.fn : Int), .int .u16 (a.at_ : Int), .int .u16 (a.many : Int), .int .u16 (a.to_ : Int), .slice A a.words.length c, .slice B a.bits.length d] 26)).alloc (.cells #[.int .u8 (r.fn : Int), .int .u8 (r.ex : Int), .slice B' r.bits.length d', .slice A' r.words.length c', .int .u16 (r.at_ : Int), .int .u16 (r.many : Int)] 52) = w1 at *
  obtain ⟨gr, hgr⟩ : ∃ g, w.heap.size + 1 = g := ⟨_, rfl⟩
  rw [hgr] at by_ ⊢
  clear hgr
  obtain ⟨ga, hga⟩ : ∃ g, w.heap.size = g := ⟨_, rfl⟩
  rw [hga] at bx ⊢
  clear hga
  obtain ⟨p0, p1, p2, p3, p4, p5⟩ := bx.c6
  obtain ⟨q0, q1, q2, q3, q4, q5⟩ := by_.c6
  cases f1 with
  | false =>
    go_wp2_with fail
    refine (FW1.out _).mono ?_
    rintro e wq ⟨rfl, rfl⟩
    go_wp2_with fail
    refine (awk.out _).mono ?_
    rintro e wz ⟨rfl, hs⟩
    go_wp2_with fail
    go_ret
    exact ⟨rfl, bthen hb hs⟩
  | true =>
  cases f2 with
  | false =>
    go_wp2_with fail
    refine (FW1.out _).mono ?_
    rintro e wq ⟨rfl, rfl⟩
    go_wp2_with fail
    refine (FW2.out _).mono ?_
    rintro e wq ⟨rfl, rfl⟩
    go_wp2_with fail
    refine (awk.out _).mono ?_
    rintro e wz ⟨rfl, hs⟩
    go_wp2_with fail
    go_ret
    exact ⟨rfl, bthen hb hs⟩
  | true =>
  obtain ⟨la1, la2⟩ := fewN_le hf1
  obtain ⟨lr1, lr2⟩ := fewN_le hf2
  clear hf1 hf2
  obtain ⟨rt, hrt⟩ : ∃ b, rightA a = b := ⟨_, rfl⟩
  obtain ⟨ec, hec⟩ : ∃ b, echoA a = b := ⟨_, rfl⟩
  have HRT := Lib.hid hrt
  have HEC := Lib.hid hec
  have E1 := Lib.hid (fun W (h : AkR W a A B) => reply_Echo a A c B d W h hok (by omega) (by omega))
  have E2 := Lib.hid (fun W => ask_Right a.fn a.at_ a.many a.to_ A a.words.length c B a.bits.length d W hok.fn hok.many hok.to_ (by omega) (by omega))
  rw [show rightN a.fn a.many a.to_ a.words.length a.bits.length = rt from hrt] at E2
  rw [hec] at E1
  have E3 := Lib.hid (fun W => reply_Wrong a.fn x W hok.fn (by omega))
  obtain ⟨wf, hwf⟩ : ∃ f, a.fn % 128 = f := ⟨_, rfl⟩
  have HWF := Lib.hid hwf
  have hwf2 : wf < 128 := by omega
  have FA := Lib.hid (fun W (h : AkR W a A B) (h2 : RpR W r A' B') => reply_Fits a A c B d r A' c' B' d' W h hok (by omega) (by omega) h2 hok' (by omega) (by omega) (fun _ => hd'))
  have FX := Lib.hid (fun W (h : AkR W a A B) => reply_Fits a A c B d ⟨wf, x, [], [], 0, 0⟩ none 0 none 0 W h hok (by omega) (by omega) ⟨Rd.nil, Rd.nil⟩ ⟨by simp only; omega, by simp only; omega, (by intro y hy; cases hy), by simp, by simp⟩ (by simp) (by simp) (fun _ => by simp))
  rw [show wrongR a.fn x = ⟨wf, x, [], [], 0, 0⟩ from by unfold wrongR; rw [hwf]] at E3
  simp only [Ak.v, akV, Rp.v, rpV, List.length_nil] at E1 E2 E3 FA FX
  clear hrt hec hwf
  go_wp2_with fail
  refine (FW1.out _).mono ?_
  rintro e wq ⟨rfl, rfl⟩
  go_wp2_with fail
  refine (FW2.out _).mono ?_
  rintro e wq ⟨rfl, rfl⟩
  clear FW1 FW2
  go_wp2_with fail
  refine (E1.out _ (hR.below hb)).mono ?_
  rintro e w2 hT
  clear p0 p1 p2 p3 p4 p5 q0 q1 q2 q3 q4 q5
  cases ec with
  | none =>
    obtain ⟨he, hs⟩ := hT
    rw [show Rp.zero.v none 0 none 0 = .agg #[.int .u8 0, .int .u8 0, .slice none 0 0, .slice none 0 0, .int .u16 0, .int .u16 0] from rfl] at he
    subst he
    replace bx := bx.all hs
    replace by_ := by_.all hs
    replace hb := bthen hb hs
    clear hs
    go_upto_region 4 with fail
    have be := Blk.new w2 52 #[.int .u8 0, .int .u8 0, .slice none 0 0, .slice none 0 0, .int .u16 0, .int .u16 0]
    have hs := (Below.refl w2.heap.size w2).alloc (Nat.le_refl _) (.cells #[.int .u8 0, .int .u8 0, .slice none 0 0, .slice none 0 0, .int .u16 0, .int .u16 0] 52)
    generalize w2.alloc (.cells #[.int .u8 0, .int .u8 0, .slice none 0 0, .slice none 0 0, .int .u16 0, .int .u16 0] 52) = w3 at *
    obtain ⟨ge, hge⟩ : ∃ g, w2.heap.size = g := ⟨_, rfl⟩
    have gelt : w2.heap.size ≤ ge := by omega
    replace bx := bx.all hs
    replace by_ := by_.all hs
    replace hb := bthen hb hs
    clear hs
    rw [hge] at be ⊢
    clear hge gelt
    obtain ⟨p0, p1, p2, p3, p4, p5⟩ := bx.c6
    go_wp2_with fail
    refine (E3.out _).mono ?_
    rintro e w4 ⟨rfl, hs⟩
    clear p0 p1 p2 p3 p4 p5
    replace bx := bx.all hs
    replace by_ := by_.all hs
    replace be := be.all hs
    replace hb := bthen hb hs
    clear hs
    go_upto_region 6 with fail
    have bw := Blk.new w4 52 #[.int .u8 (wf : Int), .int .u8 (x : Int), .slice none 0 0, .slice none 0 0, .int .u16 0, .int .u16 0]
    have hs := (Below.refl w4.heap.size w4).alloc (Nat.le_refl _) (.cells #[.int .u8 (wf : Int), .int .u8 (x : Int), .slice none 0 0, .slice none 0 0, .int .u16 0, .int .u16 0] 52)
    generalize w4.alloc (.cells #[.int .u8 (wf : Int), .int .u8 (x : Int), .slice none 0 0, .slice none 0 0, .int .u16 0, .int .u16 0] 52) = w5 at *
    obtain ⟨gw, hgw⟩ : ∃ g, w4.heap.size = g := ⟨_, rfl⟩
    have gwlt : w4.heap.size ≤ gw := by omega
    replace bx := bx.all hs
    replace by_ := by_.all hs
    replace be := be.all hs
    replace hb := bthen hb hs
    clear hs
    rw [hgw] at bw ⊢
    clear hgw gwlt
    obtain ⟨p0, p1, p2, p3, p4, p5⟩ := bx.c6
    go_wp2_with fail
    refine (E2.out _).mono ?_
    rintro e w6 ⟨rfl, hs⟩
    clear p0 p1 p2 p3 p4 p5
    replace bx := bx.all hs
    replace by_ := by_.all hs
    replace be := be.all hs
    replace bw := bw.all hs
    replace hb := bthen hb hs
    clear hs
    cases rt with
    | false =>
      obtain ⟨n1, -⟩ := fits_not (r := r) HRT.out
      obtain ⟨n2, -⟩ := fits_not (r := ⟨wf, x, [], [], 0, 0⟩) HRT.out
      rw [n1] at FA
      rw [n2] at FX
      clear n1 n2
      obtain ⟨p0, p1, p2, p3, p4, p5⟩ := bx.c6
      obtain ⟨q0, q1, q2, q3, q4, q5⟩ := by_.c6
      obtain ⟨r0, r1, r2, r3, r4, r5⟩ := bw.c6
      go_wp2_with fail
      refine (FA.out _ (hR.below hb) (hR'.below hb)).mono ?_
      rintro e w7 ⟨rfl, hs⟩
      clear p0 p1 p2 p3 p4 p5
      clear q0 q1 q2 q3 q4 q5
      clear r0 r1 r2 r3 r4 r5
      replace bx := bx.all hs
      replace by_ := by_.all hs
      replace be := be.all hs
      replace bw := bw.all hs
      replace hb := bthen hb hs
      clear hs
      obtain ⟨p0, p1, p2, p3, p4, p5⟩ := bx.c6
      obtain ⟨q0, q1, q2, q3, q4, q5⟩ := by_.c6
      obtain ⟨r0, r1, r2, r3, r4, r5⟩ := bw.c6
      go_wp2_with fail
      refine (FX.out _ (hR.below hb)).mono ?_
      rintro e w8 ⟨rfl, hs⟩
      clear p0 p1 p2 p3 p4 p5
      clear q0 q1 q2 q3 q4 q5
      clear r0 r1 r2 r3 r4 r5
      replace bx := bx.all hs
      replace by_ := by_.all hs
      replace be := be.all hs
      replace bw := bw.all hs
      replace hb := bthen hb hs
      clear hs
      obtain ⟨p0, p1, p2, p3, p4, p5⟩ := bx.c6
      obtain ⟨q0, q1, q2, q3, q4, q5⟩ := by_.c6
      obtain ⟨r0, r1, r2, r3, r4, r5⟩ := bw.c6
      go_wp2_with fail
      refine (awk.out _).mono ?_
      rintro e wz ⟨rfl, hs⟩
      go_wp2_with fail
      go_ret
      exact ⟨rfl, bthen hb hs⟩
    | true =>
      have hno : ¬ (a.fn = 5 ∨ a.fn = 6 ∨ a.fn = 15 ∨ a.fn = 16) := by
        have := echo_some HRT.out
        rw [HEC.out] at this
        intro h
        rw [decide_eq_true h] at this
        cases this
      have t5 : ((a.fn : Int) == 5) = false := by simp; omega
      have t6 : ((a.fn : Int) == 6) = false := by simp; omega
      have t15 : ((a.fn : Int) == 15) = false := by simp; omega
      have t16 : ((a.fn : Int) == 16) = false := by simp; omega
      clear hno
      have hfn := right_fn HRT.out
      have hwe : wf = a.fn := by have := HWF.out; omega
      have n2 := fits_wrong HRT.out x hx5
      have n3 := fits_next HRT.out
      have FN := Lib.hid (fun W (h : AkR W a A B) => reply_Fits a A c B d (wrongR (a.fn + 1) 1) none 0 none 0 W h hok (by omega) (by omega) ⟨Rd.nil, Rd.nil⟩ ⟨by simp only [wrongR]; omega, by simp [wrongR], (by intro y hy; cases hy), by simp [wrongR], by simp [wrongR]⟩ (by simp [wrongR]) (by simp [wrongR]) (fun _ => by simp [wrongR]))
      rw [n3] at FN
      have EN := Lib.hid (fun W => reply_Wrong (a.fn + 1) 1 W (by omega) (by omega))
      obtain ⟨wr1, hwr1⟩ : ∃ y, wrongR (a.fn + 1) 1 = y := ⟨_, rfl⟩
      rw [hwr1] at FN EN
      have hfi : (a.fn : Int) + 1 = ((a.fn + 1 : Nat) : Int) := by omega
      have hfw : IntKind.u8.wrap ((a.fn : Int) + 1) = ((a.fn + 1 : Nat) : Int) := by rw [IntKind.wrap_u8]; omega
      rw [show wrongR a.fn x = ⟨wf, x, [], [], 0, 0⟩ from by unfold wrongR; rw [HWF.out]] at n2
      rw [n2] at FX
      simp only [Ak.v, akV, Rp.v, rpV] at FN EN
      clear n2 n3 hwr1 hwe hfi
      obtain ⟨p0, p1, p2, p3, p4, p5⟩ := bx.c6
      go_upto_region 9 with fail
      clear p0 p1 p2 p3 p4 p5 t5 t6 t15 t16
      have hx1 : (decide ((1 : Int) ≤ (x : Int)) = true ∧ decide (1 ≤ x ∧ x ≤ 4) = decide ((x : Int) ≤ 4)) ∨ (decide ((1 : Int) ≤ (x : Int)) = false ∧ decide (1 ≤ x ∧ x ≤ 4) = false) := by
        by_cases h : 1 ≤ x
        · left
          refine ⟨decide_eq_true (by omega), ?_⟩
          by_cases h4 : x ≤ 4
          · rw [decide_eq_true ⟨h, h4⟩, decide_eq_true (by omega)]
          · rw [decide_eq_false (by omega), decide_eq_false (by omega)]
        · right; exact ⟨decide_eq_false (by omega), decide_eq_false (by omega)⟩
      have b0 := (Below.refl w6.heap.size w6).drew
      have KK : Hid (∀ W : World, Below w6.heap.size w6 W → W.cell? ⟨ga, 0, none⟩ = some (.int .u8 (a.fn : Int)) ∧ W.cell? ⟨ga, 1, none⟩ = some (.int .u16 (a.at_ : Int)) ∧ W.cell? ⟨ga, 2, none⟩ = some (.int .u16 (a.many : Int)) ∧ W.cell? ⟨ga, 3, none⟩ = some (.int .u16 (a.to_ : Int)) ∧ W.cell? ⟨ga, 4, none⟩ = some (.slice A a.words.length c) ∧ W.cell? ⟨ga, 5, none⟩ = some (.slice B a.bits.length d) ∧ W.cell? ⟨gw, 0, none⟩ = some (.int .u8 (wf : Int)) ∧ W.cell? ⟨gw, 1, none⟩ = some (.int .u8 (x : Int)) ∧ W.cell? ⟨gw, 2, none⟩ = some (.slice none 0 0) ∧ W.cell? ⟨gw, 3, none⟩ = some (.slice none 0 0) ∧ W.cell? ⟨gw, 4, none⟩ = some (.int .u16 0) ∧ W.cell? ⟨gw, 5, none⟩ = some (.int .u16 0)) := fun W hW => ⟨(bx.all hW).cell 0, (bx.all hW).cell 1, (bx.all hW).cell 2, (bx.all hW).cell 3, (bx.all hW).cell 4, (bx.all hW).cell 5, (bw.all hW).cell 0, (bw.all hW).cell 1, (bw.all hW).cell 2, (bw.all hW).cell 3, (bw.all hW).cell 4, (bw.all hW).cell 5⟩
      rcases hx1 with ⟨t1, t2⟩ | ⟨t1, t2⟩
      · rw [t2] at FX
        clear t2
        refine wp_region_held_drew (S := fun W => W.cell? ⟨ga, 0, none⟩ = some (.int .u8 (a.fn : Int)) ∧ W.cell? ⟨ga, 1, none⟩ = some (.int .u16 (a.at_ : Int)) ∧ W.cell? ⟨ga, 2, none⟩ = some (.int .u16 (a.many : Int)) ∧ W.cell? ⟨ga, 3, none⟩ = some (.int .u16 (a.to_ : Int)) ∧ W.cell? ⟨ga, 4, none⟩ = some (.slice A a.words.length c) ∧ W.cell? ⟨ga, 5, none⟩ = some (.slice B a.bits.length d) ∧ W.cell? ⟨gw, 0, none⟩ = some (.int .u8 (wf : Int)) ∧ W.cell? ⟨gw, 1, none⟩ = some (.int .u8 (x : Int)) ∧ W.cell? ⟨gw, 2, none⟩ = some (.slice none 0 0) ∧ W.cell? ⟨gw, 3, none⟩ = some (.slice none 0 0) ∧ W.cell? ⟨gw, 4, none⟩ = some (.int .u16 0) ∧ W.cell? ⟨gw, 5, none⟩ = some (.int .u16 0)) (by kernel_rfl) ?_ (fun hHeld => ?_)
        · (first | with_reducible exact KK.out _ b0 | with_reducible exact KK.out _ (show Below _ _ _ from by assumption))
        refine takeRun (i := 0) (v := ?_) rfl (by kernel_rfl) (by kernel_rfl) (by kernel_rfl) (fun _ _ _ h => h) rfl ?_ (by assumption) ?_
        rotate_left
        · (intro w hSw; (try dsimp only at hSw); go_simp; (try with_reducible rfl))
        try simp only [Act.put, List.setIfInBounds_toArray, List.set_cons_zero, List.set_cons_succ]
        refine takeRun (i := 1) (v := ?_) rfl (by kernel_rfl) (by kernel_rfl) (by kernel_rfl) (fun _ _ _ h => h) rfl ?_ (by assumption) ?_
        rotate_left
        · (intro w hSw; (try dsimp only at hSw); go_simp; (try with_reducible rfl))
        try simp only [Act.put, List.setIfInBounds_toArray, List.set_cons_zero, List.set_cons_succ]
        refine takeRun (i := 2) (v := ?_) rfl (by kernel_rfl) (by kernel_rfl) (by kernel_rfl) (fun _ _ _ h => h) rfl ?_ (by assumption) ?_
        rotate_left
        · (intro w hSw; (try dsimp only at hSw); go_simp; (try with_reducible rfl))
        try simp only [Act.put, List.setIfInBounds_toArray, List.set_cons_zero, List.set_cons_succ]
        refine takeRun (i := 3) (v := ?_) rfl (by kernel_rfl) (by kernel_rfl) (by kernel_rfl) (fun _ _ _ h => h) rfl ?_ (by assumption) ?_
        rotate_left
        · (intro w hSw; (try dsimp only at hSw); go_simp; (try with_reducible rfl))
        try simp only [Act.put, List.setIfInBounds_toArray, List.set_cons_zero, List.set_cons_succ]
        refine takeRun (i := 4) (v := ?_) rfl (by kernel_rfl) (by kernel_rfl) (by kernel_rfl) (fun _ _ _ h => h) rfl ?_ (by assumption) ?_
        rotate_left
        · (intro w hSw; (try dsimp only at hSw); go_simp; (try with_reducible rfl))
        try simp only [Act.put, List.setIfInBounds_toArray, List.set_cons_zero, List.set_cons_succ]
        refine takeRun (i := 5) (v := ?_) rfl (by kernel_rfl) (by kernel_rfl) (by kernel_rfl) (fun _ _ _ h => h) rfl ?_ (by assumption) ?_
        rotate_left
        · (intro w hSw; (try dsimp only at hSw); go_simp; (try with_reducible rfl))
        try simp only [Act.put, List.setIfInBounds_toArray, List.set_cons_zero, List.set_cons_succ]
        refine takeRun (i := 7) (v := ?_) rfl (by kernel_rfl) (by kernel_rfl) (by kernel_rfl) (fun _ _ _ h => h) rfl ?_ (by assumption) ?_
        rotate_left
        · (intro w hSw; (try dsimp only at hSw); go_simp; (try with_reducible rfl))
        try simp only [Act.put, List.setIfInBounds_toArray, List.set_cons_zero, List.set_cons_succ]
        refine takeRun (i := 8) (v := ?_) rfl (by kernel_rfl) (by kernel_rfl) (by kernel_rfl) (fun _ _ _ h => h) rfl ?_ (by assumption) ?_
        rotate_left
        · (intro w hSw; (try dsimp only at hSw); go_simp; (try with_reducible rfl))
        try simp only [Act.put, List.setIfInBounds_toArray, List.set_cons_zero, List.set_cons_succ]
        refine goOne (i := 6) (by kernel_rfl) rfl (fun K hK => ?_)
        go_simp
        (refine (FX.out _ ((hR.below hb).below b0)).mono ?_; rintro e wa ⟨rfl, hs⟩; replace hs := undrew hs)
        go_wp2_with fail
        refine hK.out _ _ ?_ (fun hHeld => ?_)
        · (first | with_reducible exact KK.out _ b0 | with_reducible exact KK.out _ (show Below _ _ _ from by assumption))
        clear hK K
        try simp only [Act.put, List.setIfInBounds_toArray, List.set_cons_zero, List.set_cons_succ]
        refine takeRun (i := 9) (v := ?_) rfl (by kernel_rfl) (by kernel_rfl) (by kernel_rfl) (fun _ _ _ h => h) rfl ?_ (by assumption) ?_
        rotate_left
        · (intro w hSw; (try dsimp only at hSw); go_simp; (try with_reducible rfl))
        try simp only [Act.put, List.setIfInBounds_toArray, List.set_cons_zero, List.set_cons_succ]
        refine takeRun (i := 10) (v := ?_) rfl (by kernel_rfl) (by kernel_rfl) (by kernel_rfl) (fun _ _ _ h => h) rfl ?_ (by assumption) ?_
        rotate_left
        · (intro w hSw; (try dsimp only at hSw); go_simp; (try with_reducible rfl))
        try simp only [Act.put, List.setIfInBounds_toArray, List.set_cons_zero, List.set_cons_succ]
        refine takeRun (i := 11) (v := ?_) rfl (by kernel_rfl) (by kernel_rfl) (by kernel_rfl) (fun _ _ _ h => h) rfl ?_ (by assumption) ?_
        rotate_left
        · (intro w hSw; (try dsimp only at hSw); go_simp; (try with_reducible rfl))
        try simp only [Act.put, List.setIfInBounds_toArray, List.set_cons_zero, List.set_cons_succ]
        refine takeRun (i := 12) (v := ?_) rfl (by kernel_rfl) (by kernel_rfl) (by kernel_rfl) (fun _ _ _ h => h) rfl ?_ (by assumption) ?_
        rotate_left
        · (intro w hSw; (try dsimp only at hSw); go_simp; (try with_reducible rfl))
        try simp only [Act.put, List.setIfInBounds_toArray, List.set_cons_zero, List.set_cons_succ]
        refine takeRun (i := 13) (v := ?_) rfl (by kernel_rfl) (by kernel_rfl) (by kernel_rfl) (fun _ _ _ h => h) rfl ?_ (by assumption) ?_
        rotate_left
        · (intro w hSw; (try dsimp only at hSw); go_simp; (try with_reducible rfl))
        try simp only [Act.put, List.setIfInBounds_toArray, List.set_cons_zero, List.set_cons_succ]
        refine takeRun (i := 14) (v := ?_) rfl (by kernel_rfl) (by kernel_rfl) (by kernel_rfl) (fun _ _ _ h => h) rfl ?_ (by assumption) ?_
        rotate_left
        · (intro w hSw; (try dsimp only at hSw); go_simp; (try with_reducible rfl))
        try simp only [Act.put, List.setIfInBounds_toArray, List.set_cons_zero, List.set_cons_succ]
        refine takeRun (i := 15) (v := ?_) rfl (by kernel_rfl) (by kernel_rfl) (by kernel_rfl) (fun _ _ _ h => h) rfl ?_ (by assumption) ?_
        rotate_left
        · (intro w hSw; (try dsimp only at hSw); go_simp; (try with_reducible rfl))
        try simp only [Act.put, List.setIfInBounds_toArray, List.set_cons_zero, List.set_cons_succ]
        refine takeRun (i := 16) (v := ?_) rfl (by kernel_rfl) (by kernel_rfl) (by kernel_rfl) (fun _ _ _ h => h) rfl ?_ (by assumption) ?_
        rotate_left
        · (intro w hSw; (try dsimp only at hSw); go_simp; (try with_reducible rfl))
        try simp only [Act.put, List.setIfInBounds_toArray, List.set_cons_zero, List.set_cons_succ]
        refine takeRun (i := 17) (v := ?_) rfl (by kernel_rfl) (by kernel_rfl) (by kernel_rfl) (fun _ _ _ h => h) rfl ?_ (by assumption) ?_
        rotate_left
        · (intro w hSw; (try dsimp only at hSw); go_simp; (try with_reducible rfl))
        try simp only [Act.put, List.setIfInBounds_toArray, List.set_cons_zero, List.set_cons_succ]
        refine takeRun (i := 18) (v := ?_) rfl (by kernel_rfl) (by kernel_rfl) (by kernel_rfl) (fun _ _ _ h => h) rfl ?_ (by assumption) ?_
        rotate_left
        · (intro w hSw; (try dsimp only at hSw); go_simp; (try with_reducible rfl))
        try simp only [Act.put, List.setIfInBounds_toArray, List.set_cons_zero, List.set_cons_succ]
        refine takeRun (i := 19) (v := ?_) rfl (by kernel_rfl) (by kernel_rfl) (by kernel_rfl) (fun _ _ _ h => h) rfl ?_ (by assumption) ?_
        rotate_left
        · (intro w hSw; (try dsimp only at hSw); go_simp; (try with_reducible rfl))
        try simp only [Act.put, List.setIfInBounds_toArray, List.set_cons_zero, List.set_cons_succ]
        refine goOne (i := 20) (by kernel_rfl) rfl (fun K hK => ?_)
        go_simp
        ((try rw [hfw]); refine (EN.out _).mono ?_; rintro e wb ⟨rfl, hs2⟩; have hs3 := bthen hs hs2)
        go_wp2_with fail
        refine hK.out _ _ ?_ (fun hHeld => ?_)
        · (first | with_reducible exact KK.out _ b0 | with_reducible exact KK.out _ (show Below _ _ _ from by assumption))
        clear hK K
        try simp only [Act.put, List.setIfInBounds_toArray, List.set_cons_zero, List.set_cons_succ]
        refine goOne (i := 21) (by kernel_rfl) rfl (fun K hK => ?_)
        go_simp
        (refine (FN.out _ ((hR.below hb).below hs3)).mono ?_; rintro e wc ⟨rfl, hs4⟩; have hs5 := bthen hs3 hs4)
        go_wp2_with fail
        refine hK.out _ _ ?_ (fun hHeld => ?_)
        · (first | with_reducible exact KK.out _ b0 | with_reducible exact KK.out _ (show Below _ _ _ from by assumption))
        clear hK K
        try simp only [Act.put, List.setIfInBounds_toArray, List.set_cons_zero, List.set_cons_succ]
        refine takeRun (i := 22) (v := ?_) rfl (by kernel_rfl) (by kernel_rfl) (by kernel_rfl) (fun _ _ _ h => h) rfl ?_ (by assumption) ?_
        rotate_left
        · (intro w hSw; (try dsimp only at hSw); go_simp; (try with_reducible rfl))
        try simp only [Act.put, List.setIfInBounds_toArray, List.set_cons_zero, List.set_cons_succ]
        refine takeRun (i := 23) (v := ?_) rfl (by kernel_rfl) (by kernel_rfl) (by kernel_rfl) (fun _ _ _ h => h) rfl ?_ (by assumption) ?_
        rotate_left
        · (intro w hSw; (try dsimp only at hSw); go_simp; (try with_reducible rfl))
        try simp only [Act.put, List.setIfInBounds_toArray, List.set_cons_zero, List.set_cons_succ]
        refine takeRun (i := 24) (v := ?_) rfl (by kernel_rfl) (by kernel_rfl) (by kernel_rfl) (fun _ _ _ h => h) rfl ?_ (by assumption) ?_
        rotate_left
        · (intro w hSw; (try dsimp only at hSw); go_simp; (try with_reducible rfl))
        try simp only [Act.put, List.setIfInBounds_toArray, List.set_cons_zero, List.set_cons_succ]
        refine takeRun (i := 25) (v := ?_) rfl (by kernel_rfl) (by kernel_rfl) (by kernel_rfl) (fun _ _ _ h => h) rfl ?_ (by assumption) ?_
        rotate_left
        · (intro w hSw; (try dsimp only at hSw); go_simp; (try with_reducible rfl))
        try simp only [Act.put, List.setIfInBounds_toArray, List.set_cons_zero, List.set_cons_succ]
        refine takeSkip (i := 26) rfl (by kernel_rfl) (by kernel_rfl) (by kernel_rfl) (fun _ _ _ h => h) rfl (by assumption) ?_
        try simp only [Act.put, List.setIfInBounds_toArray, List.set_cons_zero, List.set_cons_succ]
        refine takeSkip (i := 27) rfl (by kernel_rfl) (by kernel_rfl) (by kernel_rfl) (fun _ _ _ h => h) rfl (by assumption) ?_
        try simp only [Act.put, List.setIfInBounds_toArray, List.set_cons_zero, List.set_cons_succ]
        refine takeSkip (i := 28) rfl (by kernel_rfl) (by kernel_rfl) (by kernel_rfl) (fun _ _ _ h => h) rfl (by assumption) ?_
        try simp only [Act.put, List.setIfInBounds_toArray, List.set_cons_zero, List.set_cons_succ]
        refine takeSkip (i := 29) rfl (by kernel_rfl) (by kernel_rfl) (by kernel_rfl) (fun _ _ _ h => h) rfl (by assumption) ?_
        try simp only [Act.put, List.setIfInBounds_toArray, List.set_cons_zero, List.set_cons_succ]
        refine takeRun (i := 30) (v := ?_) rfl (by kernel_rfl) (by kernel_rfl) (by kernel_rfl) (fun _ _ _ h => h) rfl ?_ (by assumption) ?_
        rotate_left
        · (intro w hSw; (try dsimp only at hSw); go_simp; (try with_reducible rfl))
        try simp only [Act.put, List.setIfInBounds_toArray, List.set_cons_zero, List.set_cons_succ]
        refine takeRun (i := 31) (v := ?_) rfl (by kernel_rfl) (by kernel_rfl) (by kernel_rfl) (fun _ _ _ h => h) rfl ?_ (by assumption) ?_
        rotate_left
        · (intro w hSw; (try dsimp only at hSw); go_simp; (try with_reducible rfl))
        try simp only [Act.put, List.setIfInBounds_toArray, List.set_cons_zero, List.set_cons_succ]
        refine wpAnyH_done (by kernel_rfl) ?_ _
        obtain ⟨w10, rfl⟩ : ∃ z, z = wc := ⟨_, rfl⟩
        clear KK b0
        replace bx := bx.all hs5
        replace by_ := by_.all hs5
        replace be := be.all hs5
        replace bw := bw.all hs5
        replace hb := bthen hb hs5
        clear hs5
        go_upto_region 11 with fail
        refine wp_region_held_drew (S := fun _ => True) (by kernel_rfl) ?_ (fun hHeld => ?_)
        · exact trivial
        refine takeRun (i := 0) (v := ?_) rfl (by kernel_rfl) (by kernel_rfl) (by kernel_rfl) (fun _ _ _ h => h) rfl ?_ (by assumption) ?_
        rotate_left
        · (intro w hSw; (try dsimp only at hSw); go_simp; (try with_reducible rfl))
        try simp only [Act.put, List.setIfInBounds_toArray, List.set_cons_zero, List.set_cons_succ]
        refine takeRun (i := 1) (v := ?_) rfl (by kernel_rfl) (by kernel_rfl) (by kernel_rfl) (fun _ _ _ h => h) rfl ?_ (by assumption) ?_
        rotate_left
        · (intro w hSw; (try dsimp only at hSw); go_simp; (try with_reducible rfl))
        try simp only [Act.put, List.setIfInBounds_toArray, List.set_cons_zero, List.set_cons_succ]
        refine takeSkip (i := 2) rfl (by kernel_rfl) (by kernel_rfl) (by kernel_rfl) (fun _ _ _ h => h) rfl (by assumption) ?_
        try simp only [Act.put, List.setIfInBounds_toArray, List.set_cons_zero, List.set_cons_succ]
        refine takeSkip (i := 3) rfl (by kernel_rfl) (by kernel_rfl) (by kernel_rfl) (fun _ _ _ h => h) rfl (by assumption) ?_
        try simp only [Act.put, List.setIfInBounds_toArray, List.set_cons_zero, List.set_cons_succ]
        refine takeSkip (i := 4) rfl (by kernel_rfl) (by kernel_rfl) (by kernel_rfl) (fun _ _ _ h => h) rfl (by assumption) ?_
        try simp only [Act.put, List.setIfInBounds_toArray, List.set_cons_zero, List.set_cons_succ]
        refine takeRun (i := 5) (v := ?_) rfl (by kernel_rfl) (by kernel_rfl) (by kernel_rfl) (fun _ _ _ h => h) rfl ?_ (by assumption) ?_
        rotate_left
        · (intro w hSw; (try dsimp only at hSw); go_simp; (try with_reducible rfl))
        try simp only [Act.put, List.setIfInBounds_toArray, List.set_cons_zero, List.set_cons_succ]
        refine takeRun (i := 6) (v := ?_) rfl (by kernel_rfl) (by kernel_rfl) (by kernel_rfl) (fun _ _ _ h => h) rfl ?_ (by assumption) ?_
        rotate_left
        · (intro w hSw; (try dsimp only at hSw); go_simp; (try with_reducible rfl))
        try simp only [Act.put, List.setIfInBounds_toArray, List.set_cons_zero, List.set_cons_succ]
        refine takeSkip (i := 7) rfl (by kernel_rfl) (by kernel_rfl) (by kernel_rfl) (fun _ _ _ h => h) rfl (by assumption) ?_
        try simp only [Act.put, List.setIfInBounds_toArray, List.set_cons_zero, List.set_cons_succ]
        refine takeSkip (i := 8) rfl (by kernel_rfl) (by kernel_rfl) (by kernel_rfl) (fun _ _ _ h => h) rfl (by assumption) ?_
        try simp only [Act.put, List.setIfInBounds_toArray, List.set_cons_zero, List.set_cons_succ]
        refine takeSkip (i := 9) rfl (by kernel_rfl) (by kernel_rfl) (by kernel_rfl) (fun _ _ _ h => h) rfl (by assumption) ?_
        try simp only [Act.put, List.setIfInBounds_toArray, List.set_cons_zero, List.set_cons_succ]
        refine takeSkip (i := 10) rfl (by kernel_rfl) (by kernel_rfl) (by kernel_rfl) (fun _ _ _ h => h) rfl (by assumption) ?_
        try simp only [Act.put, List.setIfInBounds_toArray, List.set_cons_zero, List.set_cons_succ]
        refine takeSkip (i := 11) rfl (by kernel_rfl) (by kernel_rfl) (by kernel_rfl) (fun _ _ _ h => h) rfl (by assumption) ?_
        try simp only [Act.put, List.setIfInBounds_toArray, List.set_cons_zero, List.set_cons_succ]
        refine takeSkip (i := 12) rfl (by kernel_rfl) (by kernel_rfl) (by kernel_rfl) (fun _ _ _ h => h) rfl (by assumption) ?_
        try simp only [Act.put, List.setIfInBounds_toArray, List.set_cons_zero, List.set_cons_succ]
        refine takeSkip (i := 13) rfl (by kernel_rfl) (by kernel_rfl) (by kernel_rfl) (fun _ _ _ h => h) rfl (by assumption) ?_
        try simp only [Act.put, List.setIfInBounds_toArray, List.set_cons_zero, List.set_cons_succ]
        refine takeRun (i := 14) (v := ?_) rfl (by kernel_rfl) (by kernel_rfl) (by kernel_rfl) (fun _ _ _ h => h) rfl ?_ (by assumption) ?_
        rotate_left
        · (intro w hSw; (try dsimp only at hSw); go_simp; (try with_reducible rfl))
        try simp only [Act.put, List.setIfInBounds_toArray, List.set_cons_zero, List.set_cons_succ]
        refine wpAnyH_done (by kernel_rfl) ?_ _
        replace hb := below_drewN hb 1
        go_wp2_with fail
        refine (awk.out _).mono ?_
        rintro e wz ⟨rfl, hs⟩
        go_wp2_with fail
        go_ret
        exact ⟨rfl, bthen hb hs⟩
      · rw [t2] at FX
        clear t2
        refine wp_region_held_drew (S := fun W => W.cell? ⟨ga, 0, none⟩ = some (.int .u8 (a.fn : Int)) ∧ W.cell? ⟨ga, 1, none⟩ = some (.int .u16 (a.at_ : Int)) ∧ W.cell? ⟨ga, 2, none⟩ = some (.int .u16 (a.many : Int)) ∧ W.cell? ⟨ga, 3, none⟩ = some (.int .u16 (a.to_ : Int)) ∧ W.cell? ⟨ga, 4, none⟩ = some (.slice A a.words.length c) ∧ W.cell? ⟨ga, 5, none⟩ = some (.slice B a.bits.length d) ∧ W.cell? ⟨gw, 0, none⟩ = some (.int .u8 (wf : Int)) ∧ W.cell? ⟨gw, 1, none⟩ = some (.int .u8 (x : Int)) ∧ W.cell? ⟨gw, 2, none⟩ = some (.slice none 0 0) ∧ W.cell? ⟨gw, 3, none⟩ = some (.slice none 0 0) ∧ W.cell? ⟨gw, 4, none⟩ = some (.int .u16 0) ∧ W.cell? ⟨gw, 5, none⟩ = some (.int .u16 0)) (by kernel_rfl) ?_ (fun hHeld => ?_)
        · (first | with_reducible exact KK.out _ b0 | with_reducible exact KK.out _ (show Below _ _ _ from by assumption))
        refine takeRun (i := 0) (v := ?_) rfl (by kernel_rfl) (by kernel_rfl) (by kernel_rfl) (fun _ _ _ h => h) rfl ?_ (by assumption) ?_
        rotate_left
        · (intro w hSw; (try dsimp only at hSw); go_simp; (try with_reducible rfl))
        try simp only [Act.put, List.setIfInBounds_toArray, List.set_cons_zero, List.set_cons_succ]
        refine takeRun (i := 1) (v := ?_) rfl (by kernel_rfl) (by kernel_rfl) (by kernel_rfl) (fun _ _ _ h => h) rfl ?_ (by assumption) ?_
        rotate_left
        · (intro w hSw; (try dsimp only at hSw); go_simp; (try with_reducible rfl))
        try simp only [Act.put, List.setIfInBounds_toArray, List.set_cons_zero, List.set_cons_succ]
        refine takeRun (i := 2) (v := ?_) rfl (by kernel_rfl) (by kernel_rfl) (by kernel_rfl) (fun _ _ _ h => h) rfl ?_ (by assumption) ?_
        rotate_left
        · (intro w hSw; (try dsimp only at hSw); go_simp; (try with_reducible rfl))
        try simp only [Act.put, List.setIfInBounds_toArray, List.set_cons_zero, List.set_cons_succ]
        refine takeRun (i := 3) (v := ?_) rfl (by kernel_rfl) (by kernel_rfl) (by kernel_rfl) (fun _ _ _ h => h) rfl ?_ (by assumption) ?_
        rotate_left
        · (intro w hSw; (try dsimp only at hSw); go_simp; (try with_reducible rfl))
        try simp only [Act.put, List.setIfInBounds_toArray, List.set_cons_zero, List.set_cons_succ]
        refine takeRun (i := 4) (v := ?_) rfl (by kernel_rfl) (by kernel_rfl) (by kernel_rfl) (fun _ _ _ h => h) rfl ?_ (by assumption) ?_
        rotate_left
        · (intro w hSw; (try dsimp only at hSw); go_simp; (try with_reducible rfl))
        try simp only [Act.put, List.setIfInBounds_toArray, List.set_cons_zero, List.set_cons_succ]
        refine takeRun (i := 5) (v := ?_) rfl (by kernel_rfl) (by kernel_rfl) (by kernel_rfl) (fun _ _ _ h => h) rfl ?_ (by assumption) ?_
        rotate_left
        · (intro w hSw; (try dsimp only at hSw); go_simp; (try with_reducible rfl))
        try simp only [Act.put, List.setIfInBounds_toArray, List.set_cons_zero, List.set_cons_succ]
        refine takeRun (i := 7) (v := ?_) rfl (by kernel_rfl) (by kernel_rfl) (by kernel_rfl) (fun _ _ _ h => h) rfl ?_ (by assumption) ?_
        rotate_left
        · (intro w hSw; (try dsimp only at hSw); go_simp; (try with_reducible rfl))
        try simp only [Act.put, List.setIfInBounds_toArray, List.set_cons_zero, List.set_cons_succ]
        refine takeRun (i := 8) (v := ?_) rfl (by kernel_rfl) (by kernel_rfl) (by kernel_rfl) (fun _ _ _ h => h) rfl ?_ (by assumption) ?_
        rotate_left
        · (intro w hSw; (try dsimp only at hSw); go_simp; (try with_reducible rfl))
        try simp only [Act.put, List.setIfInBounds_toArray, List.set_cons_zero, List.set_cons_succ]
        refine goOne (i := 6) (by kernel_rfl) rfl (fun K hK => ?_)
        go_simp
        (refine (FX.out _ ((hR.below hb).below b0)).mono ?_; rintro e wa ⟨rfl, hs⟩; replace hs := undrew hs)
        go_wp2_with fail
        refine hK.out _ _ ?_ (fun hHeld => ?_)
        · (first | with_reducible exact KK.out _ b0 | with_reducible exact KK.out _ (show Below _ _ _ from by assumption))
        clear hK K
        try simp only [Act.put, List.setIfInBounds_toArray, List.set_cons_zero, List.set_cons_succ]
        refine takeRun (i := 9) (v := ?_) rfl (by kernel_rfl) (by kernel_rfl) (by kernel_rfl) (fun _ _ _ h => h) rfl ?_ (by assumption) ?_
        rotate_left
        · (intro w hSw; (try dsimp only at hSw); go_simp; (try with_reducible rfl))
        try simp only [Act.put, List.setIfInBounds_toArray, List.set_cons_zero, List.set_cons_succ]
        refine takeSkip (i := 10) rfl (by kernel_rfl) (by kernel_rfl) (by kernel_rfl) (fun _ _ _ h => h) rfl (by assumption) ?_
        try simp only [Act.put, List.setIfInBounds_toArray, List.set_cons_zero, List.set_cons_succ]
        refine takeSkip (i := 11) rfl (by kernel_rfl) (by kernel_rfl) (by kernel_rfl) (fun _ _ _ h => h) rfl (by assumption) ?_
        try simp only [Act.put, List.setIfInBounds_toArray, List.set_cons_zero, List.set_cons_succ]
        refine takeRun (i := 12) (v := ?_) rfl (by kernel_rfl) (by kernel_rfl) (by kernel_rfl) (fun _ _ _ h => h) rfl ?_ (by assumption) ?_
        rotate_left
        · (intro w hSw; (try dsimp only at hSw); go_simp; (try with_reducible rfl))
        try simp only [Act.put, List.setIfInBounds_toArray, List.set_cons_zero, List.set_cons_succ]
        refine takeRun (i := 13) (v := ?_) rfl (by kernel_rfl) (by kernel_rfl) (by kernel_rfl) (fun _ _ _ h => h) rfl ?_ (by assumption) ?_
        rotate_left
        · (intro w hSw; (try dsimp only at hSw); go_simp; (try with_reducible rfl))
        try simp only [Act.put, List.setIfInBounds_toArray, List.set_cons_zero, List.set_cons_succ]
        refine takeRun (i := 14) (v := ?_) rfl (by kernel_rfl) (by kernel_rfl) (by kernel_rfl) (fun _ _ _ h => h) rfl ?_ (by assumption) ?_
        rotate_left
        · (intro w hSw; (try dsimp only at hSw); go_simp; (try with_reducible rfl))
        try simp only [Act.put, List.setIfInBounds_toArray, List.set_cons_zero, List.set_cons_succ]
        refine takeRun (i := 15) (v := ?_) rfl (by kernel_rfl) (by kernel_rfl) (by kernel_rfl) (fun _ _ _ h => h) rfl ?_ (by assumption) ?_
        rotate_left
        · (intro w hSw; (try dsimp only at hSw); go_simp; (try with_reducible rfl))
        try simp only [Act.put, List.setIfInBounds_toArray, List.set_cons_zero, List.set_cons_succ]
        refine takeRun (i := 16) (v := ?_) rfl (by kernel_rfl) (by kernel_rfl) (by kernel_rfl) (fun _ _ _ h => h) rfl ?_ (by assumption) ?_
        rotate_left
        · (intro w hSw; (try dsimp only at hSw); go_simp; (try with_reducible rfl))
        try simp only [Act.put, List.setIfInBounds_toArray, List.set_cons_zero, List.set_cons_succ]
        refine takeRun (i := 17) (v := ?_) rfl (by kernel_rfl) (by kernel_rfl) (by kernel_rfl) (fun _ _ _ h => h) rfl ?_ (by assumption) ?_
        rotate_left
        · (intro w hSw; (try dsimp only at hSw); go_simp; (try with_reducible rfl))
        try simp only [Act.put, List.setIfInBounds_toArray, List.set_cons_zero, List.set_cons_succ]
        refine takeRun (i := 18) (v := ?_) rfl (by kernel_rfl) (by kernel_rfl) (by kernel_rfl) (fun _ _ _ h => h) rfl ?_ (by assumption) ?_
        rotate_left
        · (intro w hSw; (try dsimp only at hSw); go_simp; (try with_reducible rfl))
        try simp only [Act.put, List.setIfInBounds_toArray, List.set_cons_zero, List.set_cons_succ]
        refine takeRun (i := 19) (v := ?_) rfl (by kernel_rfl) (by kernel_rfl) (by kernel_rfl) (fun _ _ _ h => h) rfl ?_ (by assumption) ?_
        rotate_left
        · (intro w hSw; (try dsimp only at hSw); go_simp; (try with_reducible rfl))
        try simp only [Act.put, List.setIfInBounds_toArray, List.set_cons_zero, List.set_cons_succ]
        refine goOne (i := 20) (by kernel_rfl) rfl (fun K hK => ?_)
        go_simp
        ((try rw [hfw]); refine (EN.out _).mono ?_; rintro e wb ⟨rfl, hs2⟩; have hs3 := bthen hs hs2)
        go_wp2_with fail
        refine hK.out _ _ ?_ (fun hHeld => ?_)
        · (first | with_reducible exact KK.out _ b0 | with_reducible exact KK.out _ (show Below _ _ _ from by assumption))
        clear hK K
        try simp only [Act.put, List.setIfInBounds_toArray, List.set_cons_zero, List.set_cons_succ]
        refine goOne (i := 21) (by kernel_rfl) rfl (fun K hK => ?_)
        go_simp
        (refine (FN.out _ ((hR.below hb).below hs3)).mono ?_; rintro e wc ⟨rfl, hs4⟩; have hs5 := bthen hs3 hs4)
        go_wp2_with fail
        refine hK.out _ _ ?_ (fun hHeld => ?_)
        · (first | with_reducible exact KK.out _ b0 | with_reducible exact KK.out _ (show Below _ _ _ from by assumption))
        clear hK K
        try simp only [Act.put, List.setIfInBounds_toArray, List.set_cons_zero, List.set_cons_succ]
        refine takeRun (i := 22) (v := ?_) rfl (by kernel_rfl) (by kernel_rfl) (by kernel_rfl) (fun _ _ _ h => h) rfl ?_ (by assumption) ?_
        rotate_left
        · (intro w hSw; (try dsimp only at hSw); go_simp; (try with_reducible rfl))
        try simp only [Act.put, List.setIfInBounds_toArray, List.set_cons_zero, List.set_cons_succ]
        refine takeRun (i := 23) (v := ?_) rfl (by kernel_rfl) (by kernel_rfl) (by kernel_rfl) (fun _ _ _ h => h) rfl ?_ (by assumption) ?_
        rotate_left
        · (intro w hSw; (try dsimp only at hSw); go_simp; (try with_reducible rfl))
        try simp only [Act.put, List.setIfInBounds_toArray, List.set_cons_zero, List.set_cons_succ]
        refine takeRun (i := 24) (v := ?_) rfl (by kernel_rfl) (by kernel_rfl) (by kernel_rfl) (fun _ _ _ h => h) rfl ?_ (by assumption) ?_
        rotate_left
        · (intro w hSw; (try dsimp only at hSw); go_simp; (try with_reducible rfl))
        try simp only [Act.put, List.setIfInBounds_toArray, List.set_cons_zero, List.set_cons_succ]
        refine takeRun (i := 25) (v := ?_) rfl (by kernel_rfl) (by kernel_rfl) (by kernel_rfl) (fun _ _ _ h => h) rfl ?_ (by assumption) ?_
        rotate_left
        · (intro w hSw; (try dsimp only at hSw); go_simp; (try with_reducible rfl))
        try simp only [Act.put, List.setIfInBounds_toArray, List.set_cons_zero, List.set_cons_succ]
        refine takeSkip (i := 26) rfl (by kernel_rfl) (by kernel_rfl) (by kernel_rfl) (fun _ _ _ h => h) rfl (by assumption) ?_
        try simp only [Act.put, List.setIfInBounds_toArray, List.set_cons_zero, List.set_cons_succ]
        refine takeSkip (i := 27) rfl (by kernel_rfl) (by kernel_rfl) (by kernel_rfl) (fun _ _ _ h => h) rfl (by assumption) ?_
        try simp only [Act.put, List.setIfInBounds_toArray, List.set_cons_zero, List.set_cons_succ]
        refine takeSkip (i := 28) rfl (by kernel_rfl) (by kernel_rfl) (by kernel_rfl) (fun _ _ _ h => h) rfl (by assumption) ?_
        try simp only [Act.put, List.setIfInBounds_toArray, List.set_cons_zero, List.set_cons_succ]
        refine takeSkip (i := 29) rfl (by kernel_rfl) (by kernel_rfl) (by kernel_rfl) (fun _ _ _ h => h) rfl (by assumption) ?_
        try simp only [Act.put, List.setIfInBounds_toArray, List.set_cons_zero, List.set_cons_succ]
        refine takeRun (i := 30) (v := ?_) rfl (by kernel_rfl) (by kernel_rfl) (by kernel_rfl) (fun _ _ _ h => h) rfl ?_ (by assumption) ?_
        rotate_left
        · (intro w hSw; (try dsimp only at hSw); go_simp; (try with_reducible rfl))
        try simp only [Act.put, List.setIfInBounds_toArray, List.set_cons_zero, List.set_cons_succ]
        refine takeRun (i := 31) (v := ?_) rfl (by kernel_rfl) (by kernel_rfl) (by kernel_rfl) (fun _ _ _ h => h) rfl ?_ (by assumption) ?_
        rotate_left
        · (intro w hSw; (try dsimp only at hSw); go_simp; (try with_reducible rfl))
        try simp only [Act.put, List.setIfInBounds_toArray, List.set_cons_zero, List.set_cons_succ]
        refine wpAnyH_done (by kernel_rfl) ?_ _
        obtain ⟨w10, rfl⟩ : ∃ z, z = wc := ⟨_, rfl⟩
        clear KK b0
        replace bx := bx.all hs5
        replace by_ := by_.all hs5
        replace be := be.all hs5
        replace bw := bw.all hs5
        replace hb := bthen hb hs5
        clear hs5
        go_upto_region 11 with fail
        refine wp_region_held_drew (S := fun _ => True) (by kernel_rfl) ?_ (fun hHeld => ?_)
        · exact trivial
        refine takeRun (i := 0) (v := ?_) rfl (by kernel_rfl) (by kernel_rfl) (by kernel_rfl) (fun _ _ _ h => h) rfl ?_ (by assumption) ?_
        rotate_left
        · (intro w hSw; (try dsimp only at hSw); go_simp; (try with_reducible rfl))
        try simp only [Act.put, List.setIfInBounds_toArray, List.set_cons_zero, List.set_cons_succ]
        refine takeRun (i := 1) (v := ?_) rfl (by kernel_rfl) (by kernel_rfl) (by kernel_rfl) (fun _ _ _ h => h) rfl ?_ (by assumption) ?_
        rotate_left
        · (intro w hSw; (try dsimp only at hSw); go_simp; (try with_reducible rfl))
        try simp only [Act.put, List.setIfInBounds_toArray, List.set_cons_zero, List.set_cons_succ]
        refine takeSkip (i := 2) rfl (by kernel_rfl) (by kernel_rfl) (by kernel_rfl) (fun _ _ _ h => h) rfl (by assumption) ?_
        try simp only [Act.put, List.setIfInBounds_toArray, List.set_cons_zero, List.set_cons_succ]
        refine takeSkip (i := 3) rfl (by kernel_rfl) (by kernel_rfl) (by kernel_rfl) (fun _ _ _ h => h) rfl (by assumption) ?_
        try simp only [Act.put, List.setIfInBounds_toArray, List.set_cons_zero, List.set_cons_succ]
        refine takeSkip (i := 4) rfl (by kernel_rfl) (by kernel_rfl) (by kernel_rfl) (fun _ _ _ h => h) rfl (by assumption) ?_
        try simp only [Act.put, List.setIfInBounds_toArray, List.set_cons_zero, List.set_cons_succ]
        refine takeRun (i := 5) (v := ?_) rfl (by kernel_rfl) (by kernel_rfl) (by kernel_rfl) (fun _ _ _ h => h) rfl ?_ (by assumption) ?_
        rotate_left
        · (intro w hSw; (try dsimp only at hSw); go_simp; (try with_reducible rfl))
        try simp only [Act.put, List.setIfInBounds_toArray, List.set_cons_zero, List.set_cons_succ]
        refine takeRun (i := 6) (v := ?_) rfl (by kernel_rfl) (by kernel_rfl) (by kernel_rfl) (fun _ _ _ h => h) rfl ?_ (by assumption) ?_
        rotate_left
        · (intro w hSw; (try dsimp only at hSw); go_simp; (try with_reducible rfl))
        try simp only [Act.put, List.setIfInBounds_toArray, List.set_cons_zero, List.set_cons_succ]
        refine takeSkip (i := 7) rfl (by kernel_rfl) (by kernel_rfl) (by kernel_rfl) (fun _ _ _ h => h) rfl (by assumption) ?_
        try simp only [Act.put, List.setIfInBounds_toArray, List.set_cons_zero, List.set_cons_succ]
        refine takeSkip (i := 8) rfl (by kernel_rfl) (by kernel_rfl) (by kernel_rfl) (fun _ _ _ h => h) rfl (by assumption) ?_
        try simp only [Act.put, List.setIfInBounds_toArray, List.set_cons_zero, List.set_cons_succ]
        refine takeSkip (i := 9) rfl (by kernel_rfl) (by kernel_rfl) (by kernel_rfl) (fun _ _ _ h => h) rfl (by assumption) ?_
        try simp only [Act.put, List.setIfInBounds_toArray, List.set_cons_zero, List.set_cons_succ]
        refine takeSkip (i := 10) rfl (by kernel_rfl) (by kernel_rfl) (by kernel_rfl) (fun _ _ _ h => h) rfl (by assumption) ?_
        try simp only [Act.put, List.setIfInBounds_toArray, List.set_cons_zero, List.set_cons_succ]
        refine takeSkip (i := 11) rfl (by kernel_rfl) (by kernel_rfl) (by kernel_rfl) (fun _ _ _ h => h) rfl (by assumption) ?_
        try simp only [Act.put, List.setIfInBounds_toArray, List.set_cons_zero, List.set_cons_succ]
        refine takeSkip (i := 12) rfl (by kernel_rfl) (by kernel_rfl) (by kernel_rfl) (fun _ _ _ h => h) rfl (by assumption) ?_
        try simp only [Act.put, List.setIfInBounds_toArray, List.set_cons_zero, List.set_cons_succ]
        refine takeSkip (i := 13) rfl (by kernel_rfl) (by kernel_rfl) (by kernel_rfl) (fun _ _ _ h => h) rfl (by assumption) ?_
        try simp only [Act.put, List.setIfInBounds_toArray, List.set_cons_zero, List.set_cons_succ]
        refine takeRun (i := 14) (v := ?_) rfl (by kernel_rfl) (by kernel_rfl) (by kernel_rfl) (fun _ _ _ h => h) rfl ?_ (by assumption) ?_
        rotate_left
        · (intro w hSw; (try dsimp only at hSw); go_simp; (try with_reducible rfl))
        try simp only [Act.put, List.setIfInBounds_toArray, List.set_cons_zero, List.set_cons_succ]
        refine wpAnyH_done (by kernel_rfl) ?_ _
        replace hb := below_drewN hb 1
        go_wp2_with fail
        refine (awk.out _).mono ?_
        rintro e wz ⟨rfl, hs⟩
        go_wp2_with fail
        go_ret
        exact ⟨rfl, bthen hb hs⟩
  | some e1 =>
    obtain ⟨Ae, ce, Be, de, he, rwe, rbe, hs⟩ := hT
    simp only [Rp.v, rpV] at he
    subst he
    obtain ⟨heok, he1, he2⟩ := echo_ok hok HEC.out
    replace bx := bx.all hs
    replace by_ := by_.all hs
    replace hb := bthen hb hs
    clear hs
    go_upto_region 4 with fail
    have be := Blk.new w2 52 #[.int .u8 (e1.fn : Int), .int .u8 (e1.ex : Int), .slice Be e1.bits.length de, .slice Ae e1.words.length ce, .int .u16 (e1.at_ : Int), .int .u16 (e1.many : Int)]
    have hs := (Below.refl w2.heap.size w2).alloc (Nat.le_refl _) (.cells #[.int .u8 (e1.fn : Int), .int .u8 (e1.ex : Int), .slice Be e1.bits.length de, .slice Ae e1.words.length ce, .int .u16 (e1.at_ : Int), .int .u16 (e1.many : Int)] 52)
    generalize w2.alloc (.cells #[.int .u8 (e1.fn : Int), .int .u8 (e1.ex : Int), .slice Be e1.bits.length de, .slice Ae e1.words.length ce, .int .u16 (e1.at_ : Int), .int .u16 (e1.many : Int)] 52) = w3 at *
    obtain ⟨ge, hge⟩ : ∃ g, w2.heap.size = g := ⟨_, rfl⟩
    have gelt : w2.heap.size ≤ ge := by omega
    replace bx := bx.all hs
    replace by_ := by_.all hs
    replace rwe := rwe.below hs
    replace rbe := rbe.below hs
    replace hb := bthen hb hs
    clear hs
    rw [hge] at be ⊢
    clear hge gelt
    obtain ⟨p0, p1, p2, p3, p4, p5⟩ := bx.c6
    go_wp2_with fail
    refine (E3.out _).mono ?_
    rintro e w4 ⟨rfl, hs⟩
    clear p0 p1 p2 p3 p4 p5
    replace bx := bx.all hs
    replace by_ := by_.all hs
    replace rwe := rwe.below hs
    replace rbe := rbe.below hs
    replace be := be.all hs
    replace hb := bthen hb hs
    clear hs
    go_upto_region 6 with fail
    have bw := Blk.new w4 52 #[.int .u8 (wf : Int), .int .u8 (x : Int), .slice none 0 0, .slice none 0 0, .int .u16 0, .int .u16 0]
    have hs := (Below.refl w4.heap.size w4).alloc (Nat.le_refl _) (.cells #[.int .u8 (wf : Int), .int .u8 (x : Int), .slice none 0 0, .slice none 0 0, .int .u16 0, .int .u16 0] 52)
    generalize w4.alloc (.cells #[.int .u8 (wf : Int), .int .u8 (x : Int), .slice none 0 0, .slice none 0 0, .int .u16 0, .int .u16 0] 52) = w5 at *
    obtain ⟨gw, hgw⟩ : ∃ g, w4.heap.size = g := ⟨_, rfl⟩
    have gwlt : w4.heap.size ≤ gw := by omega
    replace bx := bx.all hs
    replace by_ := by_.all hs
    replace rwe := rwe.below hs
    replace rbe := rbe.below hs
    replace be := be.all hs
    replace hb := bthen hb hs
    clear hs
    rw [hgw] at bw ⊢
    clear hgw gwlt
    obtain ⟨p0, p1, p2, p3, p4, p5⟩ := bx.c6
    go_wp2_with fail
    refine (E2.out _).mono ?_
    rintro e w6 ⟨rfl, hs⟩
    clear p0 p1 p2 p3 p4 p5
    replace bx := bx.all hs
    replace by_ := by_.all hs
    replace rwe := rwe.below hs
    replace rbe := rbe.below hs
    replace be := be.all hs
    replace bw := bw.all hs
    replace hb := bthen hb hs
    clear hs
    cases rt with
    | false =>
      have := (fits_not (r := r) HRT.out).2
      rw [HEC.out] at this
      cases this
    | true =>
    have hno : a.fn = 5 ∨ a.fn = 6 ∨ a.fn = 15 ∨ a.fn = 16 := by
      have := echo_some HRT.out
      rw [HEC.out] at this
      exact of_decide_eq_true this.symm
    have HER := Lib.hid (echo_right HRT.out HEC.out)
    have FE := Lib.hid (fun W (h : AkR W a A B) (h2 : RpR W e1 Ae Be) => reply_Fits a A c B d e1 Ae ce Be de W h hok (by omega) (by omega) h2 heok (by omega) (by omega) (fun h => by rw [HEC.out] at h; cases h))
    have ER := Lib.hid (fun W (h2 : RpR W e1 Ae Be) => reply_Right e1 Ae ce Be de W h2 heok (by omega) (by omega))
    rw [fits_echo HRT.out HEC.out HER.out.2.1, sameR_self] at FE
    rw [HER.out.1] at ER
    simp only [Ak.v, akV, Rp.v, rpV] at FE ER
    have hfn := right_fn HRT.out
    have hwe : wf = a.fn := by have := HWF.out; omega
    have n2 := fits_wrong HRT.out x hx5
    have n3 := fits_next HRT.out
    have FN := Lib.hid (fun W (h : AkR W a A B) => reply_Fits a A c B d (wrongR (a.fn + 1) 1) none 0 none 0 W h hok (by omega) (by omega) ⟨Rd.nil, Rd.nil⟩ ⟨by simp only [wrongR]; omega, by simp [wrongR], (by intro y hy; cases hy), by simp [wrongR], by simp [wrongR]⟩ (by simp [wrongR]) (by simp [wrongR]) (fun _ => by simp [wrongR]))
    rw [n3] at FN
    have EN := Lib.hid (fun W => reply_Wrong (a.fn + 1) 1 W (by omega) (by omega))
    obtain ⟨wr1, hwr1⟩ : ∃ y, wrongR (a.fn + 1) 1 = y := ⟨_, rfl⟩
    rw [hwr1] at FN EN
    have hfi : (a.fn : Int) + 1 = ((a.fn + 1 : Nat) : Int) := by omega
    have hfw : IntKind.u8.wrap ((a.fn : Int) + 1) = ((a.fn + 1 : Nat) : Int) := by rw [IntKind.wrap_u8]; omega
    rw [show wrongR a.fn x = ⟨wf, x, [], [], 0, 0⟩ from by unfold wrongR; rw [HWF.out]] at n2
    rw [n2] at FX
    simp only [Ak.v, akV, Rp.v, rpV] at FN EN
    clear n2 n3 hwr1 hwe hfi
    go_upto_region 8 with fail
    go_cut [11] (fun v wc => v = .bool true ∧ w6 = wc)
    case first =>
      obtain ⟨p0, p1, p2, p3, p4, p5⟩ := bx.c6
      have hc : ((a.fn : Int) == 5) = true ∨ (((a.fn : Int) == 5) = false ∧ ((a.fn : Int) == 6) = true) ∨ (((a.fn : Int) == 5) = false ∧ ((a.fn : Int) == 6) = false ∧ ((a.fn : Int) == 15) = true) ∨ (((a.fn : Int) == 5) = false ∧ ((a.fn : Int) == 6) = false ∧ ((a.fn : Int) == 15) = false ∧ ((a.fn : Int) == 16) = true) := by
        rcases hno with h | h | h | h <;> simp [h]
      rcases hc with h | ⟨h1, h⟩ | ⟨h1, h2, h⟩ | ⟨h1, h2, h3, h⟩
      all_goals
        go_wp2_with fail
        go_meet
        exact ⟨rfl, rfl⟩
    case rest =>
    obtain ⟨rfl, rfl⟩ := hcut
    clear hno
    go_upto_region 9 with fail
    have hx1 : (decide ((1 : Int) ≤ (x : Int)) = true ∧ decide (1 ≤ x ∧ x ≤ 4) = decide ((x : Int) ≤ 4)) ∨ (decide ((1 : Int) ≤ (x : Int)) = false ∧ decide (1 ≤ x ∧ x ≤ 4) = false) := by
      by_cases h : 1 ≤ x
      · left
        refine ⟨decide_eq_true (by omega), ?_⟩
        by_cases h4 : x ≤ 4
        · rw [decide_eq_true ⟨h, h4⟩, decide_eq_true (by omega)]
        · rw [decide_eq_false (by omega), decide_eq_false (by omega)]
      · right; exact ⟨decide_eq_false (by omega), decide_eq_false (by omega)⟩
    have b0 := (Below.refl w6.heap.size w6).drew
    have KK : Hid (∀ W : World, Below w6.heap.size w6 W → W.cell? ⟨ga, 0, none⟩ = some (.int .u8 (a.fn : Int)) ∧ W.cell? ⟨ga, 1, none⟩ = some (.int .u16 (a.at_ : Int)) ∧ W.cell? ⟨ga, 2, none⟩ = some (.int .u16 (a.many : Int)) ∧ W.cell? ⟨ga, 3, none⟩ = some (.int .u16 (a.to_ : Int)) ∧ W.cell? ⟨ga, 4, none⟩ = some (.slice A a.words.length c) ∧ W.cell? ⟨ga, 5, none⟩ = some (.slice B a.bits.length d) ∧ W.cell? ⟨gw, 0, none⟩ = some (.int .u8 (wf : Int)) ∧ W.cell? ⟨gw, 1, none⟩ = some (.int .u8 (x : Int)) ∧ W.cell? ⟨gw, 2, none⟩ = some (.slice none 0 0) ∧ W.cell? ⟨gw, 3, none⟩ = some (.slice none 0 0) ∧ W.cell? ⟨gw, 4, none⟩ = some (.int .u16 0) ∧ W.cell? ⟨gw, 5, none⟩ = some (.int .u16 0) ∧ W.cell? ⟨ge, 0, none⟩ = some (.int .u8 (e1.fn : Int)) ∧ W.cell? ⟨ge, 1, none⟩ = some (.int .u8 (e1.ex : Int)) ∧ W.cell? ⟨ge, 2, none⟩ = some (.slice Be e1.bits.length de) ∧ W.cell? ⟨ge, 3, none⟩ = some (.slice Ae e1.words.length ce) ∧ W.cell? ⟨ge, 4, none⟩ = some (.int .u16 (e1.at_ : Int)) ∧ W.cell? ⟨ge, 5, none⟩ = some (.int .u16 (e1.many : Int))) := fun W hW => ⟨(bx.all hW).cell 0, (bx.all hW).cell 1, (bx.all hW).cell 2, (bx.all hW).cell 3, (bx.all hW).cell 4, (bx.all hW).cell 5, (bw.all hW).cell 0, (bw.all hW).cell 1, (bw.all hW).cell 2, (bw.all hW).cell 3, (bw.all hW).cell 4, (bw.all hW).cell 5, (be.all hW).cell 0, (be.all hW).cell 1, (be.all hW).cell 2, (be.all hW).cell 3, (be.all hW).cell 4, (be.all hW).cell 5⟩
    rcases hx1 with ⟨t1, t2⟩ | ⟨t1, t2⟩
    · rw [t2] at FX
      clear t2
      have hRe : RpR w6 e1 Ae Be := ⟨rwe.rd, rbe.rd⟩
      refine wp_region_held_drew (S := fun W => W.cell? ⟨ga, 0, none⟩ = some (.int .u8 (a.fn : Int)) ∧ W.cell? ⟨ga, 1, none⟩ = some (.int .u16 (a.at_ : Int)) ∧ W.cell? ⟨ga, 2, none⟩ = some (.int .u16 (a.many : Int)) ∧ W.cell? ⟨ga, 3, none⟩ = some (.int .u16 (a.to_ : Int)) ∧ W.cell? ⟨ga, 4, none⟩ = some (.slice A a.words.length c) ∧ W.cell? ⟨ga, 5, none⟩ = some (.slice B a.bits.length d) ∧ W.cell? ⟨gw, 0, none⟩ = some (.int .u8 (wf : Int)) ∧ W.cell? ⟨gw, 1, none⟩ = some (.int .u8 (x : Int)) ∧ W.cell? ⟨gw, 2, none⟩ = some (.slice none 0 0) ∧ W.cell? ⟨gw, 3, none⟩ = some (.slice none 0 0) ∧ W.cell? ⟨gw, 4, none⟩ = some (.int .u16 0) ∧ W.cell? ⟨gw, 5, none⟩ = some (.int .u16 0) ∧ W.cell? ⟨ge, 0, none⟩ = some (.int .u8 (e1.fn : Int)) ∧ W.cell? ⟨ge, 1, none⟩ = some (.int .u8 (e1.ex : Int)) ∧ W.cell? ⟨ge, 2, none⟩ = some (.slice Be e1.bits.length de) ∧ W.cell? ⟨ge, 3, none⟩ = some (.slice Ae e1.words.length ce) ∧ W.cell? ⟨ge, 4, none⟩ = some (.int .u16 (e1.at_ : Int)) ∧ W.cell? ⟨ge, 5, none⟩ = some (.int .u16 (e1.many : Int))) (by kernel_rfl) ?_ (fun hHeld => ?_)
      · (first | with_reducible exact KK.out _ b0 | with_reducible exact KK.out _ (show Below _ _ _ from by assumption))
      refine takeRun (i := 0) (v := ?_) rfl (by kernel_rfl) (by kernel_rfl) (by kernel_rfl) (fun _ _ _ h => h) rfl ?_ (by assumption) ?_
      rotate_left
      · (intro w hSw; (try dsimp only at hSw); go_simp; (try with_reducible rfl))
      try simp only [Act.put, List.setIfInBounds_toArray, List.set_cons_zero, List.set_cons_succ]
      refine takeRun (i := 1) (v := ?_) rfl (by kernel_rfl) (by kernel_rfl) (by kernel_rfl) (fun _ _ _ h => h) rfl ?_ (by assumption) ?_
      rotate_left
      · (intro w hSw; (try dsimp only at hSw); go_simp; (try with_reducible rfl))
      try simp only [Act.put, List.setIfInBounds_toArray, List.set_cons_zero, List.set_cons_succ]
      refine takeRun (i := 2) (v := ?_) rfl (by kernel_rfl) (by kernel_rfl) (by kernel_rfl) (fun _ _ _ h => h) rfl ?_ (by assumption) ?_
      rotate_left
      · (intro w hSw; (try dsimp only at hSw); go_simp; (try with_reducible rfl))
      try simp only [Act.put, List.setIfInBounds_toArray, List.set_cons_zero, List.set_cons_succ]
      refine takeRun (i := 3) (v := ?_) rfl (by kernel_rfl) (by kernel_rfl) (by kernel_rfl) (fun _ _ _ h => h) rfl ?_ (by assumption) ?_
      rotate_left
      · (intro w hSw; (try dsimp only at hSw); go_simp; (try with_reducible rfl))
      try simp only [Act.put, List.setIfInBounds_toArray, List.set_cons_zero, List.set_cons_succ]
      refine takeRun (i := 4) (v := ?_) rfl (by kernel_rfl) (by kernel_rfl) (by kernel_rfl) (fun _ _ _ h => h) rfl ?_ (by assumption) ?_
      rotate_left
      · (intro w hSw; (try dsimp only at hSw); go_simp; (try with_reducible rfl))
      try simp only [Act.put, List.setIfInBounds_toArray, List.set_cons_zero, List.set_cons_succ]
      refine takeRun (i := 5) (v := ?_) rfl (by kernel_rfl) (by kernel_rfl) (by kernel_rfl) (fun _ _ _ h => h) rfl ?_ (by assumption) ?_
      rotate_left
      · (intro w hSw; (try dsimp only at hSw); go_simp; (try with_reducible rfl))
      try simp only [Act.put, List.setIfInBounds_toArray, List.set_cons_zero, List.set_cons_succ]
      refine takeRun (i := 7) (v := ?_) rfl (by kernel_rfl) (by kernel_rfl) (by kernel_rfl) (fun _ _ _ h => h) rfl ?_ (by assumption) ?_
      rotate_left
      · (intro w hSw; (try dsimp only at hSw); go_simp; (try with_reducible rfl))
      try simp only [Act.put, List.setIfInBounds_toArray, List.set_cons_zero, List.set_cons_succ]
      refine takeRun (i := 8) (v := ?_) rfl (by kernel_rfl) (by kernel_rfl) (by kernel_rfl) (fun _ _ _ h => h) rfl ?_ (by assumption) ?_
      rotate_left
      · (intro w hSw; (try dsimp only at hSw); go_simp; (try with_reducible rfl))
      try simp only [Act.put, List.setIfInBounds_toArray, List.set_cons_zero, List.set_cons_succ]
      refine goOne (i := 6) (by kernel_rfl) rfl (fun K hK => ?_)
      go_simp
      (refine (FX.out _ ((hR.below hb).below b0)).mono ?_; rintro e wa ⟨rfl, hs⟩; replace hs := undrew hs)
      go_wp2_with fail
      refine hK.out _ _ ?_ (fun hHeld => ?_)
      · (first | with_reducible exact KK.out _ b0 | with_reducible exact KK.out _ (show Below _ _ _ from by assumption))
      clear hK K
      try simp only [Act.put, List.setIfInBounds_toArray, List.set_cons_zero, List.set_cons_succ]
      refine takeRun (i := 9) (v := ?_) rfl (by kernel_rfl) (by kernel_rfl) (by kernel_rfl) (fun _ _ _ h => h) rfl ?_ (by assumption) ?_
      rotate_left
      · (intro w hSw; (try dsimp only at hSw); go_simp; (try with_reducible rfl))
      try simp only [Act.put, List.setIfInBounds_toArray, List.set_cons_zero, List.set_cons_succ]
      refine takeRun (i := 10) (v := ?_) rfl (by kernel_rfl) (by kernel_rfl) (by kernel_rfl) (fun _ _ _ h => h) rfl ?_ (by assumption) ?_
      rotate_left
      · (intro w hSw; (try dsimp only at hSw); go_simp; (try with_reducible rfl))
      try simp only [Act.put, List.setIfInBounds_toArray, List.set_cons_zero, List.set_cons_succ]
      refine takeRun (i := 11) (v := ?_) rfl (by kernel_rfl) (by kernel_rfl) (by kernel_rfl) (fun _ _ _ h => h) rfl ?_ (by assumption) ?_
      rotate_left
      · (intro w hSw; (try dsimp only at hSw); go_simp; (try with_reducible rfl))
      try simp only [Act.put, List.setIfInBounds_toArray, List.set_cons_zero, List.set_cons_succ]
      refine takeRun (i := 12) (v := ?_) rfl (by kernel_rfl) (by kernel_rfl) (by kernel_rfl) (fun _ _ _ h => h) rfl ?_ (by assumption) ?_
      rotate_left
      · (intro w hSw; (try dsimp only at hSw); go_simp; (try with_reducible rfl))
      try simp only [Act.put, List.setIfInBounds_toArray, List.set_cons_zero, List.set_cons_succ]
      refine takeRun (i := 13) (v := ?_) rfl (by kernel_rfl) (by kernel_rfl) (by kernel_rfl) (fun _ _ _ h => h) rfl ?_ (by assumption) ?_
      rotate_left
      · (intro w hSw; (try dsimp only at hSw); go_simp; (try with_reducible rfl))
      try simp only [Act.put, List.setIfInBounds_toArray, List.set_cons_zero, List.set_cons_succ]
      refine takeRun (i := 14) (v := ?_) rfl (by kernel_rfl) (by kernel_rfl) (by kernel_rfl) (fun _ _ _ h => h) rfl ?_ (by assumption) ?_
      rotate_left
      · (intro w hSw; (try dsimp only at hSw); go_simp; (try with_reducible rfl))
      try simp only [Act.put, List.setIfInBounds_toArray, List.set_cons_zero, List.set_cons_succ]
      refine takeRun (i := 15) (v := ?_) rfl (by kernel_rfl) (by kernel_rfl) (by kernel_rfl) (fun _ _ _ h => h) rfl ?_ (by assumption) ?_
      rotate_left
      · (intro w hSw; (try dsimp only at hSw); go_simp; (try with_reducible rfl))
      try simp only [Act.put, List.setIfInBounds_toArray, List.set_cons_zero, List.set_cons_succ]
      refine takeRun (i := 16) (v := ?_) rfl (by kernel_rfl) (by kernel_rfl) (by kernel_rfl) (fun _ _ _ h => h) rfl ?_ (by assumption) ?_
      rotate_left
      · (intro w hSw; (try dsimp only at hSw); go_simp; (try with_reducible rfl))
      try simp only [Act.put, List.setIfInBounds_toArray, List.set_cons_zero, List.set_cons_succ]
      refine takeRun (i := 17) (v := ?_) rfl (by kernel_rfl) (by kernel_rfl) (by kernel_rfl) (fun _ _ _ h => h) rfl ?_ (by assumption) ?_
      rotate_left
      · (intro w hSw; (try dsimp only at hSw); go_simp; (try with_reducible rfl))
      try simp only [Act.put, List.setIfInBounds_toArray, List.set_cons_zero, List.set_cons_succ]
      refine takeRun (i := 18) (v := ?_) rfl (by kernel_rfl) (by kernel_rfl) (by kernel_rfl) (fun _ _ _ h => h) rfl ?_ (by assumption) ?_
      rotate_left
      · (intro w hSw; (try dsimp only at hSw); go_simp; (try with_reducible rfl))
      try simp only [Act.put, List.setIfInBounds_toArray, List.set_cons_zero, List.set_cons_succ]
      refine takeRun (i := 19) (v := ?_) rfl (by kernel_rfl) (by kernel_rfl) (by kernel_rfl) (fun _ _ _ h => h) rfl ?_ (by assumption) ?_
      rotate_left
      · (intro w hSw; (try dsimp only at hSw); go_simp; (try with_reducible rfl))
      try simp only [Act.put, List.setIfInBounds_toArray, List.set_cons_zero, List.set_cons_succ]
      refine goOne (i := 20) (by kernel_rfl) rfl (fun K hK => ?_)
      go_simp
      ((try rw [hfw]); refine (EN.out _).mono ?_; rintro e wb ⟨rfl, hs2⟩; have hs3 := bthen hs hs2)
      go_wp2_with fail
      refine hK.out _ _ ?_ (fun hHeld => ?_)
      · (first | with_reducible exact KK.out _ b0 | with_reducible exact KK.out _ (show Below _ _ _ from by assumption))
      clear hK K
      try simp only [Act.put, List.setIfInBounds_toArray, List.set_cons_zero, List.set_cons_succ]
      refine goOne (i := 21) (by kernel_rfl) rfl (fun K hK => ?_)
      go_simp
      (refine (FN.out _ ((hR.below hb).below hs3)).mono ?_; rintro e wc ⟨rfl, hs4⟩; have hs5 := bthen hs3 hs4)
      go_wp2_with fail
      refine hK.out _ _ ?_ (fun hHeld => ?_)
      · (first | with_reducible exact KK.out _ b0 | with_reducible exact KK.out _ (show Below _ _ _ from by assumption))
      clear hK K
      try simp only [Act.put, List.setIfInBounds_toArray, List.set_cons_zero, List.set_cons_succ]
      refine takeRun (i := 22) (v := ?_) rfl (by kernel_rfl) (by kernel_rfl) (by kernel_rfl) (fun _ _ _ h => h) rfl ?_ (by assumption) ?_
      rotate_left
      · (intro w hSw; (try dsimp only at hSw); go_simp; (try with_reducible rfl))
      try simp only [Act.put, List.setIfInBounds_toArray, List.set_cons_zero, List.set_cons_succ]
      refine takeRun (i := 23) (v := ?_) rfl (by kernel_rfl) (by kernel_rfl) (by kernel_rfl) (fun _ _ _ h => h) rfl ?_ (by assumption) ?_
      rotate_left
      · (intro w hSw; (try dsimp only at hSw); go_simp; (try with_reducible rfl))
      try simp only [Act.put, List.setIfInBounds_toArray, List.set_cons_zero, List.set_cons_succ]
      refine takeRun (i := 24) (v := ?_) rfl (by kernel_rfl) (by kernel_rfl) (by kernel_rfl) (fun _ _ _ h => h) rfl ?_ (by assumption) ?_
      rotate_left
      · (intro w hSw; (try dsimp only at hSw); go_simp; (try with_reducible rfl))
      try simp only [Act.put, List.setIfInBounds_toArray, List.set_cons_zero, List.set_cons_succ]
      refine takeRun (i := 25) (v := ?_) rfl (by kernel_rfl) (by kernel_rfl) (by kernel_rfl) (fun _ _ _ h => h) rfl ?_ (by assumption) ?_
      rotate_left
      · (intro w hSw; (try dsimp only at hSw); go_simp; (try with_reducible rfl))
      try simp only [Act.put, List.setIfInBounds_toArray, List.set_cons_zero, List.set_cons_succ]
      refine takeRun (i := 26) (v := ?_) rfl (by kernel_rfl) (by kernel_rfl) (by kernel_rfl) (fun _ _ _ h => h) rfl ?_ (by assumption) ?_
      rotate_left
      · (intro w hSw; (try dsimp only at hSw); go_simp; (try with_reducible rfl))
      try simp only [Act.put, List.setIfInBounds_toArray, List.set_cons_zero, List.set_cons_succ]
      refine takeRun (i := 27) (v := ?_) rfl (by kernel_rfl) (by kernel_rfl) (by kernel_rfl) (fun _ _ _ h => h) rfl ?_ (by assumption) ?_
      rotate_left
      · (intro w hSw; (try dsimp only at hSw); go_simp; (try with_reducible rfl))
      try simp only [Act.put, List.setIfInBounds_toArray, List.set_cons_zero, List.set_cons_succ]
      refine goOne (i := 28) (by kernel_rfl) rfl (fun K hK => ?_)
      go_simp
      (refine (FE.out _ ((hR.below hb).below hs5) ((hRe.below hs5))).mono ?_; rintro e wd ⟨rfl, hs6⟩; have hs7 := bthen hs5 hs6)
      go_wp2_with fail
      refine hK.out _ _ ?_ (fun hHeld => ?_)
      · (first | with_reducible exact KK.out _ b0 | with_reducible exact KK.out _ (show Below _ _ _ from by assumption))
      clear hK K
      try simp only [Act.put, List.setIfInBounds_toArray, List.set_cons_zero, List.set_cons_succ]
      refine takeRun (i := 29) (v := ?_) rfl (by kernel_rfl) (by kernel_rfl) (by kernel_rfl) (fun _ _ _ h => h) rfl ?_ (by assumption) ?_
      rotate_left
      · (intro w hSw; (try dsimp only at hSw); go_simp; (try with_reducible rfl))
      try simp only [Act.put, List.setIfInBounds_toArray, List.set_cons_zero, List.set_cons_succ]
      refine takeRun (i := 30) (v := ?_) rfl (by kernel_rfl) (by kernel_rfl) (by kernel_rfl) (fun _ _ _ h => h) rfl ?_ (by assumption) ?_
      rotate_left
      · (intro w hSw; (try dsimp only at hSw); go_simp; (try with_reducible rfl))
      try simp only [Act.put, List.setIfInBounds_toArray, List.set_cons_zero, List.set_cons_succ]
      refine takeRun (i := 31) (v := ?_) rfl (by kernel_rfl) (by kernel_rfl) (by kernel_rfl) (fun _ _ _ h => h) rfl ?_ (by assumption) ?_
      rotate_left
      · (intro w hSw; (try dsimp only at hSw); go_simp; (try with_reducible rfl))
      try simp only [Act.put, List.setIfInBounds_toArray, List.set_cons_zero, List.set_cons_succ]
      refine wpAnyH_done (by kernel_rfl) ?_ _
      obtain ⟨w10, rfl⟩ : ∃ z, z = wd := ⟨_, rfl⟩
      clear KK b0
      replace bx := bx.all hs7
      replace by_ := by_.all hs7
      replace rwe := rwe.below hs7
      replace rbe := rbe.below hs7
      replace be := be.all hs7
      replace bw := bw.all hs7
      replace hb := bthen hb hs7
      clear hs7
      have hx0 : ((r.ex : Int) == 0) = true ∧ fitsA a r = sameR e1 r ∨ ((r.ex : Int) == 0) = false := by
        by_cases h : r.ex = 0
        · left; exact ⟨by simp [h], fits_echo HRT.out HEC.out h⟩
        · right; simp; omega
      go_upto_region 11 with fail
      have b0 := (Below.refl w10.heap.size w10).drew
      have KK : Hid (∀ W : World, Below w10.heap.size w10 W → W.cell? ⟨ga, 0, none⟩ = some (.int .u8 (a.fn : Int)) ∧ W.cell? ⟨ga, 1, none⟩ = some (.int .u16 (a.at_ : Int)) ∧ W.cell? ⟨ga, 2, none⟩ = some (.int .u16 (a.many : Int)) ∧ W.cell? ⟨ga, 3, none⟩ = some (.int .u16 (a.to_ : Int)) ∧ W.cell? ⟨ga, 4, none⟩ = some (.slice A a.words.length c) ∧ W.cell? ⟨ga, 5, none⟩ = some (.slice B a.bits.length d) ∧ W.cell? ⟨gr, 0, none⟩ = some (.int .u8 (r.fn : Int)) ∧ W.cell? ⟨gr, 1, none⟩ = some (.int .u8 (r.ex : Int)) ∧ W.cell? ⟨gr, 2, none⟩ = some (.slice B' r.bits.length d') ∧ W.cell? ⟨gr, 3, none⟩ = some (.slice A' r.words.length c') ∧ W.cell? ⟨gr, 4, none⟩ = some (.int .u16 (r.at_ : Int)) ∧ W.cell? ⟨gr, 5, none⟩ = some (.int .u16 (r.many : Int)) ∧ W.cell? ⟨ge, 0, none⟩ = some (.int .u8 (e1.fn : Int)) ∧ W.cell? ⟨ge, 1, none⟩ = some (.int .u8 (e1.ex : Int)) ∧ W.cell? ⟨ge, 2, none⟩ = some (.slice Be e1.bits.length de) ∧ W.cell? ⟨ge, 3, none⟩ = some (.slice Ae e1.words.length ce) ∧ W.cell? ⟨ge, 4, none⟩ = some (.int .u16 (e1.at_ : Int)) ∧ W.cell? ⟨ge, 5, none⟩ = some (.int .u16 (e1.many : Int))) := fun W hW => ⟨(bx.all hW).cell 0, (bx.all hW).cell 1, (bx.all hW).cell 2, (bx.all hW).cell 3, (bx.all hW).cell 4, (bx.all hW).cell 5, (by_.all hW).cell 0, (by_.all hW).cell 1, (by_.all hW).cell 2, (by_.all hW).cell 3, (by_.all hW).cell 4, (by_.all hW).cell 5, (be.all hW).cell 0, (be.all hW).cell 1, (be.all hW).cell 2, (be.all hW).cell 3, (be.all hW).cell 4, (be.all hW).cell 5⟩
      rcases hx0 with ⟨t3, t4⟩ | t3
      · rw [t4] at FA
        have SE := Lib.hid (fun W (h1 : RpR W e1 Ae Be) (h2 : RpR W r A' B') => reply_Same e1 r Ae ce Be de A' c' B' d' W h1 h2 (by omega) (by omega))
        obtain ⟨y, hy⟩ : ∃ y, sameR e1 r = y := ⟨_, rfl⟩
        rw [hy] at FA SE
        simp only [Rp.v, rpV] at SE
        clear hy t4
        have hRe2 : RpR w10 e1 Ae Be := ⟨rwe.rd, rbe.rd⟩
        refine wp_region_held_drew (S := fun W => W.cell? ⟨ga, 0, none⟩ = some (.int .u8 (a.fn : Int)) ∧ W.cell? ⟨ga, 1, none⟩ = some (.int .u16 (a.at_ : Int)) ∧ W.cell? ⟨ga, 2, none⟩ = some (.int .u16 (a.many : Int)) ∧ W.cell? ⟨ga, 3, none⟩ = some (.int .u16 (a.to_ : Int)) ∧ W.cell? ⟨ga, 4, none⟩ = some (.slice A a.words.length c) ∧ W.cell? ⟨ga, 5, none⟩ = some (.slice B a.bits.length d) ∧ W.cell? ⟨gr, 0, none⟩ = some (.int .u8 (r.fn : Int)) ∧ W.cell? ⟨gr, 1, none⟩ = some (.int .u8 (r.ex : Int)) ∧ W.cell? ⟨gr, 2, none⟩ = some (.slice B' r.bits.length d') ∧ W.cell? ⟨gr, 3, none⟩ = some (.slice A' r.words.length c') ∧ W.cell? ⟨gr, 4, none⟩ = some (.int .u16 (r.at_ : Int)) ∧ W.cell? ⟨gr, 5, none⟩ = some (.int .u16 (r.many : Int)) ∧ W.cell? ⟨ge, 0, none⟩ = some (.int .u8 (e1.fn : Int)) ∧ W.cell? ⟨ge, 1, none⟩ = some (.int .u8 (e1.ex : Int)) ∧ W.cell? ⟨ge, 2, none⟩ = some (.slice Be e1.bits.length de) ∧ W.cell? ⟨ge, 3, none⟩ = some (.slice Ae e1.words.length ce) ∧ W.cell? ⟨ge, 4, none⟩ = some (.int .u16 (e1.at_ : Int)) ∧ W.cell? ⟨ge, 5, none⟩ = some (.int .u16 (e1.many : Int))) (by kernel_rfl) ?_ (fun hHeld => ?_)
        · (first | with_reducible exact KK.out _ b0 | with_reducible exact KK.out _ (show Below _ _ _ from by assumption))
        refine takeRun (i := 0) (v := ?_) rfl (by kernel_rfl) (by kernel_rfl) (by kernel_rfl) (fun _ _ _ h => h) rfl ?_ (by assumption) ?_
        rotate_left
        · (intro w hSw; (try dsimp only at hSw); go_simp; (try with_reducible rfl))
        try simp only [Act.put, List.setIfInBounds_toArray, List.set_cons_zero, List.set_cons_succ]
        refine takeRun (i := 1) (v := ?_) rfl (by kernel_rfl) (by kernel_rfl) (by kernel_rfl) (fun _ _ _ h => h) rfl ?_ (by assumption) ?_
        rotate_left
        · (intro w hSw; (try dsimp only at hSw); go_simp; (try with_reducible rfl))
        try simp only [Act.put, List.setIfInBounds_toArray, List.set_cons_zero, List.set_cons_succ]
        refine takeRun (i := 2) (v := ?_) rfl (by kernel_rfl) (by kernel_rfl) (by kernel_rfl) (fun _ _ _ h => h) rfl ?_ (by assumption) ?_
        rotate_left
        · (intro w hSw; (try dsimp only at hSw); go_simp; (try with_reducible rfl))
        try simp only [Act.put, List.setIfInBounds_toArray, List.set_cons_zero, List.set_cons_succ]
        refine takeRun (i := 3) (v := ?_) rfl (by kernel_rfl) (by kernel_rfl) (by kernel_rfl) (fun _ _ _ h => h) rfl ?_ (by assumption) ?_
        rotate_left
        · (intro w hSw; (try dsimp only at hSw); go_simp; (try with_reducible rfl))
        try simp only [Act.put, List.setIfInBounds_toArray, List.set_cons_zero, List.set_cons_succ]
        refine takeRun (i := 4) (v := ?_) rfl (by kernel_rfl) (by kernel_rfl) (by kernel_rfl) (fun _ _ _ h => h) rfl ?_ (by assumption) ?_
        rotate_left
        · (intro w hSw; (try dsimp only at hSw); go_simp; (try with_reducible rfl))
        try simp only [Act.put, List.setIfInBounds_toArray, List.set_cons_zero, List.set_cons_succ]
        refine takeRun (i := 5) (v := ?_) rfl (by kernel_rfl) (by kernel_rfl) (by kernel_rfl) (fun _ _ _ h => h) rfl ?_ (by assumption) ?_
        rotate_left
        · (intro w hSw; (try dsimp only at hSw); go_simp; (try with_reducible rfl))
        try simp only [Act.put, List.setIfInBounds_toArray, List.set_cons_zero, List.set_cons_succ]
        refine takeRun (i := 6) (v := ?_) rfl (by kernel_rfl) (by kernel_rfl) (by kernel_rfl) (fun _ _ _ h => h) rfl ?_ (by assumption) ?_
        rotate_left
        · (intro w hSw; (try dsimp only at hSw); go_simp; (try with_reducible rfl))
        try simp only [Act.put, List.setIfInBounds_toArray, List.set_cons_zero, List.set_cons_succ]
        refine takeRun (i := 7) (v := ?_) rfl (by kernel_rfl) (by kernel_rfl) (by kernel_rfl) (fun _ _ _ h => h) rfl ?_ (by assumption) ?_
        rotate_left
        · (intro w hSw; (try dsimp only at hSw); go_simp; (try with_reducible rfl))
        try simp only [Act.put, List.setIfInBounds_toArray, List.set_cons_zero, List.set_cons_succ]
        refine takeRun (i := 8) (v := ?_) rfl (by kernel_rfl) (by kernel_rfl) (by kernel_rfl) (fun _ _ _ h => h) rfl ?_ (by assumption) ?_
        rotate_left
        · (intro w hSw; (try dsimp only at hSw); go_simp; (try with_reducible rfl))
        try simp only [Act.put, List.setIfInBounds_toArray, List.set_cons_zero, List.set_cons_succ]
        refine takeRun (i := 10) (v := ?_) rfl (by kernel_rfl) (by kernel_rfl) (by kernel_rfl) (fun _ _ _ h => h) rfl ?_ (by assumption) ?_
        rotate_left
        · (intro w hSw; (try dsimp only at hSw); go_simp; (try with_reducible rfl))
        try simp only [Act.put, List.setIfInBounds_toArray, List.set_cons_zero, List.set_cons_succ]
        refine takeRun (i := 11) (v := ?_) rfl (by kernel_rfl) (by kernel_rfl) (by kernel_rfl) (fun _ _ _ h => h) rfl ?_ (by assumption) ?_
        rotate_left
        · (intro w hSw; (try dsimp only at hSw); go_simp; (try with_reducible rfl))
        try simp only [Act.put, List.setIfInBounds_toArray, List.set_cons_zero, List.set_cons_succ]
        refine goOne (i := 9) (by kernel_rfl) rfl (fun K hK => ?_)
        go_simp
        (refine (FA.out _ ((hR.below hb).below b0) ((hR'.below hb).below b0)).mono ?_; rintro e wa ⟨rfl, hs⟩; replace hs := undrew hs)
        go_wp2_with fail
        refine hK.out _ _ ?_ (fun hHeld => ?_)
        · (first | with_reducible exact KK.out _ b0 | with_reducible exact KK.out _ (show Below _ _ _ from by assumption))
        clear hK K
        try simp only [Act.put, List.setIfInBounds_toArray, List.set_cons_zero, List.set_cons_succ]
        refine goOne (i := 12) (by kernel_rfl) rfl (fun K hK => ?_)
        go_simp
        (refine (SE.out _ (hRe2.below hs) ((hR'.below hb).below hs)).mono ?_; rintro e wb ⟨rfl, hs4⟩; have hs5 := bthen hs hs4)
        go_wp2_with fail
        refine hK.out _ _ ?_ (fun hHeld => ?_)
        · (first | with_reducible exact KK.out _ b0 | with_reducible exact KK.out _ (show Below _ _ _ from by assumption))
        clear hK K
        try simp only [Act.put, List.setIfInBounds_toArray, List.set_cons_zero, List.set_cons_succ]
        refine takeRun (i := 13) (v := ?_) rfl (by kernel_rfl) (by kernel_rfl) (by kernel_rfl) (fun _ _ _ h => h) rfl ?_ (by assumption) ?_
        rotate_left
        · (intro w hSw; (try dsimp only at hSw); go_simp; (try with_reducible rfl))
        try simp only [Act.put, List.setIfInBounds_toArray, List.set_cons_zero, List.set_cons_succ]
        refine takeRun (i := 14) (v := ?_) rfl (by kernel_rfl) (by kernel_rfl) (by kernel_rfl) (fun _ _ _ h => h) rfl ?_ (by assumption) ?_
        rotate_left
        · (intro w hSw; (try dsimp only at hSw); go_simp; (try with_reducible rfl))
        try simp only [Act.put, List.setIfInBounds_toArray, List.set_cons_zero, List.set_cons_succ]
        refine wpAnyH_done (by kernel_rfl) ?_ _
        obtain ⟨w14, rfl⟩ : ∃ z, z = wb := ⟨_, rfl⟩
        clear KK b0
        replace bx := bx.all hs5
        replace by_ := by_.all hs5
        replace rwe := rwe.below hs5
        replace rbe := rbe.below hs5
        replace be := be.all hs5
        replace bw := bw.all hs5
        replace hb := bthen hb hs5
        clear hs5
        have t5 : ((e1.fn : Int) == (a.fn : Int)) = true := by simp [HER.out.2.2.1]
        have t6 : ((e1.at_ : Int) == (a.at_ : Int)) = true := by simp [HER.out.2.2.2]
        obtain ⟨p0, p1, p2, p3, p4, p5⟩ := bx.c6
        obtain ⟨r0, r1, r2, r3, r4, r5⟩ := be.c6
        go_wp2_with fail
        refine (ER.out _ ⟨rwe.rd, rbe.rd⟩).mono ?_
        rintro e w15 ⟨rfl, hs⟩
        clear p0 p1 p2 p3 p4 p5
        clear r0 r1 r2 r3 r4 r5
        replace bx := bx.all hs
        replace by_ := by_.all hs
        replace rwe := rwe.below hs
        replace rbe := rbe.below hs
        replace be := be.all hs
        replace bw := bw.all hs
        replace hb := bthen hb hs
        clear hs
        obtain ⟨p0, p1, p2, p3, p4, p5⟩ := bx.c6
        obtain ⟨r0, r1, r2, r3, r4, r5⟩ := be.c6
        go_wp2_with fail
        refine (awk.out _).mono ?_
        rintro e wz ⟨rfl, hs⟩
        go_wp2_with fail
        go_ret
        exact ⟨rfl, bthen hb hs⟩
      · skip
        refine wp_region_held_drew (S := fun W => W.cell? ⟨ga, 0, none⟩ = some (.int .u8 (a.fn : Int)) ∧ W.cell? ⟨ga, 1, none⟩ = some (.int .u16 (a.at_ : Int)) ∧ W.cell? ⟨ga, 2, none⟩ = some (.int .u16 (a.many : Int)) ∧ W.cell? ⟨ga, 3, none⟩ = some (.int .u16 (a.to_ : Int)) ∧ W.cell? ⟨ga, 4, none⟩ = some (.slice A a.words.length c) ∧ W.cell? ⟨ga, 5, none⟩ = some (.slice B a.bits.length d) ∧ W.cell? ⟨gr, 0, none⟩ = some (.int .u8 (r.fn : Int)) ∧ W.cell? ⟨gr, 1, none⟩ = some (.int .u8 (r.ex : Int)) ∧ W.cell? ⟨gr, 2, none⟩ = some (.slice B' r.bits.length d') ∧ W.cell? ⟨gr, 3, none⟩ = some (.slice A' r.words.length c') ∧ W.cell? ⟨gr, 4, none⟩ = some (.int .u16 (r.at_ : Int)) ∧ W.cell? ⟨gr, 5, none⟩ = some (.int .u16 (r.many : Int)) ∧ W.cell? ⟨ge, 0, none⟩ = some (.int .u8 (e1.fn : Int)) ∧ W.cell? ⟨ge, 1, none⟩ = some (.int .u8 (e1.ex : Int)) ∧ W.cell? ⟨ge, 2, none⟩ = some (.slice Be e1.bits.length de) ∧ W.cell? ⟨ge, 3, none⟩ = some (.slice Ae e1.words.length ce) ∧ W.cell? ⟨ge, 4, none⟩ = some (.int .u16 (e1.at_ : Int)) ∧ W.cell? ⟨ge, 5, none⟩ = some (.int .u16 (e1.many : Int))) (by kernel_rfl) ?_ (fun hHeld => ?_)
        · (first | with_reducible exact KK.out _ b0 | with_reducible exact KK.out _ (show Below _ _ _ from by assumption))
        refine takeRun (i := 0) (v := ?_) rfl (by kernel_rfl) (by kernel_rfl) (by kernel_rfl) (fun _ _ _ h => h) rfl ?_ (by assumption) ?_
        rotate_left
        · (intro w hSw; (try dsimp only at hSw); go_simp; (try with_reducible rfl))
        try simp only [Act.put, List.setIfInBounds_toArray, List.set_cons_zero, List.set_cons_succ]
        refine takeRun (i := 1) (v := ?_) rfl (by kernel_rfl) (by kernel_rfl) (by kernel_rfl) (fun _ _ _ h => h) rfl ?_ (by assumption) ?_
        rotate_left
        · (intro w hSw; (try dsimp only at hSw); go_simp; (try with_reducible rfl))
        try simp only [Act.put, List.setIfInBounds_toArray, List.set_cons_zero, List.set_cons_succ]
        refine takeRun (i := 2) (v := ?_) rfl (by kernel_rfl) (by kernel_rfl) (by kernel_rfl) (fun _ _ _ h => h) rfl ?_ (by assumption) ?_
        rotate_left
        · (intro w hSw; (try dsimp only at hSw); go_simp; (try with_reducible rfl))
        try simp only [Act.put, List.setIfInBounds_toArray, List.set_cons_zero, List.set_cons_succ]
        refine takeRun (i := 3) (v := ?_) rfl (by kernel_rfl) (by kernel_rfl) (by kernel_rfl) (fun _ _ _ h => h) rfl ?_ (by assumption) ?_
        rotate_left
        · (intro w hSw; (try dsimp only at hSw); go_simp; (try with_reducible rfl))
        try simp only [Act.put, List.setIfInBounds_toArray, List.set_cons_zero, List.set_cons_succ]
        refine takeRun (i := 4) (v := ?_) rfl (by kernel_rfl) (by kernel_rfl) (by kernel_rfl) (fun _ _ _ h => h) rfl ?_ (by assumption) ?_
        rotate_left
        · (intro w hSw; (try dsimp only at hSw); go_simp; (try with_reducible rfl))
        try simp only [Act.put, List.setIfInBounds_toArray, List.set_cons_zero, List.set_cons_succ]
        refine takeRun (i := 5) (v := ?_) rfl (by kernel_rfl) (by kernel_rfl) (by kernel_rfl) (fun _ _ _ h => h) rfl ?_ (by assumption) ?_
        rotate_left
        · (intro w hSw; (try dsimp only at hSw); go_simp; (try with_reducible rfl))
        try simp only [Act.put, List.setIfInBounds_toArray, List.set_cons_zero, List.set_cons_succ]
        refine takeRun (i := 6) (v := ?_) rfl (by kernel_rfl) (by kernel_rfl) (by kernel_rfl) (fun _ _ _ h => h) rfl ?_ (by assumption) ?_
        rotate_left
        · (intro w hSw; (try dsimp only at hSw); go_simp; (try with_reducible rfl))
        try simp only [Act.put, List.setIfInBounds_toArray, List.set_cons_zero, List.set_cons_succ]
        refine takeSkip (i := 7) rfl (by kernel_rfl) (by kernel_rfl) (by kernel_rfl) (fun _ _ _ h => h) rfl (by assumption) ?_
        try simp only [Act.put, List.setIfInBounds_toArray, List.set_cons_zero, List.set_cons_succ]
        refine takeSkip (i := 8) rfl (by kernel_rfl) (by kernel_rfl) (by kernel_rfl) (fun _ _ _ h => h) rfl (by assumption) ?_
        try simp only [Act.put, List.setIfInBounds_toArray, List.set_cons_zero, List.set_cons_succ]
        refine takeSkip (i := 9) rfl (by kernel_rfl) (by kernel_rfl) (by kernel_rfl) (fun _ _ _ h => h) rfl (by assumption) ?_
        try simp only [Act.put, List.setIfInBounds_toArray, List.set_cons_zero, List.set_cons_succ]
        refine takeSkip (i := 10) rfl (by kernel_rfl) (by kernel_rfl) (by kernel_rfl) (fun _ _ _ h => h) rfl (by assumption) ?_
        try simp only [Act.put, List.setIfInBounds_toArray, List.set_cons_zero, List.set_cons_succ]
        refine takeSkip (i := 11) rfl (by kernel_rfl) (by kernel_rfl) (by kernel_rfl) (fun _ _ _ h => h) rfl (by assumption) ?_
        try simp only [Act.put, List.setIfInBounds_toArray, List.set_cons_zero, List.set_cons_succ]
        refine takeSkip (i := 12) rfl (by kernel_rfl) (by kernel_rfl) (by kernel_rfl) (fun _ _ _ h => h) rfl (by assumption) ?_
        try simp only [Act.put, List.setIfInBounds_toArray, List.set_cons_zero, List.set_cons_succ]
        refine takeSkip (i := 13) rfl (by kernel_rfl) (by kernel_rfl) (by kernel_rfl) (fun _ _ _ h => h) rfl (by assumption) ?_
        try simp only [Act.put, List.setIfInBounds_toArray, List.set_cons_zero, List.set_cons_succ]
        refine takeRun (i := 14) (v := ?_) rfl (by kernel_rfl) (by kernel_rfl) (by kernel_rfl) (fun _ _ _ h => h) rfl ?_ (by assumption) ?_
        rotate_left
        · (intro w hSw; (try dsimp only at hSw); go_simp; (try with_reducible rfl))
        try simp only [Act.put, List.setIfInBounds_toArray, List.set_cons_zero, List.set_cons_succ]
        refine wpAnyH_done (by kernel_rfl) ?_ _
        clear KK
        generalize w10.drew = w11 at *
        replace bx := bx.all b0
        replace by_ := by_.all b0
        replace rwe := rwe.below b0
        replace rbe := rbe.below b0
        replace be := be.all b0
        replace bw := bw.all b0
        replace hb := bthen hb b0
        clear b0
        have t5 : ((e1.fn : Int) == (a.fn : Int)) = true := by simp [HER.out.2.2.1]
        have t6 : ((e1.at_ : Int) == (a.at_ : Int)) = true := by simp [HER.out.2.2.2]
        obtain ⟨p0, p1, p2, p3, p4, p5⟩ := bx.c6
        obtain ⟨r0, r1, r2, r3, r4, r5⟩ := be.c6
        go_wp2_with fail
        refine (ER.out _ ⟨rwe.rd, rbe.rd⟩).mono ?_
        rintro e w12 ⟨rfl, hs⟩
        clear p0 p1 p2 p3 p4 p5
        clear r0 r1 r2 r3 r4 r5
        replace bx := bx.all hs
        replace by_ := by_.all hs
        replace rwe := rwe.below hs
        replace rbe := rbe.below hs
        replace be := be.all hs
        replace bw := bw.all hs
        replace hb := bthen hb hs
        clear hs
        obtain ⟨p0, p1, p2, p3, p4, p5⟩ := bx.c6
        obtain ⟨r0, r1, r2, r3, r4, r5⟩ := be.c6
        go_wp2_with fail
        refine (awk.out _).mono ?_
        rintro e wz ⟨rfl, hs⟩
        go_wp2_with fail
        go_ret
        exact ⟨rfl, bthen hb hs⟩
    · rw [t2] at FX
      clear t2
      have hRe : RpR w6 e1 Ae Be := ⟨rwe.rd, rbe.rd⟩
      refine wp_region_held_drew (S := fun W => W.cell? ⟨ga, 0, none⟩ = some (.int .u8 (a.fn : Int)) ∧ W.cell? ⟨ga, 1, none⟩ = some (.int .u16 (a.at_ : Int)) ∧ W.cell? ⟨ga, 2, none⟩ = some (.int .u16 (a.many : Int)) ∧ W.cell? ⟨ga, 3, none⟩ = some (.int .u16 (a.to_ : Int)) ∧ W.cell? ⟨ga, 4, none⟩ = some (.slice A a.words.length c) ∧ W.cell? ⟨ga, 5, none⟩ = some (.slice B a.bits.length d) ∧ W.cell? ⟨gw, 0, none⟩ = some (.int .u8 (wf : Int)) ∧ W.cell? ⟨gw, 1, none⟩ = some (.int .u8 (x : Int)) ∧ W.cell? ⟨gw, 2, none⟩ = some (.slice none 0 0) ∧ W.cell? ⟨gw, 3, none⟩ = some (.slice none 0 0) ∧ W.cell? ⟨gw, 4, none⟩ = some (.int .u16 0) ∧ W.cell? ⟨gw, 5, none⟩ = some (.int .u16 0) ∧ W.cell? ⟨ge, 0, none⟩ = some (.int .u8 (e1.fn : Int)) ∧ W.cell? ⟨ge, 1, none⟩ = some (.int .u8 (e1.ex : Int)) ∧ W.cell? ⟨ge, 2, none⟩ = some (.slice Be e1.bits.length de) ∧ W.cell? ⟨ge, 3, none⟩ = some (.slice Ae e1.words.length ce) ∧ W.cell? ⟨ge, 4, none⟩ = some (.int .u16 (e1.at_ : Int)) ∧ W.cell? ⟨ge, 5, none⟩ = some (.int .u16 (e1.many : Int))) (by kernel_rfl) ?_ (fun hHeld => ?_)
      · (first | with_reducible exact KK.out _ b0 | with_reducible exact KK.out _ (show Below _ _ _ from by assumption))
      refine takeRun (i := 0) (v := ?_) rfl (by kernel_rfl) (by kernel_rfl) (by kernel_rfl) (fun _ _ _ h => h) rfl ?_ (by assumption) ?_
      rotate_left
      · (intro w hSw; (try dsimp only at hSw); go_simp; (try with_reducible rfl))
      try simp only [Act.put, List.setIfInBounds_toArray, List.set_cons_zero, List.set_cons_succ]
      refine takeRun (i := 1) (v := ?_) rfl (by kernel_rfl) (by kernel_rfl) (by kernel_rfl) (fun _ _ _ h => h) rfl ?_ (by assumption) ?_
      rotate_left
      · (intro w hSw; (try dsimp only at hSw); go_simp; (try with_reducible rfl))
      try simp only [Act.put, List.setIfInBounds_toArray, List.set_cons_zero, List.set_cons_succ]
      refine takeRun (i := 2) (v := ?_) rfl (by kernel_rfl) (by kernel_rfl) (by kernel_rfl) (fun _ _ _ h => h) rfl ?_ (by assumption) ?_
      rotate_left
      · (intro w hSw; (try dsimp only at hSw); go_simp; (try with_reducible rfl))
      try simp only [Act.put, List.setIfInBounds_toArray, List.set_cons_zero, List.set_cons_succ]
      refine takeRun (i := 3) (v := ?_) rfl (by kernel_rfl) (by kernel_rfl) (by kernel_rfl) (fun _ _ _ h => h) rfl ?_ (by assumption) ?_
      rotate_left
      · (intro w hSw; (try dsimp only at hSw); go_simp; (try with_reducible rfl))
      try simp only [Act.put, List.setIfInBounds_toArray, List.set_cons_zero, List.set_cons_succ]
      refine takeRun (i := 4) (v := ?_) rfl (by kernel_rfl) (by kernel_rfl) (by kernel_rfl) (fun _ _ _ h => h) rfl ?_ (by assumption) ?_
      rotate_left
      · (intro w hSw; (try dsimp only at hSw); go_simp; (try with_reducible rfl))
      try simp only [Act.put, List.setIfInBounds_toArray, List.set_cons_zero, List.set_cons_succ]
      refine takeRun (i := 5) (v := ?_) rfl (by kernel_rfl) (by kernel_rfl) (by kernel_rfl) (fun _ _ _ h => h) rfl ?_ (by assumption) ?_
      rotate_left
      · (intro w hSw; (try dsimp only at hSw); go_simp; (try with_reducible rfl))
      try simp only [Act.put, List.setIfInBounds_toArray, List.set_cons_zero, List.set_cons_succ]
      refine takeRun (i := 7) (v := ?_) rfl (by kernel_rfl) (by kernel_rfl) (by kernel_rfl) (fun _ _ _ h => h) rfl ?_ (by assumption) ?_
      rotate_left
      · (intro w hSw; (try dsimp only at hSw); go_simp; (try with_reducible rfl))
      try simp only [Act.put, List.setIfInBounds_toArray, List.set_cons_zero, List.set_cons_succ]
      refine takeRun (i := 8) (v := ?_) rfl (by kernel_rfl) (by kernel_rfl) (by kernel_rfl) (fun _ _ _ h => h) rfl ?_ (by assumption) ?_
      rotate_left
      · (intro w hSw; (try dsimp only at hSw); go_simp; (try with_reducible rfl))
      try simp only [Act.put, List.setIfInBounds_toArray, List.set_cons_zero, List.set_cons_succ]
      refine goOne (i := 6) (by kernel_rfl) rfl (fun K hK => ?_)
      go_simp
      (refine (FX.out _ ((hR.below hb).below b0)).mono ?_; rintro e wa ⟨rfl, hs⟩; replace hs := undrew hs)
      go_wp2_with fail
      refine hK.out _ _ ?_ (fun hHeld => ?_)
      · (first | with_reducible exact KK.out _ b0 | with_reducible exact KK.out _ (show Below _ _ _ from by assumption))
      clear hK K
      try simp only [Act.put, List.setIfInBounds_toArray, List.set_cons_zero, List.set_cons_succ]
      refine takeRun (i := 9) (v := ?_) rfl (by kernel_rfl) (by kernel_rfl) (by kernel_rfl) (fun _ _ _ h => h) rfl ?_ (by assumption) ?_
      rotate_left
      · (intro w hSw; (try dsimp only at hSw); go_simp; (try with_reducible rfl))
      try simp only [Act.put, List.setIfInBounds_toArray, List.set_cons_zero, List.set_cons_succ]
      refine takeSkip (i := 10) rfl (by kernel_rfl) (by kernel_rfl) (by kernel_rfl) (fun _ _ _ h => h) rfl (by assumption) ?_
      try simp only [Act.put, List.setIfInBounds_toArray, List.set_cons_zero, List.set_cons_succ]
      refine takeSkip (i := 11) rfl (by kernel_rfl) (by kernel_rfl) (by kernel_rfl) (fun _ _ _ h => h) rfl (by assumption) ?_
      try simp only [Act.put, List.setIfInBounds_toArray, List.set_cons_zero, List.set_cons_succ]
      refine takeRun (i := 12) (v := ?_) rfl (by kernel_rfl) (by kernel_rfl) (by kernel_rfl) (fun _ _ _ h => h) rfl ?_ (by assumption) ?_
      rotate_left
      · (intro w hSw; (try dsimp only at hSw); go_simp; (try with_reducible rfl))
      try simp only [Act.put, List.setIfInBounds_toArray, List.set_cons_zero, List.set_cons_succ]
      refine takeRun (i := 13) (v := ?_) rfl (by kernel_rfl) (by kernel_rfl) (by kernel_rfl) (fun _ _ _ h => h) rfl ?_ (by assumption) ?_
      rotate_left
      · (intro w hSw; (try dsimp only at hSw); go_simp; (try with_reducible rfl))
      try simp only [Act.put, List.setIfInBounds_toArray, List.set_cons_zero, List.set_cons_succ]
      refine takeRun (i := 14) (v := ?_) rfl (by kernel_rfl) (by kernel_rfl) (by kernel_rfl) (fun _ _ _ h => h) rfl ?_ (by assumption) ?_
      rotate_left
      · (intro w hSw; (try dsimp only at hSw); go_simp; (try with_reducible rfl))
      try simp only [Act.put, List.setIfInBounds_toArray, List.set_cons_zero, List.set_cons_succ]
      refine takeRun (i := 15) (v := ?_) rfl (by kernel_rfl) (by kernel_rfl) (by kernel_rfl) (fun _ _ _ h => h) rfl ?_ (by assumption) ?_
      rotate_left
      · (intro w hSw; (try dsimp only at hSw); go_simp; (try with_reducible rfl))
      try simp only [Act.put, List.setIfInBounds_toArray, List.set_cons_zero, List.set_cons_succ]
      refine takeRun (i := 16) (v := ?_) rfl (by kernel_rfl) (by kernel_rfl) (by kernel_rfl) (fun _ _ _ h => h) rfl ?_ (by assumption) ?_
      rotate_left
      · (intro w hSw; (try dsimp only at hSw); go_simp; (try with_reducible rfl))
      try simp only [Act.put, List.setIfInBounds_toArray, List.set_cons_zero, List.set_cons_succ]
      refine takeRun (i := 17) (v := ?_) rfl (by kernel_rfl) (by kernel_rfl) (by kernel_rfl) (fun _ _ _ h => h) rfl ?_ (by assumption) ?_
      rotate_left
      · (intro w hSw; (try dsimp only at hSw); go_simp; (try with_reducible rfl))
      try simp only [Act.put, List.setIfInBounds_toArray, List.set_cons_zero, List.set_cons_succ]
      refine takeRun (i := 18) (v := ?_) rfl (by kernel_rfl) (by kernel_rfl) (by kernel_rfl) (fun _ _ _ h => h) rfl ?_ (by assumption) ?_
      rotate_left
      · (intro w hSw; (try dsimp only at hSw); go_simp; (try with_reducible rfl))
      try simp only [Act.put, List.setIfInBounds_toArray, List.set_cons_zero, List.set_cons_succ]
      refine takeRun (i := 19) (v := ?_) rfl (by kernel_rfl) (by kernel_rfl) (by kernel_rfl) (fun _ _ _ h => h) rfl ?_ (by assumption) ?_
      rotate_left
      · (intro w hSw; (try dsimp only at hSw); go_simp; (try with_reducible rfl))
      try simp only [Act.put, List.setIfInBounds_toArray, List.set_cons_zero, List.set_cons_succ]
      refine goOne (i := 20) (by kernel_rfl) rfl (fun K hK => ?_)
      go_simp
      ((try rw [hfw]); refine (EN.out _).mono ?_; rintro e wb ⟨rfl, hs2⟩; have hs3 := bthen hs hs2)
      go_wp2_with fail
      refine hK.out _ _ ?_ (fun hHeld => ?_)
      · (first | with_reducible exact KK.out _ b0 | with_reducible exact KK.out _ (show Below _ _ _ from by assumption))
      clear hK K
      try simp only [Act.put, List.setIfInBounds_toArray, List.set_cons_zero, List.set_cons_succ]
      refine goOne (i := 21) (by kernel_rfl) rfl (fun K hK => ?_)
      go_simp
      (refine (FN.out _ ((hR.below hb).below hs3)).mono ?_; rintro e wc ⟨rfl, hs4⟩; have hs5 := bthen hs3 hs4)
      go_wp2_with fail
      refine hK.out _ _ ?_ (fun hHeld => ?_)
      · (first | with_reducible exact KK.out _ b0 | with_reducible exact KK.out _ (show Below _ _ _ from by assumption))
      clear hK K
      try simp only [Act.put, List.setIfInBounds_toArray, List.set_cons_zero, List.set_cons_succ]
      refine takeRun (i := 22) (v := ?_) rfl (by kernel_rfl) (by kernel_rfl) (by kernel_rfl) (fun _ _ _ h => h) rfl ?_ (by assumption) ?_
      rotate_left
      · (intro w hSw; (try dsimp only at hSw); go_simp; (try with_reducible rfl))
      try simp only [Act.put, List.setIfInBounds_toArray, List.set_cons_zero, List.set_cons_succ]
      refine takeRun (i := 23) (v := ?_) rfl (by kernel_rfl) (by kernel_rfl) (by kernel_rfl) (fun _ _ _ h => h) rfl ?_ (by assumption) ?_
      rotate_left
      · (intro w hSw; (try dsimp only at hSw); go_simp; (try with_reducible rfl))
      try simp only [Act.put, List.setIfInBounds_toArray, List.set_cons_zero, List.set_cons_succ]
      refine takeRun (i := 24) (v := ?_) rfl (by kernel_rfl) (by kernel_rfl) (by kernel_rfl) (fun _ _ _ h => h) rfl ?_ (by assumption) ?_
      rotate_left
      · (intro w hSw; (try dsimp only at hSw); go_simp; (try with_reducible rfl))
      try simp only [Act.put, List.setIfInBounds_toArray, List.set_cons_zero, List.set_cons_succ]
      refine takeRun (i := 25) (v := ?_) rfl (by kernel_rfl) (by kernel_rfl) (by kernel_rfl) (fun _ _ _ h => h) rfl ?_ (by assumption) ?_
      rotate_left
      · (intro w hSw; (try dsimp only at hSw); go_simp; (try with_reducible rfl))
      try simp only [Act.put, List.setIfInBounds_toArray, List.set_cons_zero, List.set_cons_succ]
      refine takeRun (i := 26) (v := ?_) rfl (by kernel_rfl) (by kernel_rfl) (by kernel_rfl) (fun _ _ _ h => h) rfl ?_ (by assumption) ?_
      rotate_left
      · (intro w hSw; (try dsimp only at hSw); go_simp; (try with_reducible rfl))
      try simp only [Act.put, List.setIfInBounds_toArray, List.set_cons_zero, List.set_cons_succ]
      refine takeRun (i := 27) (v := ?_) rfl (by kernel_rfl) (by kernel_rfl) (by kernel_rfl) (fun _ _ _ h => h) rfl ?_ (by assumption) ?_
      rotate_left
      · (intro w hSw; (try dsimp only at hSw); go_simp; (try with_reducible rfl))
      try simp only [Act.put, List.setIfInBounds_toArray, List.set_cons_zero, List.set_cons_succ]
      refine goOne (i := 28) (by kernel_rfl) rfl (fun K hK => ?_)
      go_simp
      (refine (FE.out _ ((hR.below hb).below hs5) ((hRe.below hs5))).mono ?_; rintro e wd ⟨rfl, hs6⟩; have hs7 := bthen hs5 hs6)
      go_wp2_with fail
      refine hK.out _ _ ?_ (fun hHeld => ?_)
      · (first | with_reducible exact KK.out _ b0 | with_reducible exact KK.out _ (show Below _ _ _ from by assumption))
      clear hK K
      try simp only [Act.put, List.setIfInBounds_toArray, List.set_cons_zero, List.set_cons_succ]
      refine takeRun (i := 29) (v := ?_) rfl (by kernel_rfl) (by kernel_rfl) (by kernel_rfl) (fun _ _ _ h => h) rfl ?_ (by assumption) ?_
      rotate_left
      · (intro w hSw; (try dsimp only at hSw); go_simp; (try with_reducible rfl))
      try simp only [Act.put, List.setIfInBounds_toArray, List.set_cons_zero, List.set_cons_succ]
      refine takeRun (i := 30) (v := ?_) rfl (by kernel_rfl) (by kernel_rfl) (by kernel_rfl) (fun _ _ _ h => h) rfl ?_ (by assumption) ?_
      rotate_left
      · (intro w hSw; (try dsimp only at hSw); go_simp; (try with_reducible rfl))
      try simp only [Act.put, List.setIfInBounds_toArray, List.set_cons_zero, List.set_cons_succ]
      refine takeRun (i := 31) (v := ?_) rfl (by kernel_rfl) (by kernel_rfl) (by kernel_rfl) (fun _ _ _ h => h) rfl ?_ (by assumption) ?_
      rotate_left
      · (intro w hSw; (try dsimp only at hSw); go_simp; (try with_reducible rfl))
      try simp only [Act.put, List.setIfInBounds_toArray, List.set_cons_zero, List.set_cons_succ]
      refine wpAnyH_done (by kernel_rfl) ?_ _
      obtain ⟨w10, rfl⟩ : ∃ z, z = wd := ⟨_, rfl⟩
      clear KK b0
      replace bx := bx.all hs7
      replace by_ := by_.all hs7
      replace rwe := rwe.below hs7
      replace rbe := rbe.below hs7
      replace be := be.all hs7
      replace bw := bw.all hs7
      replace hb := bthen hb hs7
      clear hs7
      have hx0 : ((r.ex : Int) == 0) = true ∧ fitsA a r = sameR e1 r ∨ ((r.ex : Int) == 0) = false := by
        by_cases h : r.ex = 0
        · left; exact ⟨by simp [h], fits_echo HRT.out HEC.out h⟩
        · right; simp; omega
      go_upto_region 11 with fail
      have b0 := (Below.refl w10.heap.size w10).drew
      have KK : Hid (∀ W : World, Below w10.heap.size w10 W → W.cell? ⟨ga, 0, none⟩ = some (.int .u8 (a.fn : Int)) ∧ W.cell? ⟨ga, 1, none⟩ = some (.int .u16 (a.at_ : Int)) ∧ W.cell? ⟨ga, 2, none⟩ = some (.int .u16 (a.many : Int)) ∧ W.cell? ⟨ga, 3, none⟩ = some (.int .u16 (a.to_ : Int)) ∧ W.cell? ⟨ga, 4, none⟩ = some (.slice A a.words.length c) ∧ W.cell? ⟨ga, 5, none⟩ = some (.slice B a.bits.length d) ∧ W.cell? ⟨gr, 0, none⟩ = some (.int .u8 (r.fn : Int)) ∧ W.cell? ⟨gr, 1, none⟩ = some (.int .u8 (r.ex : Int)) ∧ W.cell? ⟨gr, 2, none⟩ = some (.slice B' r.bits.length d') ∧ W.cell? ⟨gr, 3, none⟩ = some (.slice A' r.words.length c') ∧ W.cell? ⟨gr, 4, none⟩ = some (.int .u16 (r.at_ : Int)) ∧ W.cell? ⟨gr, 5, none⟩ = some (.int .u16 (r.many : Int)) ∧ W.cell? ⟨ge, 0, none⟩ = some (.int .u8 (e1.fn : Int)) ∧ W.cell? ⟨ge, 1, none⟩ = some (.int .u8 (e1.ex : Int)) ∧ W.cell? ⟨ge, 2, none⟩ = some (.slice Be e1.bits.length de) ∧ W.cell? ⟨ge, 3, none⟩ = some (.slice Ae e1.words.length ce) ∧ W.cell? ⟨ge, 4, none⟩ = some (.int .u16 (e1.at_ : Int)) ∧ W.cell? ⟨ge, 5, none⟩ = some (.int .u16 (e1.many : Int))) := fun W hW => ⟨(bx.all hW).cell 0, (bx.all hW).cell 1, (bx.all hW).cell 2, (bx.all hW).cell 3, (bx.all hW).cell 4, (bx.all hW).cell 5, (by_.all hW).cell 0, (by_.all hW).cell 1, (by_.all hW).cell 2, (by_.all hW).cell 3, (by_.all hW).cell 4, (by_.all hW).cell 5, (be.all hW).cell 0, (be.all hW).cell 1, (be.all hW).cell 2, (be.all hW).cell 3, (be.all hW).cell 4, (be.all hW).cell 5⟩
      rcases hx0 with ⟨t3, t4⟩ | t3
      · rw [t4] at FA
        have SE := Lib.hid (fun W (h1 : RpR W e1 Ae Be) (h2 : RpR W r A' B') => reply_Same e1 r Ae ce Be de A' c' B' d' W h1 h2 (by omega) (by omega))
        obtain ⟨y, hy⟩ : ∃ y, sameR e1 r = y := ⟨_, rfl⟩
        rw [hy] at FA SE
        simp only [Rp.v, rpV] at SE
        clear hy t4
        have hRe2 : RpR w10 e1 Ae Be := ⟨rwe.rd, rbe.rd⟩
        refine wp_region_held_drew (S := fun W => W.cell? ⟨ga, 0, none⟩ = some (.int .u8 (a.fn : Int)) ∧ W.cell? ⟨ga, 1, none⟩ = some (.int .u16 (a.at_ : Int)) ∧ W.cell? ⟨ga, 2, none⟩ = some (.int .u16 (a.many : Int)) ∧ W.cell? ⟨ga, 3, none⟩ = some (.int .u16 (a.to_ : Int)) ∧ W.cell? ⟨ga, 4, none⟩ = some (.slice A a.words.length c) ∧ W.cell? ⟨ga, 5, none⟩ = some (.slice B a.bits.length d) ∧ W.cell? ⟨gr, 0, none⟩ = some (.int .u8 (r.fn : Int)) ∧ W.cell? ⟨gr, 1, none⟩ = some (.int .u8 (r.ex : Int)) ∧ W.cell? ⟨gr, 2, none⟩ = some (.slice B' r.bits.length d') ∧ W.cell? ⟨gr, 3, none⟩ = some (.slice A' r.words.length c') ∧ W.cell? ⟨gr, 4, none⟩ = some (.int .u16 (r.at_ : Int)) ∧ W.cell? ⟨gr, 5, none⟩ = some (.int .u16 (r.many : Int)) ∧ W.cell? ⟨ge, 0, none⟩ = some (.int .u8 (e1.fn : Int)) ∧ W.cell? ⟨ge, 1, none⟩ = some (.int .u8 (e1.ex : Int)) ∧ W.cell? ⟨ge, 2, none⟩ = some (.slice Be e1.bits.length de) ∧ W.cell? ⟨ge, 3, none⟩ = some (.slice Ae e1.words.length ce) ∧ W.cell? ⟨ge, 4, none⟩ = some (.int .u16 (e1.at_ : Int)) ∧ W.cell? ⟨ge, 5, none⟩ = some (.int .u16 (e1.many : Int))) (by kernel_rfl) ?_ (fun hHeld => ?_)
        · (first | with_reducible exact KK.out _ b0 | with_reducible exact KK.out _ (show Below _ _ _ from by assumption))
        refine takeRun (i := 0) (v := ?_) rfl (by kernel_rfl) (by kernel_rfl) (by kernel_rfl) (fun _ _ _ h => h) rfl ?_ (by assumption) ?_
        rotate_left
        · (intro w hSw; (try dsimp only at hSw); go_simp; (try with_reducible rfl))
        try simp only [Act.put, List.setIfInBounds_toArray, List.set_cons_zero, List.set_cons_succ]
        refine takeRun (i := 1) (v := ?_) rfl (by kernel_rfl) (by kernel_rfl) (by kernel_rfl) (fun _ _ _ h => h) rfl ?_ (by assumption) ?_
        rotate_left
        · (intro w hSw; (try dsimp only at hSw); go_simp; (try with_reducible rfl))
        try simp only [Act.put, List.setIfInBounds_toArray, List.set_cons_zero, List.set_cons_succ]
        refine takeRun (i := 2) (v := ?_) rfl (by kernel_rfl) (by kernel_rfl) (by kernel_rfl) (fun _ _ _ h => h) rfl ?_ (by assumption) ?_
        rotate_left
        · (intro w hSw; (try dsimp only at hSw); go_simp; (try with_reducible rfl))
        try simp only [Act.put, List.setIfInBounds_toArray, List.set_cons_zero, List.set_cons_succ]
        refine takeRun (i := 3) (v := ?_) rfl (by kernel_rfl) (by kernel_rfl) (by kernel_rfl) (fun _ _ _ h => h) rfl ?_ (by assumption) ?_
        rotate_left
        · (intro w hSw; (try dsimp only at hSw); go_simp; (try with_reducible rfl))
        try simp only [Act.put, List.setIfInBounds_toArray, List.set_cons_zero, List.set_cons_succ]
        refine takeRun (i := 4) (v := ?_) rfl (by kernel_rfl) (by kernel_rfl) (by kernel_rfl) (fun _ _ _ h => h) rfl ?_ (by assumption) ?_
        rotate_left
        · (intro w hSw; (try dsimp only at hSw); go_simp; (try with_reducible rfl))
        try simp only [Act.put, List.setIfInBounds_toArray, List.set_cons_zero, List.set_cons_succ]
        refine takeRun (i := 5) (v := ?_) rfl (by kernel_rfl) (by kernel_rfl) (by kernel_rfl) (fun _ _ _ h => h) rfl ?_ (by assumption) ?_
        rotate_left
        · (intro w hSw; (try dsimp only at hSw); go_simp; (try with_reducible rfl))
        try simp only [Act.put, List.setIfInBounds_toArray, List.set_cons_zero, List.set_cons_succ]
        refine takeRun (i := 6) (v := ?_) rfl (by kernel_rfl) (by kernel_rfl) (by kernel_rfl) (fun _ _ _ h => h) rfl ?_ (by assumption) ?_
        rotate_left
        · (intro w hSw; (try dsimp only at hSw); go_simp; (try with_reducible rfl))
        try simp only [Act.put, List.setIfInBounds_toArray, List.set_cons_zero, List.set_cons_succ]
        refine takeRun (i := 7) (v := ?_) rfl (by kernel_rfl) (by kernel_rfl) (by kernel_rfl) (fun _ _ _ h => h) rfl ?_ (by assumption) ?_
        rotate_left
        · (intro w hSw; (try dsimp only at hSw); go_simp; (try with_reducible rfl))
        try simp only [Act.put, List.setIfInBounds_toArray, List.set_cons_zero, List.set_cons_succ]
        refine takeRun (i := 8) (v := ?_) rfl (by kernel_rfl) (by kernel_rfl) (by kernel_rfl) (fun _ _ _ h => h) rfl ?_ (by assumption) ?_
        rotate_left
        · (intro w hSw; (try dsimp only at hSw); go_simp; (try with_reducible rfl))
        try simp only [Act.put, List.setIfInBounds_toArray, List.set_cons_zero, List.set_cons_succ]
        refine takeRun (i := 10) (v := ?_) rfl (by kernel_rfl) (by kernel_rfl) (by kernel_rfl) (fun _ _ _ h => h) rfl ?_ (by assumption) ?_
        rotate_left
        · (intro w hSw; (try dsimp only at hSw); go_simp; (try with_reducible rfl))
        try simp only [Act.put, List.setIfInBounds_toArray, List.set_cons_zero, List.set_cons_succ]
        refine takeRun (i := 11) (v := ?_) rfl (by kernel_rfl) (by kernel_rfl) (by kernel_rfl) (fun _ _ _ h => h) rfl ?_ (by assumption) ?_
        rotate_left
        · (intro w hSw; (try dsimp only at hSw); go_simp; (try with_reducible rfl))
        try simp only [Act.put, List.setIfInBounds_toArray, List.set_cons_zero, List.set_cons_succ]
        refine goOne (i := 9) (by kernel_rfl) rfl (fun K hK => ?_)
        go_simp
        (refine (FA.out _ ((hR.below hb).below b0) ((hR'.below hb).below b0)).mono ?_; rintro e wa ⟨rfl, hs⟩; replace hs := undrew hs)
        go_wp2_with fail
        refine hK.out _ _ ?_ (fun hHeld => ?_)
        · (first | with_reducible exact KK.out _ b0 | with_reducible exact KK.out _ (show Below _ _ _ from by assumption))
        clear hK K
        try simp only [Act.put, List.setIfInBounds_toArray, List.set_cons_zero, List.set_cons_succ]
        refine goOne (i := 12) (by kernel_rfl) rfl (fun K hK => ?_)
        go_simp
        (refine (SE.out _ (hRe2.below hs) ((hR'.below hb).below hs)).mono ?_; rintro e wb ⟨rfl, hs4⟩; have hs5 := bthen hs hs4)
        go_wp2_with fail
        refine hK.out _ _ ?_ (fun hHeld => ?_)
        · (first | with_reducible exact KK.out _ b0 | with_reducible exact KK.out _ (show Below _ _ _ from by assumption))
        clear hK K
        try simp only [Act.put, List.setIfInBounds_toArray, List.set_cons_zero, List.set_cons_succ]
        refine takeRun (i := 13) (v := ?_) rfl (by kernel_rfl) (by kernel_rfl) (by kernel_rfl) (fun _ _ _ h => h) rfl ?_ (by assumption) ?_
        rotate_left
        · (intro w hSw; (try dsimp only at hSw); go_simp; (try with_reducible rfl))
        try simp only [Act.put, List.setIfInBounds_toArray, List.set_cons_zero, List.set_cons_succ]
        refine takeRun (i := 14) (v := ?_) rfl (by kernel_rfl) (by kernel_rfl) (by kernel_rfl) (fun _ _ _ h => h) rfl ?_ (by assumption) ?_
        rotate_left
        · (intro w hSw; (try dsimp only at hSw); go_simp; (try with_reducible rfl))
        try simp only [Act.put, List.setIfInBounds_toArray, List.set_cons_zero, List.set_cons_succ]
        refine wpAnyH_done (by kernel_rfl) ?_ _
        obtain ⟨w14, rfl⟩ : ∃ z, z = wb := ⟨_, rfl⟩
        clear KK b0
        replace bx := bx.all hs5
        replace by_ := by_.all hs5
        replace rwe := rwe.below hs5
        replace rbe := rbe.below hs5
        replace be := be.all hs5
        replace bw := bw.all hs5
        replace hb := bthen hb hs5
        clear hs5
        have t5 : ((e1.fn : Int) == (a.fn : Int)) = true := by simp [HER.out.2.2.1]
        have t6 : ((e1.at_ : Int) == (a.at_ : Int)) = true := by simp [HER.out.2.2.2]
        obtain ⟨p0, p1, p2, p3, p4, p5⟩ := bx.c6
        obtain ⟨r0, r1, r2, r3, r4, r5⟩ := be.c6
        go_wp2_with fail
        refine (ER.out _ ⟨rwe.rd, rbe.rd⟩).mono ?_
        rintro e w15 ⟨rfl, hs⟩
        clear p0 p1 p2 p3 p4 p5
        clear r0 r1 r2 r3 r4 r5
        replace bx := bx.all hs
        replace by_ := by_.all hs
        replace rwe := rwe.below hs
        replace rbe := rbe.below hs
        replace be := be.all hs
        replace bw := bw.all hs
        replace hb := bthen hb hs
        clear hs
        obtain ⟨p0, p1, p2, p3, p4, p5⟩ := bx.c6
        obtain ⟨r0, r1, r2, r3, r4, r5⟩ := be.c6
        go_wp2_with fail
        refine (awk.out _).mono ?_
        rintro e wz ⟨rfl, hs⟩
        go_wp2_with fail
        go_ret
        exact ⟨rfl, bthen hb hs⟩
      · skip
        refine wp_region_held_drew (S := fun W => W.cell? ⟨ga, 0, none⟩ = some (.int .u8 (a.fn : Int)) ∧ W.cell? ⟨ga, 1, none⟩ = some (.int .u16 (a.at_ : Int)) ∧ W.cell? ⟨ga, 2, none⟩ = some (.int .u16 (a.many : Int)) ∧ W.cell? ⟨ga, 3, none⟩ = some (.int .u16 (a.to_ : Int)) ∧ W.cell? ⟨ga, 4, none⟩ = some (.slice A a.words.length c) ∧ W.cell? ⟨ga, 5, none⟩ = some (.slice B a.bits.length d) ∧ W.cell? ⟨gr, 0, none⟩ = some (.int .u8 (r.fn : Int)) ∧ W.cell? ⟨gr, 1, none⟩ = some (.int .u8 (r.ex : Int)) ∧ W.cell? ⟨gr, 2, none⟩ = some (.slice B' r.bits.length d') ∧ W.cell? ⟨gr, 3, none⟩ = some (.slice A' r.words.length c') ∧ W.cell? ⟨gr, 4, none⟩ = some (.int .u16 (r.at_ : Int)) ∧ W.cell? ⟨gr, 5, none⟩ = some (.int .u16 (r.many : Int)) ∧ W.cell? ⟨ge, 0, none⟩ = some (.int .u8 (e1.fn : Int)) ∧ W.cell? ⟨ge, 1, none⟩ = some (.int .u8 (e1.ex : Int)) ∧ W.cell? ⟨ge, 2, none⟩ = some (.slice Be e1.bits.length de) ∧ W.cell? ⟨ge, 3, none⟩ = some (.slice Ae e1.words.length ce) ∧ W.cell? ⟨ge, 4, none⟩ = some (.int .u16 (e1.at_ : Int)) ∧ W.cell? ⟨ge, 5, none⟩ = some (.int .u16 (e1.many : Int))) (by kernel_rfl) ?_ (fun hHeld => ?_)
        · (first | with_reducible exact KK.out _ b0 | with_reducible exact KK.out _ (show Below _ _ _ from by assumption))
        refine takeRun (i := 0) (v := ?_) rfl (by kernel_rfl) (by kernel_rfl) (by kernel_rfl) (fun _ _ _ h => h) rfl ?_ (by assumption) ?_
        rotate_left
        · (intro w hSw; (try dsimp only at hSw); go_simp; (try with_reducible rfl))
        try simp only [Act.put, List.setIfInBounds_toArray, List.set_cons_zero, List.set_cons_succ]
        refine takeRun (i := 1) (v := ?_) rfl (by kernel_rfl) (by kernel_rfl) (by kernel_rfl) (fun _ _ _ h => h) rfl ?_ (by assumption) ?_
        rotate_left
        · (intro w hSw; (try dsimp only at hSw); go_simp; (try with_reducible rfl))
        try simp only [Act.put, List.setIfInBounds_toArray, List.set_cons_zero, List.set_cons_succ]
        refine takeRun (i := 2) (v := ?_) rfl (by kernel_rfl) (by kernel_rfl) (by kernel_rfl) (fun _ _ _ h => h) rfl ?_ (by assumption) ?_
        rotate_left
        · (intro w hSw; (try dsimp only at hSw); go_simp; (try with_reducible rfl))
        try simp only [Act.put, List.setIfInBounds_toArray, List.set_cons_zero, List.set_cons_succ]
        refine takeRun (i := 3) (v := ?_) rfl (by kernel_rfl) (by kernel_rfl) (by kernel_rfl) (fun _ _ _ h => h) rfl ?_ (by assumption) ?_
        rotate_left
        · (intro w hSw; (try dsimp only at hSw); go_simp; (try with_reducible rfl))
        try simp only [Act.put, List.setIfInBounds_toArray, List.set_cons_zero, List.set_cons_succ]
        refine takeRun (i := 4) (v := ?_) rfl (by kernel_rfl) (by kernel_rfl) (by kernel_rfl) (fun _ _ _ h => h) rfl ?_ (by assumption) ?_
        rotate_left
        · (intro w hSw; (try dsimp only at hSw); go_simp; (try with_reducible rfl))
        try simp only [Act.put, List.setIfInBounds_toArray, List.set_cons_zero, List.set_cons_succ]
        refine takeRun (i := 5) (v := ?_) rfl (by kernel_rfl) (by kernel_rfl) (by kernel_rfl) (fun _ _ _ h => h) rfl ?_ (by assumption) ?_
        rotate_left
        · (intro w hSw; (try dsimp only at hSw); go_simp; (try with_reducible rfl))
        try simp only [Act.put, List.setIfInBounds_toArray, List.set_cons_zero, List.set_cons_succ]
        refine takeRun (i := 6) (v := ?_) rfl (by kernel_rfl) (by kernel_rfl) (by kernel_rfl) (fun _ _ _ h => h) rfl ?_ (by assumption) ?_
        rotate_left
        · (intro w hSw; (try dsimp only at hSw); go_simp; (try with_reducible rfl))
        try simp only [Act.put, List.setIfInBounds_toArray, List.set_cons_zero, List.set_cons_succ]
        refine takeSkip (i := 7) rfl (by kernel_rfl) (by kernel_rfl) (by kernel_rfl) (fun _ _ _ h => h) rfl (by assumption) ?_
        try simp only [Act.put, List.setIfInBounds_toArray, List.set_cons_zero, List.set_cons_succ]
        refine takeSkip (i := 8) rfl (by kernel_rfl) (by kernel_rfl) (by kernel_rfl) (fun _ _ _ h => h) rfl (by assumption) ?_
        try simp only [Act.put, List.setIfInBounds_toArray, List.set_cons_zero, List.set_cons_succ]
        refine takeSkip (i := 9) rfl (by kernel_rfl) (by kernel_rfl) (by kernel_rfl) (fun _ _ _ h => h) rfl (by assumption) ?_
        try simp only [Act.put, List.setIfInBounds_toArray, List.set_cons_zero, List.set_cons_succ]
        refine takeSkip (i := 10) rfl (by kernel_rfl) (by kernel_rfl) (by kernel_rfl) (fun _ _ _ h => h) rfl (by assumption) ?_
        try simp only [Act.put, List.setIfInBounds_toArray, List.set_cons_zero, List.set_cons_succ]
        refine takeSkip (i := 11) rfl (by kernel_rfl) (by kernel_rfl) (by kernel_rfl) (fun _ _ _ h => h) rfl (by assumption) ?_
        try simp only [Act.put, List.setIfInBounds_toArray, List.set_cons_zero, List.set_cons_succ]
        refine takeSkip (i := 12) rfl (by kernel_rfl) (by kernel_rfl) (by kernel_rfl) (fun _ _ _ h => h) rfl (by assumption) ?_
        try simp only [Act.put, List.setIfInBounds_toArray, List.set_cons_zero, List.set_cons_succ]
        refine takeSkip (i := 13) rfl (by kernel_rfl) (by kernel_rfl) (by kernel_rfl) (fun _ _ _ h => h) rfl (by assumption) ?_
        try simp only [Act.put, List.setIfInBounds_toArray, List.set_cons_zero, List.set_cons_succ]
        refine takeRun (i := 14) (v := ?_) rfl (by kernel_rfl) (by kernel_rfl) (by kernel_rfl) (fun _ _ _ h => h) rfl ?_ (by assumption) ?_
        rotate_left
        · (intro w hSw; (try dsimp only at hSw); go_simp; (try with_reducible rfl))
        try simp only [Act.put, List.setIfInBounds_toArray, List.set_cons_zero, List.set_cons_succ]
        refine wpAnyH_done (by kernel_rfl) ?_ _
        clear KK
        generalize w10.drew = w11 at *
        replace bx := bx.all b0
        replace by_ := by_.all b0
        replace rwe := rwe.below b0
        replace rbe := rbe.below b0
        replace be := be.all b0
        replace bw := bw.all b0
        replace hb := bthen hb b0
        clear b0
        have t5 : ((e1.fn : Int) == (a.fn : Int)) = true := by simp [HER.out.2.2.1]
        have t6 : ((e1.at_ : Int) == (a.at_ : Int)) = true := by simp [HER.out.2.2.2]
        obtain ⟨p0, p1, p2, p3, p4, p5⟩ := bx.c6
        obtain ⟨r0, r1, r2, r3, r4, r5⟩ := be.c6
        go_wp2_with fail
        refine (ER.out _ ⟨rwe.rd, rbe.rd⟩).mono ?_
        rintro e w12 ⟨rfl, hs⟩
        clear p0 p1 p2 p3 p4 p5
        clear r0 r1 r2 r3 r4 r5
        replace bx := bx.all hs
        replace by_ := by_.all hs
        replace rwe := rwe.below hs
        replace rbe := rbe.below hs
        replace be := be.all hs
        replace bw := bw.all hs
        replace hb := bthen hb hs
        clear hs
        obtain ⟨p0, p1, p2, p3, p4, p5⟩ := bx.c6
        obtain ⟨r0, r1, r2, r3, r4, r5⟩ := be.c6
        go_wp2_with fail
        refine (awk.out _).mono ?_
        rintro e wz ⟨rfl, hs⟩
        go_wp2_with fail
        go_ret
        exact ⟨rfl, bthen hb hs⟩
end Go.Proofs.Ythddplokicbofaa
