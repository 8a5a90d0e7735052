/- The walk of the law ReplyBack (written by gen_back.py). -/
import Derived.Test.YthddplokicbofaaRpAwake
import Derived.Test.YthddplokicbofaaRpLaw
import Derived.Test.YthddplokicbofaaRegion
import Derived.Deep.RegionHeld3
import Derived.Laws.BitsAllLaws
namespace Go.Proofs.Ythddplokicbofaa
open Go.RowKit
set_option linter.unusedSimpArgs false
set_option linter.unusedVariables false

theorem back_factsReplyBack {a : Rp} (h : rightR a = true) : bytesR a = bytesR a ∧ errR a = 0 ∧ 2 ≤ (bytesR a).length ∧ (bytesR a).length ≤ 253 ∧ ∃ f0, (bytesR a)[0]? = some f0 := by
  obtain ⟨-, -, h1, h2⟩ := parse_bytesR h
  exact ⟨rfl, by unfold errR; rw [if_pos h], h1, h2, _, List.getElem?_eq_getElem (by omega)⟩

set_option maxRecDepth 100000 in
set_option maxHeartbeats 8000000 in
theorem ReplyBack_walk (a : Rp) (A : Option Addr) (c : Nat) (B : Option Addr) (d : Nat) (A2 : Option Addr) (n2 c2 : Nat) (s : List Nat) (w : World) (hR : RpR w a A B) (hok : a.ok) (hA2 : Rd w A2 (bs s)) (hn2 : s.length = n2) (hs2 : Bs s) (hnc2 : n2 ≤ c2) :
    Calls Try.prog 10 #[a.v A c B d, .slice A2 n2 c2] w fun e w' => e = .returned (.bool true) ∧ Below w.heap.size w w' := by
  have HN2 := Lib.hid hn2
  have awk := Lib.hid reply_awake
  have FW := Lib.hid (fun W => low_Few A a.words.length c B a.bits.length d W)
  obtain ⟨fw, hfw⟩ : ∃ b, fewN a.words.length a.bits.length = b := ⟨_, rfl⟩
  rw [hfw] at FW
  simp only [Rp.v, rpV]
  clear hn2
  cases fw with
  | false =>
    go_enter Try.func10, Try.ntmps10
    go_upto_region 1 with fail
    have bxa := Blk.new w 52 #[.int .u8 (a.fn : Int), .int .u8 (a.ex : Int), .slice B a.bits.length d, .slice A a.words.length c, .int .u16 (a.at_ : Int), .int .u16 (a.many : Int)]
    have hb := (Below.refl w.heap.size w).alloc (Nat.le_refl _) (.cells #[.int .u8 (a.fn : Int), .int .u8 (a.ex : Int), .slice B a.bits.length d, .slice A a.words.length c, .int .u16 (a.at_ : Int), .int .u16 (a.many : Int)] 52)
    generalize w.alloc (.cells #[.int .u8 (a.fn : Int), .int .u8 (a.ex : Int), .slice B a.bits.length d, .slice A a.words.length c, .int .u16 (a.at_ : Int), .int .u16 (a.many : Int)] 52) = w1 at *
    obtain ⟨g1, hg1⟩ : ∃ g, w.heap.size = g := ⟨_, rfl⟩
    have hg1w : w.heap.size ≤ g1 := by omega
    rw [hg1] at bxa ⊢
    clear hg1
    obtain ⟨d0, d1, d2, d3, d4, d5⟩ := bxa.c6
    go_wp2_with fail
    refine (FW.out _).mono ?_
    rintro e wq ⟨rfl, rfl⟩
    go_wp2_with fail
    refine (awk.out _).mono ?_
    rintro e wz ⟨rfl, hs⟩
    go_wp2_with fail
    go_ret
    exact ⟨rfl, bthen hb hs⟩
  | true =>
  obtain ⟨la1, la2⟩ := fewN_le hfw
  clear hfw
  by_cases h20 : 20 < n2
  · have v1 : decide ((20 : Int) < (n2 : Int)) = true := decide_eq_true (by omega)
    go_enter Try.func10, Try.ntmps10
    go_upto_region 1 with fail
    have bxa := Blk.new w 52 #[.int .u8 (a.fn : Int), .int .u8 (a.ex : Int), .slice B a.bits.length d, .slice A a.words.length c, .int .u16 (a.at_ : Int), .int .u16 (a.many : Int)]
    have hb := (Below.refl w.heap.size w).alloc (Nat.le_refl _) (.cells #[.int .u8 (a.fn : Int), .int .u8 (a.ex : Int), .slice B a.bits.length d, .slice A a.words.length c, .int .u16 (a.at_ : Int), .int .u16 (a.many : Int)] 52)
    generalize w.alloc (.cells #[.int .u8 (a.fn : Int), .int .u8 (a.ex : Int), .slice B a.bits.length d, .slice A a.words.length c, .int .u16 (a.at_ : Int), .int .u16 (a.many : Int)] 52) = w1 at *
    obtain ⟨g1, hg1⟩ : ∃ g, w.heap.size = g := ⟨_, rfl⟩
    have hg1w : w.heap.size ≤ g1 := by omega
    rw [hg1] at bxa ⊢
    clear hg1
    obtain ⟨d0, d1, d2, d3, d4, d5⟩ := bxa.c6
    go_wp2_with fail
    refine (FW.out _).mono ?_
    rintro e wq ⟨rfl, rfl⟩
    go_wp2_with fail
    refine (awk.out _).mono ?_
    rintro e wz ⟨rfl, hs⟩
    go_wp2_with fail
    go_ret
    exact ⟨rfl, bthen hb hs⟩
  have v1 : decide ((20 : Int) < (n2 : Int)) = false := decide_eq_false (by omega)
  have F1 := Lib.hid (fun W (h : RpR W a A B) => reply_Bytes a A c B d W h hok (by omega) (by omega))
  have F2 := Lib.hid (fun W (h : RpR W a A B) => reply_Right a A c B d W h hok (by omega) (by omega))
  obtain ⟨rt, hrt⟩ : ∃ b, rightR a = b := ⟨_, rfl⟩
  rw [hrt] at F2
  simp only [Rp.v, rpV] at F1 F2
  cases rt with
  | false =>
    have e1 : errR a = 13 := by unfold errR; rw [if_neg (by simp [hrt])]
    have e2 : bytesR a = [] := bytesR_not hrt
    rw [e1, e2] at F1
    simp only [List.length_nil] at F1
    clear hrt e1 e2
    go_enter Try.func10, Try.ntmps10
    go_upto_region 1 with fail
    have bxa := Blk.new w 52 #[.int .u8 (a.fn : Int), .int .u8 (a.ex : Int), .slice B a.bits.length d, .slice A a.words.length c, .int .u16 (a.at_ : Int), .int .u16 (a.many : Int)]
    have hb := (Below.refl w.heap.size w).alloc (Nat.le_refl _) (.cells #[.int .u8 (a.fn : Int), .int .u8 (a.ex : Int), .slice B a.bits.length d, .slice A a.words.length c, .int .u16 (a.at_ : Int), .int .u16 (a.many : Int)] 52)
    generalize w.alloc (.cells #[.int .u8 (a.fn : Int), .int .u8 (a.ex : Int), .slice B a.bits.length d, .slice A a.words.length c, .int .u16 (a.at_ : Int), .int .u16 (a.many : Int)] 52) = w1 at *
    obtain ⟨g1, hg1⟩ : ∃ g, w.heap.size = g := ⟨_, rfl⟩
    have hg1w : w.heap.size ≤ g1 := by omega
    rw [hg1] at bxa ⊢
    clear hg1
    obtain ⟨d0, d1, d2, d3, d4, d5⟩ := bxa.c6
    go_wp2_with fail
    refine (FW.out _).mono ?_
    rintro e wq ⟨rfl, rfl⟩
    go_wp2_with fail
    refine (F1.out _ (hR.below hb)).mono ?_
    rintro e w2 ⟨A5, c5, rfl, -, hs⟩
    replace hb := bthen hb hs
    replace bxa := bxa.all hs
    clear hs d0 d1 d2 d3 d4 d5
    obtain ⟨d0, d1, d2, d3, d4, d5⟩ := bxa.c6
    go_wp2_with fail
    refine (F2.out _ (hR.below hb)).mono ?_
    rintro e w3 ⟨rfl, hs⟩
    replace hb := bthen hb hs
    clear hs d0 d1 d2 d3 d4 d5
    go_wp2_with fail
    refine (awk.out _).mono ?_
    rintro e wz ⟨rfl, hs⟩
    go_wp2_with fail
    go_ret
    exact ⟨rfl, bthen hb hs⟩
  | true =>
  obtain ⟨eB, eE, hm1, hm2, f0, hf0⟩ := back_factsReplyBack hrt
  have HB1 := bytesR_Bs hok hrt
  skip
  have HPAR := Lib.hid (parseR_bytes hrt)
  have HLESS := Lib.hid (fun k h => parseR_less hrt k h)
  have HMORE := Lib.hid (fun x h => parseR_more hrt x h)
  rw [eE] at F1
  obtain ⟨L, hL⟩ : ∃ L, bytesR a = L := ⟨_, rfl⟩
  rw [hL] at F1 hm1 hm2 hf0 HB1 HPAR HLESS HMORE
  obtain ⟨m, hm⟩ : ∃ m, L.length = m := ⟨_, rfl⟩
  rw [hm] at F1 hm1 hm2 HLESS
  have HM := Lib.hid hm
  have HF0 := Lib.hid hf0
  clear hrt eB eE hL hm hf0
  go_enter Try.func10, Try.ntmps10
  go_upto_region 1 with fail
  have bxa := Blk.new w 52 #[.int .u8 (a.fn : Int), .int .u8 (a.ex : Int), .slice B a.bits.length d, .slice A a.words.length c, .int .u16 (a.at_ : Int), .int .u16 (a.many : Int)]
  have hb := (Below.refl w.heap.size w).alloc (Nat.le_refl _) (.cells #[.int .u8 (a.fn : Int), .int .u8 (a.ex : Int), .slice B a.bits.length d, .slice A a.words.length c, .int .u16 (a.at_ : Int), .int .u16 (a.many : Int)] 52)
  generalize w.alloc (.cells #[.int .u8 (a.fn : Int), .int .u8 (a.ex : Int), .slice B a.bits.length d, .slice A a.words.length c, .int .u16 (a.at_ : Int), .int .u16 (a.many : Int)] 52) = w1 at *
  obtain ⟨g1, hg1⟩ : ∃ g, w.heap.size = g := ⟨_, rfl⟩
  have hg1w : w.heap.size ≤ g1 := by omega
  rw [hg1] at bxa ⊢
  clear hg1
  obtain ⟨d0, d1, d2, d3, d4, d5⟩ := bxa.c6
  go_wp2_with fail
  refine (FW.out _).mono ?_
  rintro e wq ⟨rfl, rfl⟩
  go_wp2_with fail
  refine (F1.out _ (hR.below hb)).mono ?_
  rintro e w2 ⟨A5, c5, rfl, o5, hs⟩
  have hw12 := hb.size
  replace hb := bthen hb hs
  replace bxa := bxa.all hs
  clear hs d0 d1 d2 d3 d4 d5
  obtain ⟨g5, rfl, hg5, hg5w, -, -⟩ := o5.head (by rw [bs_length, HM.out]; omega)
  have hc5 := o5.le.1
  rw [bs_length, HM.out] at hc5
  have r5 := o5.rd
  have k5 := r5.cellAt (k := 0) (u := .int .u8 (f0 : Int)) (by have := HF0.out; simp only [bs, List.getElem?_map, this, Option.map_some])
  rw [Nat.add_zero] at k5
  clear o5
  obtain ⟨d0, d1, d2, d3, d4, d5⟩ := bxa.c6
  go_wp2_with fail
  refine (F2.out _ (hR.below hb)).mono ?_
  rintro e w3 ⟨rfl, hs⟩
  have hg5w3 : g5 < w3.heap.size := by have := hs.size; omega
  replace hb := bthen hb hs
  replace bxa := bxa.all hs
  replace k5 := (hs.cell (p := ⟨g5, 0, none⟩) hg5w).trans k5
  replace r5 := r5.below hs
  clear hs d0 d1 d2 d3 d4 d5 F1 F2 FW hg5w
  have HE : Hid (bs [] = []) := rfl
  go_wp2_with (at_builtin; refine app_b rfl _ _ rfl w3 ((Below.refl _ _).alloc (Nat.le_refl _) _) _ _ _ [] rfl (Ow.lit _ _ _ [] (Nat.le_refl _) (Nat.zero_le _) HE.out rfl) rfl (some ⟨g5, 0, none⟩) m c5 L rfl (r5.alloc _) HM.out (by omega) ?_)
  intro A8 c8 w4 o8 hs hg8
  try simp only [List.nil_append] at o8
  obtain ⟨g8, rfl, hg8, hg8w, -, -⟩ := o8.head (by rw [bs_length, HM.out]; omega)
  have hc8 := o8.le.1
  rw [bs_length, HM.out] at hc8
  have o8' := o8
  have hg1g8 : g1 ≠ g8 := by have := bxa.lt; omega
  have hg5g8 : g5 ≠ g8 := by omega
  have hg8g5 := hg5g8.symm
  have hgw8 : w.heap.size ≤ g8 := by have := hb.size; omega
  replace hb := bthen hb hs
  replace bxa := bxa.all hs
  replace k5 := (hs.cell (p := ⟨g5, 0, none⟩) (by omega)).trans k5
  replace r5 := r5.below hs
  clear hs hg8 o8 hg5w3
  have E2 := Lib.hid (reply_Parse (some ⟨g8, 0, none⟩) m c8 L w4 o8'.rd HM.out HB1 hc8 (by omega))
  rw [HPAR.out] at E2
  go_wp2_with fail
  refine E2.out.mono ?_
  rintro e w5 ⟨Ax, cx, Bx, dx, he, rx, ry, hs⟩
  simp only [Rp.v, rpV] at he
  subst he
  replace o8' := o8'.below hs
  have hg8x : g8 < w4.heap.size := hg8w
  replace hb := bthen hb hs
  replace bxa := bxa.all hs
  replace k5 := (hs.cell (p := ⟨g5, 0, none⟩) (World.block_lt_of_cell? _ _ k5)).trans k5
  replace r5 := r5.below hs
  have hg8w5 : g8 < w5.heap.size := by have := hs.size; omega
  clear hs hg8w
  have bxx := Blk.new w5 52 #[.int .u8 (a.fn : Int), .int .u8 (a.ex : Int), .slice Bx a.bits.length dx, .slice Ax a.words.length cx, .int .u16 (a.at_ : Int), .int .u16 (a.many : Int)]
  have hs := (Below.refl w5.heap.size w5).alloc (Nat.le_refl _) (.cells #[.int .u8 (a.fn : Int), .int .u8 (a.ex : Int), .slice Bx a.bits.length dx, .slice Ax a.words.length cx, .int .u16 (a.at_ : Int), .int .u16 (a.many : Int)] 52)
  go_upto_region 8 with fail
  generalize w5.alloc (.cells #[.int .u8 (a.fn : Int), .int .u8 (a.ex : Int), .slice Bx a.bits.length dx, .slice Ax a.words.length cx, .int .u16 (a.at_ : Int), .int .u16 (a.many : Int)] 52) = w6 at *
  obtain ⟨g9, hg9⟩ : ∃ g, w5.heap.size = g := ⟨_, rfl⟩
  have hg98 : g9 ≠ g8 := by omega
  rw [hg9] at bxx ⊢
  clear hg9
  replace k5 := (hs.cell (p := ⟨g5, 0, none⟩) (World.block_lt_of_cell? _ _ k5)).trans k5
  replace o8' := o8'.below hs
  replace r5 := r5.below hs
  replace rx := rx.below hs
  replace ry := ry.below hs
  replace bxa := bxa.all hs
  replace hb := bthen hb hs
  clear hs
  have hlen0 : Hid ((bs L).length = m) := by (show _ = _); rw [bs_length, HM.out]
  go_wp2_with fail
  go_loopw [56] (fun i wr => ∃ (j : Nat) (cs : List Value), j ≤ m ∧ i = .int .i64 j ∧ Hid (cs.length = m) ∧ Hid (∀ k, j ≤ k → cs[k]? = (bs L)[k]?) ∧ Ow wr w3.heap.size 5 (some ⟨g8, 0, none⟩) c8 cs ∧ w6.grownBy wr (some g8)) (fun i _ => m - (intOf i).toNat)
  case atStart => exact ⟨0, bs L, by omega, rfl, hlen0, (fun k _ => rfl), o8', grown_refl _ _⟩
  case round =>
  obtain ⟨j, cs, hj, rfl, HL, HR, oc, gr⟩ := hrel
  by_cases hlt : j < m
  · obtain ⟨x, hx⟩ : ∃ x, L[j]? = some x := ⟨_, List.getElem?_eq_getElem (by rw [HM.out]; exact hlt)⟩
    have hxb := HB1.get hx
    have hcj : cs[j]? = some (.int .u8 (x : Int)) := by rw [HR.out j (Nat.le_refl _)]; simp [bs, hx]
    obtain ⟨-, hfz, -, -⟩ := oc.at_ (j := j) (by rw [HL.out]; exact hlt)
    have hcell := oc.rd.cellAt hcj
    rw [Nat.zero_add] at hcell
    obtain ⟨v, hv⟩ : ∃ v, bits .xor .u8 (x : Int) 255 = v := ⟨_, rfl⟩
    have oc2 := oc.stored j (.int .u8 v)
    have gr2 := grown_set gr j (.int .u8 v)
    have HR2 : Hid (∀ k, j + 1 ≤ k → (cs.set j (.int .u8 v))[k]? = (bs L)[k]?) := set_rest HR.out
    have HL2 : Hid ((cs.set j (.int .u8 v)).length = m) := by (show _ = _); rw [List.length_set]; exact HL.out
    clear hx hcj
    go_wp2_with fail
    go_roundw
    case rel => exact ⟨j + 1, _, by omega, by go_num, HL2, HR2, oc2, gr2⟩
    case measure => simp [intOf]; omega
  obtain rfl : m = j := by omega
  replace bxa := bxa.past gr hg1g8
  replace bxx := bxx.past gr hg98
  replace r5 := r5.pastRow gr hg5g8
  replace rx := rx.grown gr hg8x
  replace ry := ry.grown gr hg8x
  replace k5 := r5.cellAt (k := 0) (u := .int .u8 (f0 : Int)) (by have := HF0.out; simp only [bs, List.getElem?_map, this, Option.map_some])
  rw [Nat.add_zero] at k5
  replace hb := bgrow hb gr hgw8
  clear gr oc HL HR o8' hlen0
  obtain ⟨w7, rfl⟩ : ∃ w7, w7 = wr := ⟨_, rfl⟩
  have S1 := Lib.hid (fun W (h1 : RpR W a A B) (h2 : RpR W a Ax Bx) => reply_Same a a A c B d Ax cx Bx dx W h1 h2 (by omega) (by omega))
  rw [sameR_iff.2 rfl] at S1
  simp only [Rp.v, rpV] at S1
  have v5 : decide ((m : Int) < 2) = false := decide_eq_false (by omega)
  have v6 : decide ((253 : Int) < (m : Int)) = false := decide_eq_false (by omega)
  have v7 : 0 < m := by omega
  clear k5
  go_upto_region 13 with fail
  obtain ⟨d0, d1, d2, d3, d4, d5⟩ := bxa.c6
  obtain ⟨y0, y1, y2, y3, y4, y5⟩ := bxx.c6
  go_wp2_with fail
  refine (S1.out _ (hR.below hb) ⟨rx.rd, ry.rd⟩).mono ?_
  rintro e w8 ⟨rfl, hs⟩
  clear d0 d1 d2 d3 d4 d5 y0 y1 y2 y3 y4 y5
  replace hb := bthen hb hs
  replace r5 := r5.below hs
  clear hs rx ry bxx S1 bxa
  go_wp2_with fail
  go_loopw [90] (fun i wr => ∃ j : Nat, j ≤ m ∧ i = .int .i64 j ∧ Below w8.heap.size w8 wr) (fun i _ => m - (intOf i).toNat)
  case atStart => exact ⟨0, by omega, rfl, Below.refl _ _⟩
  case round =>
  obtain ⟨j, hj, rfl, hl⟩ := hrel
  by_cases hlt : j < m
  · have E3 := Lib.hid (reply_Parse (some ⟨g5, 0, none⟩) j c5 (L.take j) wr ((r5.below hl).btake j) (by rw [List.length_take, HM.out]; omega) (HB1.take _) (by omega) (by omega))
    rw [HLESS.out j hlt] at E3
    have hjc : (j : Int) ≤ (c5 : Int) := by omega
    by_cases hq : j < 8 ∨ m - j < 5 ∨ j % 9 = 0
    · have hq' : decide ((j : Int) < 8) = true ∨ (decide ((j : Int) < 8) = false ∧ decide ((m : Int) - (j : Int) < 5) = true) ∨ (decide ((j : Int) < 8) = false ∧ decide ((m : Int) - (j : Int) < 5) = false ∧ ((j : Int) % 9 == 0) = true) := by
        by_cases h1 : j < 8
        · left; simp; omega
        · by_cases h2 : m - j < 5
          · right; left; constructor <;> simp <;> omega
          · right; right; refine ⟨?_, ?_, ?_⟩ <;> simp <;> omega
      clear hq
      rcases hq' with q1 | ⟨q1, q2⟩ | ⟨q1, q2, q3⟩
      all_goals
        go_wp2_with fail
        refine E3.out.mono ?_
        rintro e w9 ⟨he, hs⟩
        rw [show Rp.zero.v none 0 none 0 = .agg #[.int .u8 0, .int .u8 0, .slice none 0 0, .slice none 0 0, .int .u16 0, .int .u16 0] from rfl] at he
        subst he
        have hl2 := bthen hl hs
        have hl3 := hl2.alloc hl2.size (.cells #[.int .u8 0, .int .u8 0, .slice none 0 0, .slice none 0 0, .int .u16 0, .int .u16 0] 52)
        go_wp2_with fail
        go_roundw
        case rel => exact ⟨j + 1, by omega, by go_num, hl3⟩
        case measure => simp [intOf]; omega
    · have q1 : decide ((j : Int) < 8) = false := decide_eq_false (by omega)
      have q2 : decide ((m : Int) - (j : Int) < 5) = false := decide_eq_false (by omega)
      have q3 : ((j : Int) % 9 == 0) = false := by simp; omega
      clear hq
      go_wp2_with fail
      go_roundw
      case rel => exact ⟨j + 1, by omega, by go_num, hl⟩
      case measure => simp [intOf]; omega
  obtain rfl : m = j := by omega
  replace hb := bthen hb hl
  replace r5 := r5.below hl
  clear hl
  have r2 := hA2.below hb
  obtain ⟨w9, rfl⟩ : ∃ w9, w9 = wr := ⟨_, rfl⟩
  go_wp2_with (at_builtin; refine app_b rfl _ _ rfl w9 ((Below.refl _ _).alloc (Nat.le_refl _) _) _ _ _ [] rfl (Ow.lit _ _ _ [] (Nat.le_refl _) (Nat.zero_le _) HE.out rfl) rfl (some ⟨g5, 0, none⟩) m c5 L rfl (r5.alloc _) HM.out (by omega) ?_)
  intro A10 c10 w10 o10 h10 _
  try simp only [List.nil_append] at o10
  go_wp2_with (at_builtin; refine app_b rfl _ _ rfl w9 h10 _ _ _ _ rfl o10 (by simpa using HM.out) A2 n2 c2 s rfl (r2.below h10) HN2.out (by omega) ?_)
  intro A11 c11 w11 o11 h11 _
  have HL11 : Hid ((L ++ s).length = m + n2) := by (show _ = _); rw [List.length_append, HM.out, HN2.out]
  have hc11 := o11.le.1
  rw [bs_length, HL11.out] at hc11
  have E4 := Lib.hid (reply_Parse A11 (m + n2) c11 (L ++ s) w11 o11.rd HL11.out (HB1.append hs2) hc11 (by omega))
  replace hb := bthen hb h11
  clear o10 h10 o11 h11 r5 r2
  by_cases hn0 : n2 = 0
  · have hs0 : s = [] := List.length_eq_zero_iff.1 (by rw [HN2.out]; exact hn0)
    have v8 : ((n2 : Int) == 0) = true := by simp [hn0]
    rw [hs0, List.append_nil, HPAR.out] at E4
    clear hs0 hn0
    go_wp2_with fail
    refine E4.out.mono ?_
    rintro e w12 ⟨Ay, cy, By, dy, he, -, -, hs⟩
    simp only [Rp.v, rpV] at he
    subst he
    replace hb := bthen hb hs
    replace hb := hb.alloc hb.size (.cells #[.int .u8 (a.fn : Int), .int .u8 (a.ex : Int), .slice By a.bits.length dy, .slice Ay a.words.length cy, .int .u16 (a.at_ : Int), .int .u16 (a.many : Int)] 52)
    go_wp2_with fail
    refine (awk.out _).mono ?_
    rintro e wz ⟨rfl, hs⟩
    go_wp2_with fail
    go_ret
    exact ⟨rfl, bthen hb hs⟩
  · have hs0 : s ≠ [] := by intro e; apply hn0; rw [← HN2.out, e]; rfl
    have v8 : ((n2 : Int) == 0) = false := by simp; omega
    rw [HMORE.out s hs0] at E4
    clear hs0 hn0
    go_wp2_with fail
    refine E4.out.mono ?_
    rintro e w12 ⟨he, hs⟩
    rw [show Rp.zero.v none 0 none 0 = .agg #[.int .u8 0, .int .u8 0, .slice none 0 0, .slice none 0 0, .int .u16 0, .int .u16 0] from rfl] at he
    subst he
    replace hb := bthen hb hs
    replace hb := hb.alloc hb.size (.cells #[.int .u8 0, .int .u8 0, .slice none 0 0, .slice none 0 0, .int .u16 0, .int .u16 0] 52)
    go_wp2_with fail
    refine (awk.out _).mono ?_
    rintro e wz ⟨rfl, hs⟩
    go_wp2_with fail
    go_ret
    exact ⟨rfl, bthen hb hs⟩
  end Go.Proofs.Ythddplokicbofaa
