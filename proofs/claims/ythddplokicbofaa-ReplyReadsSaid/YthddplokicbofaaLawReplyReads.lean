/- The walk of the law ReplyReads (written by gen_replyreads.py). -/
import Derived.Test.YthddplokicbofaaRpAwake
import Derived.Test.YthddplokicbofaaRpLaw
namespace Go.Proofs.Ythddplokicbofaa
open Go.RowKit
set_option linter.unusedSimpArgs false
set_option linter.unusedVariables false

theorem fits_bits (f n : Nat) (l : List Bool) (hf : f = 1 ∨ f = 2) : fitsA ⟨f, 0, n, 0, [], []⟩ ⟨f, 0, l, [], 0, 0⟩ = ((decide (1 ≤ n) && decide (n ≤ 2000) && decide (l.length = (n + 7) / 8 * 8)) && !(l.drop n).contains true) := by
  have h1 : rightA ⟨f, 0, n, 0, [], []⟩ = (decide (1 ≤ n) && decide (n ≤ 2000)) := by
    rcases hf with rfl | rfl <;> simp [rightA, rightN, shp, isFn, wtn]
  have h2 : rightR ⟨f, 0, l, [], 0, 0⟩ = (decide (8 ≤ l.length) && decide (l.length ≤ 2000) && decide (l.length % 8 = 0)) := by
    rcases hf with rfl | rfl <;> simp [rightR, kindR, findK, rightK, sameR_self]
  have h3 : echoA ⟨f, 0, n, 0, [], []⟩ = none := by
    rcases hf with rfl | rfl <;> simp [echoA]
  unfold fitsA
  rw [h1, h2, h3]
  simp only [fitB]
  by_cases c1 : 1 ≤ n <;> by_cases c2 : n ≤ 2000 <;> by_cases c3 : l.length = (n + 7) / 8 * 8
  · have d1 : 8 ≤ l.length := by omega
    have d2 : l.length ≤ 2000 := by omega
    have d3 : l.length % 8 = 0 := by omega
    have d4 : 0 < l.length := by omega
    rw [if_pos d4]
    simp [c1, c2, c3, d1, d2, d3]
    try omega
  all_goals
    by_cases d4 : 0 < l.length
    · rw [if_pos d4]; simp [c1, c2, c3]
    · rw [if_neg d4]
      have : l.length = 0 := by omega
      simp [c1, c2, c3, this]
      try (intro h; exfalso; omega)
theorem fits_words (f n : Nat) (ws : List Nat) (l : List Nat) (hf : (f = 3 ∨ f = 4) ∧ ws = [] ∨ f = 23 ∧ ws = [7]) : fitsA ⟨f, 0, n, 0, ws, []⟩ ⟨f, 0, [], l, 0, 0⟩ = (decide (l.length = n) && decide (1 ≤ n) && decide (n ≤ 125)) := by
  have h1 : rightA ⟨f, 0, n, 0, ws, []⟩ = (decide (1 ≤ n) && decide (n ≤ 125)) := by
    rcases hf with ⟨rfl | rfl, rfl⟩ | ⟨rfl, rfl⟩ <;> simp [rightA, rightN, shp, isFn, wtn]
  have h2 : rightR ⟨f, 0, [], l, 0, 0⟩ = (decide (1 ≤ l.length) && decide (l.length ≤ 125)) := by
    rcases hf with ⟨rfl | rfl, rfl⟩ | ⟨rfl, rfl⟩ <;> simp [rightR, kindR, findK, rightK, sameR_self]
  have h3 : echoA ⟨f, 0, n, 0, ws, []⟩ = none := by
    rcases hf with ⟨rfl | rfl, rfl⟩ | ⟨rfl, rfl⟩ <;> simp [echoA]
  unfold fitsA
  rw [h1, h2, h3]
  simp only [fitB, List.length_nil, Nat.lt_irrefl, if_false]
  by_cases c1 : 1 ≤ n <;> by_cases c2 : n ≤ 125 <;> by_cases c3 : l.length = n <;> simp [c1, c2, c3] <;> omega
theorem five_lt (k : Nat) (hk : k < 5) : ∃ f, (#[Value.int .u8 1, .int .u8 2, .int .u8 3, .int .u8 4, .int .u8 23] : Array Value)[k]? = some (.int .u8 ((f : Nat) : Int)) ∧ (f = 1 ∨ f = 2 ∨ f = 3 ∨ f = 4 ∨ f = 23) := by
  have : k = 0 ∨ k = 1 ∨ k = 2 ∨ k = 3 ∨ k = 4 := by omega
  rcases this with rfl | rfl | rfl | rfl | rfl
  · exact ⟨1, rfl, by simp⟩
  · exact ⟨2, rfl, by simp⟩
  · exact ⟨3, rfl, by simp⟩
  · exact ⟨4, rfl, by simp⟩
  · exact ⟨23, rfl, by simp⟩
theorem take_drop_next {l : List Bool} {j n : Nat} {x : Bool} (h : l[j]? = some x) (hn : n ≤ j) : (l.take (j + 1)).drop n = (l.take j).drop n ++ [x] := by
  have hj : j < l.length := (List.getElem?_eq_some_iff.1 h).1
  rw [take_snoc h, List.drop_append_of_le_length (by rw [List.length_take]; omega)]

set_option maxRecDepth 100000 in
set_option maxHeartbeats 8000000 in
theorem ReplyReads_walk (f : Nat) (n : Nat) (A : Option Addr) (nw c : Nat) (l : List Nat) (B : Option Addr) (nb d : Nat) (k : List Bool) (w : World) (hf : f < 256) (hn : n < 65536) (hA : Rd w A (ws l)) (hl : l.length = nw) (hlw : Ws l) (hnc : nw ≤ c) (hB : Rd w B (os k)) (hk : k.length = nb) (hnd : nb ≤ d) :
    Calls Try.prog 13 #[.int .u8 (f : Int), .int .u16 (n : Int), .slice A nw c, .slice B nb d] w fun e w' => e = .returned (.bool true) ∧ Below w.heap.size w w' := by
  have HL := Lib.hid hl
  have HK := Lib.hid hk
  have awk := Lib.hid reply_awake
  clear hl hk
  by_cases h1 : 130 < nw
  · have v1 : decide ((130 : Int) < (nw : Int)) = true := decide_eq_true (by omega)
    go_enter Try.func13, Try.ntmps13
    go_wp2_with fail
    refine (awk.out _).mono ?_
    rintro e wz ⟨rfl, hs⟩
    go_wp2_with fail
    go_ret
    exact ⟨rfl, hs⟩
  have v1 : decide ((130 : Int) < (nw : Int)) = false := decide_eq_false (by omega)
  by_cases h2 : 2100 < nb
  · have v2 : decide ((2100 : Int) < (nb : Int)) = true := decide_eq_true (by omega)
    go_enter Try.func13, Try.ntmps13
    go_wp2_with fail
    refine (awk.out _).mono ?_
    rintro e wz ⟨rfl, hs⟩
    go_wp2_with fail
    go_ret
    exact ⟨rfl, hs⟩
  have v2 : decide ((2100 : Int) < (nb : Int)) = false := decide_eq_false (by omega)
  obtain ⟨x, hx⟩ : ∃ x, f % 5 = x := ⟨_, rfl⟩
  have hxi : (f : Int) % 5 = (x : Int) := by omega
  have hx5 : x < 5 := by omega
  have hx5i : (x : Int) < 5 := by omega
  obtain ⟨g, hg, hgk⟩ := five_lt x hx5
  have cx : (w.alloc (.cells #[.int .u8 1, .int .u8 2, .int .u8 3, .int .u8 4, .int .u8 23] 5)).cell? ⟨w.heap.size, x, none⟩ = some (.int .u8 (g : Int)) := (Blk.new w 5 #[.int .u8 1, .int .u8 2, .int .u8 3, .int .u8 4, .int .u8 23]).cell x |>.trans hg
  have hgl : g ≤ 23 := by omega
  have hnw : nw ≤ 130 := by omega
  have hnb : nb ≤ 2100 := by omega
  clear hx hg h1 h2
  have hb := ((Below.refl w.heap.size w).alloc (Nat.le_refl _) (.cells #[.int .u8 1, .int .u8 2, .int .u8 3, .int .u8 4, .int .u8 23] 5)).alloc (by simp [World.size_alloc]) (.cells #[.int .u8 (g : Int), .int .u16 0, .int .u16 (n : Int), .int .u16 0, .slice none 0 0, .slice none 0 0] 26)
  have ba := Blk.newAt (w.alloc (.cells #[.int .u8 1, .int .u8 2, .int .u8 3, .int .u8 4, .int .u8 23] 5)) 26 #[.int .u8 (g : Int), .int .u16 0, .int .u16 (n : Int), .int .u16 0, .slice none 0 0, .slice none 0 0] (w.heap.size + 1) (World.size_alloc _ _)
  go_enter Try.func13, Try.ntmps13
  go_upto_region 4 with fail
  generalize (w.alloc (.cells #[.int .u8 1, .int .u8 2, .int .u8 3, .int .u8 4, .int .u8 23] 5)).alloc (.cells #[.int .u8 (g : Int), .int .u16 0, .int .u16 (n : Int), .int .u16 0, .slice none 0 0, .slice none 0 0] 26) = w1 at *
  obtain ⟨ga, hga⟩ : ∃ y, w.heap.size + 1 = y := ⟨_, rfl⟩
  have hwga : w.heap.size ≤ ga := by omega
  rw [hga] at ba ⊢
  clear hga cx hxi hx5 hx5i
  obtain ⟨p0, p1, p2, p3, p4, p5⟩ := ba.c6
  have hgk3 : (g = 1 ∨ g = 2) ∨ (g = 3 ∨ g = 4) ∨ g = 23 := by omega
  clear hgk
  rcases hgk3 with hgk | hgk | hgk
  rotate_left
  · have t23 : ((g : Int) == 23) = false := by simp; omega
    have t2 : decide ((g : Int) ≤ 2) = false := decide_eq_false (by omega)
    have rwA : Rd w1 none (ws []) := Rd.nil
    have HV0 := fits_words g n [] l (.inl ⟨hgk, rfl⟩)
    obtain ⟨val, hval⟩ : ∃ v, fitsA ⟨g, 0, n, 0, [], []⟩ ⟨g, 0, [], l, 0, 0⟩ = v := ⟨_, rfl⟩
    have FT := Lib.hid (fun W h1 h2 => reply_Fits ⟨g, 0, n, 0, [], []⟩ none 0 none 0 ⟨g, 0, [], l, 0, 0⟩ A c none 0 W h1 ⟨by simp only; omega, by simp, hn, by simp, (by intro y hy; simp at hy <;> omega)⟩ (by simp) (by simp) h2 ⟨by simp only; omega, by simp, hlw, by simp, by simp⟩ (by simp only; rw [HL.out]; omega) (by simp) (fun _ => by simp))
    rw [hval] at FT HV0
    have HV : Hid (val = (decide (l.length = n) && decide (1 ≤ n) && decide (n ≤ 125))) := HV0
    simp only [Ak.v, akV, Rp.v, rpV, List.length_nil, HL.out] at FT
    clear hval HV0
    have hc : ((nw : Int) == (n : Int)) = false ∧ Hid (val = false) ∨ ((nw : Int) == (n : Int)) = true ∧ decide ((1 : Int) ≤ (n : Int)) = false ∧ Hid (val = false) ∨ ((nw : Int) == (n : Int)) = true ∧ decide ((1 : Int) ≤ (n : Int)) = true ∧ Hid (val = decide ((n : Int) ≤ 125)) := by
      have hv := HV.out
      rw [HL.out] at hv
      by_cases c3 : nw = n
      · by_cases c1 : 1 ≤ n
        · right; right
          refine ⟨by simp [c3], decide_eq_true (by omega), ?_⟩
          (show _ = _); rw [hv, decide_eq_true c3, decide_eq_true c1]
          by_cases c2 : n ≤ 125
          · rw [decide_eq_true c2, decide_eq_true (by omega)]; rfl
          · rw [decide_eq_false c2, decide_eq_false (by omega)]; rfl
        · right; left
          exact ⟨by simp [c3], decide_eq_false (by omega), by (show _ = _); rw [hv, decide_eq_false c1]; simp⟩
      · left
        exact ⟨by simp; omega, by (show _ = _); rw [hv, decide_eq_false c3]; simp⟩
    have hs := (Below.refl w1.heap.size w1).alloc (Nat.le_refl _) (.cells #[.int .u8 (g : Int), .int .u8 0, .slice none 0 0, .slice A nw c, .int .u16 0, .int .u16 0] 52)
    have br := Blk.new w1 52 #[.int .u8 (g : Int), .int .u8 0, .slice none 0 0, .slice A nw c, .int .u16 0, .int .u16 0]
    go_upto_region 7 with fail
    generalize w1.alloc (.cells #[.int .u8 (g : Int), .int .u8 0, .slice none 0 0, .slice A nw c, .int .u16 0, .int .u16 0] 52) = w3 at *
    obtain ⟨gr, hgr⟩ : ∃ y, w1.heap.size = y := ⟨_, rfl⟩
    rw [hgr] at br ⊢
    clear hgr p0 p1 p2 p3 p4 p5
    replace hb := bthen hb hs
    replace ba := ba.all hs
    replace rwA := rwA.below hs
    clear hs
    obtain ⟨p0, p1, p2, p3, p4, p5⟩ := ba.c6
    obtain ⟨r0, r1, r2, r3, r4, r5⟩ := br.c6
    rcases hc with ⟨c1, hv⟩ | ⟨c1, c2, hv⟩ | ⟨c1, c2, hv⟩
    all_goals
      rw [hv.out] at FT
      have awk2 := awk
      go_wp2_with fail
      refine (FT.out _ ?_ ?_).mono ?_
      · exact ⟨rwA, Rd.nil⟩
      · exact ⟨hA.below hb, Rd.nil⟩
      rintro e w5 ⟨rfl, hs⟩
      replace hb := bthen hb hs
      go_wp2_with fail
      refine (awk.out _).mono ?_
      rintro e wz ⟨rfl, hs⟩
      go_wp2_with fail
      go_ret
      exact ⟨rfl, bthen hb hs⟩
  · have t23 : ((g : Int) == 23) = true := by simp [hgk]
    have t2 : decide ((g : Int) ≤ 2) = false := decide_eq_false (by omega)
    have HGK := Lib.hid hgk
    clear hgk
    have hs1 := (Below.refl w1.heap.size w1).alloc (Nat.le_refl _) (.cells #[.int .u16 7] 22)
    have ba2 := ba.all hs1
    obtain ⟨y0, y1, y2, y3, y4, y5⟩ := ba2.c6
    have z4 := ba2.frozen 4
    have ba3 := ba2.set_ 4 (.slice (some ⟨w1.heap.size, 0, none⟩) 1 1)
    have hb3 := (bthen hb hs1).setCell (p := ⟨ga, 4, none⟩) hwga (.slice (some ⟨w1.heap.size, 0, none⟩) 1 1)
    have rwA' : Rd ((w1.alloc (.cells #[.int .u16 7] 22)).setCell ⟨ga, 4, none⟩ (.slice (some ⟨w1.heap.size, 0, none⟩) 1 1)) (some ⟨w1.heap.size, 0, none⟩) (ws [7]) :=
      ((RdN.lit w1 w1.heap.size rfl 22 [.int .u16 7]).stored ⟨ga, 4, none⟩ _ (by (show ga < w1.heap.size); exact ba.lt)).rd
    go_upto_region 6 with fail
    generalize (w1.alloc (.cells #[.int .u16 7] 22)).setCell ⟨ga, 4, none⟩ (.slice (some ⟨w1.heap.size, 0, none⟩) 1 1) = w2 at *
    obtain ⟨gw, hgw⟩ : ∃ y, w1.heap.size = y := ⟨_, rfl⟩
    rw [hgw] at ba3 rwA' ⊢
    clear hgw y0 y1 y2 y3 y4 y5 z4 p0 p1 p2 p3 p4 p5 ba2 hb hs1
    have hb := hb3
    have ba : Blk w2 ga 26 #[.int .u8 (g : Int), .int .u16 0, .int .u16 (n : Int), .int .u16 0, .slice (some ⟨gw, 0, none⟩) 1 1, .slice none 0 0] := ba3
    have rwA := rwA'
    clear hb3 ba3 rwA'
    obtain ⟨p0, p1, p2, p3, p4, p5⟩ := ba.c6
    have HV0 := fits_words g n [7] l (.inr ⟨HGK.out, rfl⟩)
    obtain ⟨val, hval⟩ : ∃ v, fitsA ⟨g, 0, n, 0, [7], []⟩ ⟨g, 0, [], l, 0, 0⟩ = v := ⟨_, rfl⟩
    have FT := Lib.hid (fun W h1 h2 => reply_Fits ⟨g, 0, n, 0, [7], []⟩ (some ⟨gw, 0, none⟩) 1 none 0 ⟨g, 0, [], l, 0, 0⟩ A c none 0 W h1 ⟨by simp only; omega, by simp, hn, by simp, (by intro y hy; simp at hy <;> omega)⟩ (by simp) (by simp) h2 ⟨by simp only; omega, by simp, hlw, by simp, by simp⟩ (by simp only; rw [HL.out]; omega) (by simp) (fun _ => by simp))
    rw [hval] at FT HV0
    have HV : Hid (val = (decide (l.length = n) && decide (1 ≤ n) && decide (n ≤ 125))) := HV0
    simp only [Ak.v, akV, Rp.v, rpV, List.length_nil, List.length_singleton, HL.out] at FT
    clear hval HV0
    have hc : ((nw : Int) == (n : Int)) = false ∧ Hid (val = false) ∨ ((nw : Int) == (n : Int)) = true ∧ decide ((1 : Int) ≤ (n : Int)) = false ∧ Hid (val = false) ∨ ((nw : Int) == (n : Int)) = true ∧ decide ((1 : Int) ≤ (n : Int)) = true ∧ Hid (val = decide ((n : Int) ≤ 125)) := by
      have hv := HV.out
      rw [HL.out] at hv
      by_cases c3 : nw = n
      · by_cases c1 : 1 ≤ n
        · right; right
          refine ⟨by simp [c3], decide_eq_true (by omega), ?_⟩
          (show _ = _); rw [hv, decide_eq_true c3, decide_eq_true c1]
          by_cases c2 : n ≤ 125
          · rw [decide_eq_true c2, decide_eq_true (by omega)]; rfl
          · rw [decide_eq_false c2, decide_eq_false (by omega)]; rfl
        · right; left
          exact ⟨by simp [c3], decide_eq_false (by omega), by (show _ = _); rw [hv, decide_eq_false c1]; simp⟩
      · left
        exact ⟨by simp; omega, by (show _ = _); rw [hv, decide_eq_false c3]; simp⟩
    have hs := (Below.refl w2.heap.size w2).alloc (Nat.le_refl _) (.cells #[.int .u8 (g : Int), .int .u8 0, .slice none 0 0, .slice A nw c, .int .u16 0, .int .u16 0] 52)
    have br := Blk.new w2 52 #[.int .u8 (g : Int), .int .u8 0, .slice none 0 0, .slice A nw c, .int .u16 0, .int .u16 0]
    go_upto_region 7 with fail
    generalize w2.alloc (.cells #[.int .u8 (g : Int), .int .u8 0, .slice none 0 0, .slice A nw c, .int .u16 0, .int .u16 0] 52) = w3 at *
    obtain ⟨gr, hgr⟩ : ∃ y, w2.heap.size = y := ⟨_, rfl⟩
    rw [hgr] at br ⊢
    clear hgr p0 p1 p2 p3 p4 p5
    replace hb := bthen hb hs
    replace ba := ba.all hs
    replace rwA := rwA.below hs
    clear hs
    obtain ⟨p0, p1, p2, p3, p4, p5⟩ := ba.c6
    obtain ⟨r0, r1, r2, r3, r4, r5⟩ := br.c6
    rcases hc with ⟨c1, hv⟩ | ⟨c1, c2, hv⟩ | ⟨c1, c2, hv⟩
    all_goals
      rw [hv.out] at FT
      have awk2 := awk
      go_wp2_with fail
      refine (FT.out _ ?_ ?_).mono ?_
      · exact ⟨rwA, Rd.nil⟩
      · exact ⟨hA.below hb, Rd.nil⟩
      rintro e w5 ⟨rfl, hs⟩
      replace hb := bthen hb hs
      go_wp2_with fail
      refine (awk.out _).mono ?_
      rintro e wz ⟨rfl, hs⟩
      go_wp2_with fail
      go_ret
      exact ⟨rfl, bthen hb hs⟩
  · have t23 : ((g : Int) == 23) = false := by simp; omega
    have t2 : decide ((g : Int) ≤ 2) = true := decide_eq_true (by omega)
    have HV0 := fits_bits g n k hgk
    have FT := Lib.hid (fun W h1 h2 => reply_Fits ⟨g, 0, n, 0, [], []⟩ none 0 none 0 ⟨g, 0, k, [], 0, 0⟩ none 0 B d W h1 ⟨by simp only; omega, by simp, hn, by simp, (by intro y hy; simp at hy <;> omega)⟩ (by simp) (by simp) h2 ⟨by simp only; omega, by simp, (by intro y hy; cases hy), by simp, by simp⟩ (by simp) (by simp only; rw [HK.out]; omega) (fun _ => by simp only; rw [HK.out]; exact hnd))
    obtain ⟨m8, hm8⟩ : ∃ m, (n + 7) / 8 * 8 = m := ⟨_, rfl⟩
    have hm8i : ((n : Int) + 7) / 8 * 8 = (m8 : Int) := by omega
    rw [HK.out, hm8] at HV0
    obtain ⟨w0, hw0⟩ : ∃ b, (decide (1 ≤ n) && decide (n ≤ 2000) && decide (nb = m8)) = b := ⟨_, rfl⟩
    have HW0 := Lib.hid hw0
    rw [hw0] at HV0
    obtain ⟨val, hval⟩ : ∃ v, fitsA ⟨g, 0, n, 0, [], []⟩ ⟨g, 0, k, [], 0, 0⟩ = v := ⟨_, rfl⟩
    rw [hval] at FT HV0
    have HV : Hid (val = (w0 && !(k.drop n).contains true)) := HV0
    simp only [Ak.v, akV, Rp.v, rpV, List.length_nil, HK.out] at FT
    clear hval HV0 hw0 hm8
    have hs := (Below.refl w1.heap.size w1).alloc (Nat.le_refl _) (.cells #[.int .u8 (g : Int), .int .u8 0, .slice none 0 0, .slice A nw c, .int .u16 0, .int .u16 0] 52)
    have br := Blk.new w1 52 #[.int .u8 (g : Int), .int .u8 0, .slice none 0 0, .slice A nw c, .int .u16 0, .int .u16 0]
    go_upto_region 7 with fail
    generalize w1.alloc (.cells #[.int .u8 (g : Int), .int .u8 0, .slice none 0 0, .slice A nw c, .int .u16 0, .int .u16 0] 52) = w3 at *
    obtain ⟨gr, hgr⟩ : ∃ y, w1.heap.size = y := ⟨_, rfl⟩
    have hw1w : w.heap.size ≤ gr := by have := hb.size; omega
    rw [hgr] at br ⊢
    have hga1 : ga ≠ gr := by have := ba.lt; omega
    clear hgr p0 p1 p2 p3 p4 p5
    replace hb := bthen hb hs
    replace ba := ba.all hs
    clear hs
    obtain ⟨p0, p1, p2, p3, p4, p5⟩ := ba.c6
    obtain ⟨r0, r1, r2, r3, r4, r5⟩ := br.c6
    have s0 := br.frozen 0
    have s1 := br.frozen 1
    have s2 := br.frozen 2
    have s3 := br.frozen 3
    have s4 := br.frozen 4
    have s5 := br.frozen 5
    go_cut [11] (fun v wc => w3 = wc)
    case first =>
      by_cases c3 : nw = n
      · have c3' : ((nw : Int) == (n : Int)) = true := by simp [c3]
        by_cases c1 : 1 ≤ n
        · have c1' : decide ((1 : Int) ≤ (n : Int)) = true := decide_eq_true (by omega)
          clear c3
          go_wp2_with fail
          go_meet
          exact rfl
        · have c1' : decide ((1 : Int) ≤ (n : Int)) = false := decide_eq_false (by omega)
          clear c3
          go_wp2_with fail
          go_meet
          exact rfl
      · have c3' : ((nw : Int) == (n : Int)) = false := by simp; omega
        go_wp2_with fail
        go_meet
        exact rfl
    case rest =>
    obtain rfl := hcut
    have hb6 := bset6 hb hw1w (.int .u8 (g : Int)) (.int .u8 0) (.slice B nb d) (.slice none 0 0) (.int .u16 0) (.int .u16 0)
    have br6 := (((((br.set_ 0 (.int .u8 (g : Int))).set_ 1 (.int .u8 0)).set_ 2 (.slice B nb d)).set_ 3 (.slice none 0 0)).set_ 4 (.int .u16 0)).set_ 5 (.int .u16 0)
    have ba6 := (((((ba.far (p := ⟨gr, 0, none⟩) hga1 (.int .u8 (g : Int))).far (p := ⟨gr, 1, none⟩) hga1 (.int .u8 0)).far (p := ⟨gr, 2, none⟩) hga1 (.slice B nb d)).far (p := ⟨gr, 3, none⟩) hga1 (.slice none 0 0)).far (p := ⟨gr, 4, none⟩) hga1 (.int .u16 0)).far (p := ⟨gr, 5, none⟩) hga1 (.int .u16 0)
    simp only [List.setIfInBounds_toArray, List.set_cons_succ, List.set_cons_zero] at br6
    go_upto_region 11 with fail
    generalize (((((w3.setCell ⟨gr, 0, none⟩ (.int .u8 (g : Int))).setCell ⟨gr, 1, none⟩ (.int .u8 0)).setCell ⟨gr, 2, none⟩ (.slice B nb d)).setCell ⟨gr, 3, none⟩ (.slice none 0 0)).setCell ⟨gr, 4, none⟩ (.int .u16 0)).setCell ⟨gr, 5, none⟩ (.int .u16 0) = w4 at *
    clear p0 p1 p2 p3 p4 p5 r0 r1 r2 r3 r4 r5 s0 s1 s2 s3 s4 s5 hb ba br
    go_cut [11] (fun v wc => v = .bool w0 ∧ w4 = wc)
    case first =>
      by_cases c1 : 1 ≤ n
      · have c1' : decide ((1 : Int) ≤ (n : Int)) = true := decide_eq_true (by omega)
        by_cases c2 : n ≤ 2000
        · have c2' : decide ((n : Int) ≤ 2000) = true := decide_eq_true (by omega)
          have t8 := int_eqb nb m8
          have HW1 : Hid (w0 = decide (nb = m8)) := by (show _ = _); rw [← HW0.out, decide_eq_true c1, decide_eq_true c2]; simp
          go_wp2_with fail
          go_meet
          exact ⟨by rw [HW1.out], rfl⟩
        · have c2' : decide ((n : Int) ≤ 2000) = false := decide_eq_false (by omega)
          have HW1 : Hid (w0 = false) := by (show _ = _); rw [← HW0.out, decide_eq_false c2]; simp
          go_wp2_with fail
          go_meet
          exact ⟨by rw [HW1.out], rfl⟩
      · have c1' : decide ((1 : Int) ≤ (n : Int)) = false := decide_eq_false (by omega)
        have HW1 : Hid (w0 = false) := by (show _ = _); rw [← HW0.out, decide_eq_false c1]; simp
        go_wp2_with fail
        go_meet
        exact ⟨by rw [HW1.out], rfl⟩
    case rest =>
    obtain ⟨rfl, rfl⟩ := hcut
    have rdB := hB.below hb6
    go_wp2_with fail
    go_loopw [11, 13] (fun wv i wr => ∃ (j : Nat) (cw : Bool), n ≤ j ∧ j ≤ max n nb ∧ i = .int .i64 j ∧ wv = .bool cw ∧ Hid (cw = (w0 && !((k.take j).drop n).contains true)) ∧ w4 = wr) (fun _ i _ => nb - (intOf i).toNat)
    case atStart =>
      refine ⟨n, w0, Nat.le_refl _, by omega, rfl, rfl, ?_, rfl⟩
      (show _ = _)
      rw [List.drop_of_length_le (by rw [List.length_take]; omega)]
      simp
    case round =>
      obtain ⟨j, cw, hj1, hj2, rfl, rfl, HC, rfl⟩ := hrel
      by_cases hlt : j < nb
      · obtain ⟨bb, off, x, rfl, hx, cx⟩ := rdB.bit (k := j) (by rw [HK.out]; exact hlt)
        have HT := Lib.hid (take_drop_next hx hj1)
        clear hx
        cases cw with
        | false =>
          have HC2 : Hid (false = (w0 && !((k.take (j + 1)).drop n).contains true)) := by
            (show _ = _)
            have := HC.out
            cases w0 with
            | false => rfl
            | true =>
              simp only [Bool.true_and] at this ⊢
              have h1 : ((k.take j).drop n).contains true = true := by simpa using this.symm
              rw [HT.out]
              have h2 : ((k.take j).drop n ++ [x]).contains true = true := by
                rw [List.contains_iff_mem] at h1 ⊢
                exact List.mem_append_left _ h1
              rw [h2]; rfl
          go_wp2_with fail
          go_roundw
          case rel => exact ⟨j + 1, false, by omega, by omega, by go_num, rfl, HC2, by first | rfl | trivial⟩
          case measure => simp [intOf]; omega
        | true =>
          have HC2 : Hid ((!x) = (w0 && !((k.take (j + 1)).drop n).contains true)) := by
            (show _ = _)
            have h0 := HC.out.symm
            rw [Bool.and_eq_true] at h0
            have h1 : ((k.take j).drop n).contains true = false := by simpa using h0.2
            rw [h0.1, Bool.true_and, HT.out]
            congr 1
            cases x with
            | true => symm; rw [List.contains_iff_mem]; simp
            | false =>
              symm
              rw [Bool.eq_false_iff, ne_eq, List.contains_iff_mem] at h1 ⊢
              intro hm
              rcases List.mem_append.1 hm with h | h
              · exact h1 h
              · simp at h
          go_wp2_with fail
          go_roundw
          case rel => exact ⟨j + 1, !x, by omega, by omega, by go_num, rfl, HC2, by first | rfl | trivial⟩
          case measure => simp [intOf]; omega
      · have hjn : nb ≤ j := by omega
        have hcv : cw = val := by
          rw [HC.out, HV.out, List.take_of_length_le (by rw [HK.out]; exact hjn)]
        subst hcv
        have hnlt : ¬ (j : Int) < (nb : Int) := by omega
        have hnlt2 : ¬ j < nb := by omega
        clear HC HV
        obtain ⟨p0, p1, p2, p3, p4, p5⟩ := ba6.c6
        obtain ⟨r0, r1, r2, r3, r4, r5⟩ := br6.c6
        have awk2 := awk
        go_wp2_with fail
        refine (FT.out _ ?_ ?_).mono ?_
        · exact ⟨Rd.nil, Rd.nil⟩
        · exact ⟨Rd.nil, rdB⟩
        rintro e w5 ⟨rfl, hs⟩
        replace hb6 := bthen hb6 hs
        go_wp2_with fail
        refine (awk.out _).mono ?_
        rintro e wz ⟨rfl, hs⟩
        go_wp2_with fail
        go_ret
        exact ⟨rfl, bthen hb6 hs⟩
end Go.Proofs.Ythddplokicbofaa
