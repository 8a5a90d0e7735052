/- saucierlaw05.MbapWrong returns true: a stream tells all frames ahead of the first one that is none, and then the error. -/
import Derived.Test.YtheepgfafjinoaaMbapPacked
import Derived.Test.YtheepgfafjinoaaRegion
namespace Go.Proofs.Ytheepgfafjinoaa
open Go.RowKit
set_option linter.unusedSimpArgs false
set_option linter.unusedVariables false

/-- the head that may not be -/
def headW (k c : Nat) : List Nat := ([1, 2, 0, 0, 0, 9].set k c).take (k + 1)
def mayW (k c : Nat) : Bool := decide (k < 5 ∧ c = 0 ∨ k = 5 ∧ 2 ≤ c ∧ c ≤ 254)
theorem headW_length (k c : Nat) (hk : k ≤ 5) : (headW k c).length = k + 1 := by simp [headW]; omega
theorem headW_beg (k c : Nat) (r : List Nat) (h1 : 2 ≤ k) (h2 : k ≤ 5) (hm : mayW k c = false) : begF (headW k c ++ r) = false := by
  refine begF_bad (j := k) ?_ h1 (by omega)
  have : (headW k c ++ r)[k]? = some c := by
    rw [List.getElem?_append_left (by rw [headW_length k c h2]; omega)]
    unfold headW
    rw [List.getElem?_take, if_pos (by omega), List.getElem?_set]
    simp
    omega
  unfold okAt
  rw [this]
  unfold mayW at hm
  rw [decide_eq_false_iff_not] at hm
  by_cases h5 : k = 5
  · simp [h5] at hm ⊢; omega
  · simp [h5] at hm ⊢; omega
theorem wrong_cut (L : List Fx) (k c : Nat) (r : List Nat) (hL : AllR (L.map Fx.f)) (h1 : 2 ≤ k) (h2 : k ≤ 5) (hm : mayW k c = false) :
    (cutF (flatX L ++ headW k c ++ r)).1 = L.map Fx.f ∧ (cutF (flatX L ++ headW k c ++ r)).2 = (flatX L).length ∧ cutErr (flatX L ++ headW k c ++ r) = 10 := by
  have hb := headW_beg k c r h1 h2 hm
  have hno : hasF (headW k c ++ r) = false := by unfold hasF; rw [hb]; simp
  have e := cutF_flat (L.map Fx.f) (headW k c ++ r) hL
  rw [cutF_no hno, ← List.append_assoc] at e
  have e' : cutF (flatX L ++ headW k c ++ r) = (L.map Fx.f ++ [], (flatX L).length + 0) := e
  refine ⟨by rw [e']; simp, by rw [e']; simp, ?_⟩
  have e2 : (cutF (flatX L ++ headW k c ++ r)).2 = (flatX L).length := by rw [e']; simp
  unfold cutErr
  rw [e2, List.append_assoc]
  have e3 : (flatX L ++ (headW k c ++ r)).drop (flatX L).length = headW k c ++ r := List.drop_left' rfl
  rw [e3, if_neg (by rw [hb]; simp)]
theorem may_cut (L : List Fx) (r : List Nat) (hL : AllR (L.map Fx.f)) :
    L.length ≤ (cutF (flatX L ++ r)).1.length ∧ (flatX L).length ≤ (cutF (flatX L ++ r)).2 := by
  have e : cutF (flatX L ++ r) = _ := cutF_flat (L.map Fx.f) r hL
  rw [e]
  simp [flatX]
theorem rights_all {w : World} {xs : List Fx} (h : ∀ x ∈ xs, x.R w ∧ x.f.ok) : AllR ((rightsF (xs.take 12)).map Fx.f) := by
  intro f hf
  obtain ⟨x, hx, rfl⟩ := List.mem_map.1 hf
  exact ⟨rightsF_right _ x hx, (h x (List.mem_of_mem_take (rightsF_mem hx))).2⟩

set_option maxRecDepth 100000 in
set_option maxHeartbeats 4000000 in
theorem MbapWrong_walk (A : Option Addr) (n c : Nat) (xs : List Fx) (wh cc : Nat) (A3 : Option Addr) (n3 c3 : Nat) (mo : List Nat) (w : World) (hA : Rd w A (fxs xs)) (hn : xs.length = n) (hok : ∀ x ∈ xs, x.R w ∧ x.f.ok) (hnc : n ≤ c) (hcm : c ≤ 9223372036854775807)
    (hwh : wh < 256) (hcc : cc < 256) (hM : Rd w A3 (bs mo)) (hn3 : mo.length = n3) (hmo : Bs mo) (hnc3 : n3 ≤ c3) (hcm3 : c3 ≤ 9223372036854775807) :
    Calls Try.prog 10 #[.slice A n c, .int .u8 (wh : Int), .int .u8 (cc : Int), .slice A3 n3 c3] w fun e w' => e = .returned (.bool true) ∧ Below w.heap.size w w' := by
  have HN := Lib.hid hn
  have HN3 := Lib.hid hn3
  have HOK := Lib.hid hok
  clear hn hn3 hok
  go_enter Try.func10, Try.ntmps10
  go_wp2_with fail
  go_loopw [21] (fun i wr => ∃ j : Nat, j ≤ n ∧ i = .int .i64 j ∧ Below w.heap.size w wr ∧ ∀ x ∈ xs.take j, x.f.pdu.length ≤ 300) (fun i _ => n - (intOf i).toNat)
  case atStart => exact ⟨0, by omega, rfl, Below.refl _ _, by simp⟩
  case round =>
    obtain ⟨j, hj, rfl, hbr, h300⟩ := hrel
    have H300 := Lib.hid h300
    clear h300
    by_cases hlt : j < n
    · obtain ⟨b, off, x, rfl, hx, x0, x1, x2⟩ := (hA.below hbr).fx (j := j) (by rw [HN.out]; omega)
      have HS := Lib.hid (take_snoc hx)
      have hblk : b < wr.heap.size := World.block_lt_of_cell? wr _ x0
      have hb2 := hbr.alloc hbr.size (.cells #[.int .u16 (x.f.tx : Int), .int .u8 (x.f.unit : Int), .slice x.A x.f.pdu.length x.c] 37)
      clear hx
      have hlenB : x.f.pdu.length ≤ 9223372036854775807 ∨ 300 < x.f.pdu.length := by omega
      by_cases h3 : 300 < x.f.pdu.length
      · have t1 : decide ((300 : Int) < (x.f.pdu.length : Int)) = true := by simp; omega
        go_wp2_with fail
        refine (mbap_awake _).mono ?_
        rintro e w5 ⟨rfl, hb5⟩
        go_wp2_with fail
        go_ret
        exact ⟨rfl, bthen hb2 hb5⟩
      · have t1 : decide ((300 : Int) < (x.f.pdu.length : Int)) = false := by simp; omega
        go_wp2_with fail
        go_roundw
        case rel =>
          refine ⟨j + 1, by omega, by go_num, hb2, ?_⟩
          rw [HS.out]
          intro y hy
          rcases List.mem_append.1 hy with hy | hy
          · exact H300.out y hy
          · simp at hy
            subst hy
            omega
        case measure => simp [intOf]; omega
    · obtain rfl : j = n := by omega
      have H3 : Hid (∀ x ∈ xs, x.f.pdu.length ≤ 300) := by
        (show ∀ _, _)
        intro x hx
        refine H300.out x ?_
        rw [List.take_of_length_le (by rw [HN.out]; exact Nat.le_refl _)]
        exact hx
      go_wp2_with fail
      refine (l05_packed A j c xs _ (hA.below hbr) HN.out (fun x hx => ⟨(HOK.out x hx).1.below hbr, (HOK.out x hx).2⟩) H3.out hnc hcm).mono ?_
      rintro e w2 ⟨A', c', B', d', rfl, o2, o2b, hb2⟩
      have HALL := Lib.hid (rights_all HOK.out)
      obtain ⟨L, hL⟩ : ∃ L, rightsF (xs.take 12) = L := ⟨_, rfl⟩
      have HLR : Hid (∀ x ∈ L, x.R w2 ∧ Bs x.f.pdu) := by
        (show ∀ _, _)
        intro x hx
        rw [← hL] at hx
        have := HOK.out x (List.mem_of_mem_take (rightsF_mem hx))
        exact ⟨this.1.below (bthen hbr hb2), this.2.2.2⟩
      have hlenL : L.length ≤ 12 := by rw [← hL]; have := rightsF_le (xs.take 12); rw [List.length_take] at this; omega
      have hflL : (flatX L).length ≤ 260 * L.length := by rw [← hL]; exact flatX_le _ (rightsF_right _)
      rw [hL] at HALL o2 o2b
      rw [hL]
      clear hL
      have hb2' := bthen hbr hb2
      obtain ⟨k, hk⟩ : ∃ k, k = 2 + wh % 4 := ⟨_, rfl⟩
      have hk1 : 2 ≤ k := by omega
      have hk2 : k ≤ 5 := by omega
      have hkI : (2 : Int) + (wh : Int) % 4 = (k : Int) := by omega
      have HKI := Lib.hid hkI
      clear hk H300 hbr hb2
      obtain ⟨fl, hfl⟩ : ∃ q, (flatX L).length = q := ⟨_, rfl⟩
      rw [hfl] at hflL
      rw [hfl]
      have HFL := Lib.hid hfl
      clear hfl
      have k0 : (0 : Int) ≤ (k : Int) := by omega
      have k6 : (k : Int) < 6 := by omega
      have H6 : Hid (bs [1, 2, 0, 0, 0, 9] = [.int .u8 1, .int .u8 2, .int .u8 0, .int .u8 0, .int .u8 0, .int .u8 9]) := rfl
      have H6S : Hid (bs ([1, 2, 0, 0, 0, 9].set k cc) = [.int .u8 1, .int .u8 2, .int .u8 0, .int .u8 0, .int .u8 0, .int .u8 9].set k (.int .u8 (cc : Int))) := (bs_set _ _ _).symm
      have ow := Ow.lit w2 w2.heap.size 5 _ (Nat.le_refl _) (by simp [maxLen]) H6.out rfl
      have ow' : Ow (w2.alloc (.cells #[.int .u8 1, .int .u8 2, .int .u8 0, .int .u8 0, .int .u8 0, .int .u8 9] 5)) w2.heap.size 5 (some ⟨w2.heap.size, 0, none⟩) 6 (bs [1, 2, 0, 0, 0, 9]) := ow
      obtain ⟨⟨u, hu, hcell⟩, hfz, -, -⟩ := ow'.at_ (j := k) (by simp [bs]; omega)
      have ow2 : Ow (w2.alloc (.cells ([.int .u8 1, .int .u8 2, .int .u8 0, .int .u8 0, .int .u8 0, .int .u8 9].set k (.int .u8 (cc : Int))).toArray 5)) w2.heap.size 5 (some ⟨w2.heap.size, 0, none⟩) 6 (bs ([1, 2, 0, 0, 0, 9].set k cc)) := Ow.lit w2 w2.heap.size 5 _ (Nat.le_refl _) (by simp [maxLen]) H6S.out (by simp)
      have hbk := (Below.refl _ w2).alloc (Nat.le_refl _) (.cells ([.int .u8 1, .int .u8 2, .int .u8 0, .int .u8 0, .int .u8 0, .int .u8 9].set k (.int .u8 (cc : Int))).toArray 5)
      clear ow ow' hu
      go_upto_region 11 with fail
      generalize w2.alloc (.cells ([.int .u8 1, .int .u8 2, .int .u8 0, .int .u8 0, .int .u8 0, .int .u8 9].set k (.int .u8 (cc : Int))).toArray 5) = w3 at *
      clear hcell hfz H6 H6S
      go_cut [15] (fun v wc => v = .bool (mayW k cc) ∧ w3 = wc)
      case first =>
        by_cases h5 : k < 5
        · have a1 : decide ((k : Int) < 5) = true := by simp; omega
          have a3 : ((k : Int) == 5) = false := by simp; omega
          by_cases hc0 : cc = 0
          · have a2 : ((cc : Int) == 0) = true := by simp; omega
            have HM : Hid (mayW k cc = true) := by (show _ = _); unfold mayW; simp; omega
            clear hc0
            go_wp2_with fail
            go_meet
            exact ⟨by rw [HM.out], rfl⟩
          · have a2 : ((cc : Int) == 0) = false := by simp; omega
            have HM : Hid (mayW k cc = false) := by (show _ = _); unfold mayW; simp; omega
            clear hc0
            go_wp2_with fail
            go_meet
            exact ⟨by rw [HM.out], rfl⟩
        · have a1 : decide ((k : Int) < 5) = false := by simp; omega
          have a3 : ((k : Int) == 5) = true := by simp; omega
          by_cases hlo : cc < 2
          · have a2 : decide ((2 : Int) ≤ (cc : Int)) = false := by simp; omega
            have HM : Hid (mayW k cc = false) := by (show _ = _); unfold mayW; simp; omega
            go_wp2_with fail
            go_meet
            exact ⟨by rw [HM.out], rfl⟩
          · have a2 : decide ((2 : Int) ≤ (cc : Int)) = true := by simp; omega
            by_cases hhi : cc ≤ 254
            · have a4 : decide ((cc : Int) ≤ 254) = true := by simp; omega
              have HM : Hid (mayW k cc = true) := by (show _ = _); unfold mayW; simp; omega
              go_wp2_with fail
              go_meet
              exact ⟨by rw [HM.out], rfl⟩
            · have a4 : decide ((cc : Int) ≤ 254) = false := by simp; omega
              have HM : Hid (mayW k cc = false) := by (show _ = _); unfold mayW; simp; omega
              go_wp2_with fail
              go_meet
              exact ⟨by rw [HM.out], rfl⟩
      case rest =>
        obtain ⟨rfl, rfl⟩ := hcut
        obtain ⟨m3, hm3⟩ : ∃ m : Nat, m = min n3 3 := ⟨_, rfl⟩
        have hmn : m3 ≤ n3 := by omega
        have hm2 : m3 ≤ 3 := by omega
        have hmin : (if (3 : Int) < (n3 : Int) then (3 : Int) else (n3 : Int)) = (m3 : Int) := by split <;> omega
        have hmin2 : ∀ W, (Builtin.min_ #[3, 3] 3 #[.int .i64 (n3 : Int), .int .i64 3]).run Try.prog W = .ok (.int .i64 (m3 : Int)) W := by
          intro W
          rw [run_min_int2, hmin]
        have rdB := o2b.rd.below hbk
        have rdM := ((hM.below hb2').below hbk).btake m3
        have rdH := ow2.rd.btake (k + 1)
        have HLH : Hid ((([1, 2, 0, 0, 0, 9].set k cc).take (k + 1)).length = k + 1) := by (show _ = _); simp; omega
        have HLM : Hid ((mo.take m3).length = m3) := by (show _ = _); rw [List.length_take, HN3.out]; omega
        have HE : Hid (bs [] = []) := rfl
        have hBh : Bs (([1, 2, 0, 0, 0, 9].set k cc).take (k + 1)) := by
          refine Bs.take (fun x hx => ?_) _
          rcases List.mem_or_eq_of_mem_set hx with h | h
          · exact (by decide : Bs [1, 2, 0, 0, 0, 9]) x h
          · omega
        have hBs : Bs (flatX L ++ ([1, 2, 0, 0, 0, 9].set k cc).take (k + 1) ++ mo.take m3) := ((flatF_Bs HALL.out).append hBh).append (hmo.take _)
        obtain ⟨st, hst⟩ : ∃ st, flatX L ++ ([1, 2, 0, 0, 0, 9].set k cc).take (k + 1) ++ mo.take m3 = st := ⟨_, rfl⟩
        rw [hst] at hBs
        have HST := Lib.hid hst
        have HSL : Hid (st.length = fl + (k + 1) + m3) := by (show _ = _); rw [← hst, List.length_append, List.length_append, HFL.out, HLH.out, HLM.out]
        clear hst
        have hb3' := bthen hb2' hbk
        have r0 := Below.refl w3.heap.size w3
        have g1 : IntKind.i64.wrap ((k : Int) + 1) = (k : Int) + 1 := IntWalk.i64_in _ (by omega)
        have g2 : (0 : Int) ≤ (k : Int) + 1 := by omega
        have g3 : (k : Int) + 1 ≤ 6 := by omega
        have g4 : ((k : Int) + 1).toNat = k + 1 := by omega
        have g5 : (0 : Int) ≤ (m3 : Int) := by omega
        have g6 : (m3 : Int) ≤ (c3 : Int) := by omega
        clear hm3 hmin hBh
        go_wp2_with fail
        -- @REGION f=10 r=12 ind=8
        -- @S fun _ => True
        -- @KEEP exact trivial
        -- @ARM 0 skip
        -- @ARM 2 law: (refine sapp_b rfl _ _ rfl w3 (r0.drew.alloc (Nat.le_refl _) _) _ _ _ [] rfl (Ow.lit _ _ _ [] (Nat.le_refl _) (Nat.zero_le _) HE.out rfl) rfl B' fl d' (flatX L) rfl (rdB.drew.alloc _) HFL.out (by omega) ?_; intro A7 c7 w7 ho7 hb7 hg7; try simp only [List.nil_append] at ho7)
        -- @ARM 7 law: (refine sapp_b rfl _ _ rfl w3 hb7 _ _ _ _ rfl ho7 (by rw [HFL.out, Nat.zero_add]) _ (k + 1) 6 (([1, 2, 0, 0, 0, 9].set k cc).take (k + 1)) rfl (rdH.below hb7) HLH.out (by omega) ?_; intro A8 c8 w8 ho8 hb8 hg8)
        -- @ARM 13 law: (refine sapp_b rfl _ _ rfl w3 hb8 _ _ _ _ rfl ho8 (by rw [List.length_append, HFL.out, HLH.out, Nat.zero_add]) A3 m3 c3 (mo.take m3) rfl (rdM.below hb8) HLM.out (by omega) ?_; intro A9 c9 w9 ho9 hb9 hg9; rw [HST.out] at ho9)
        -- @ARM 14 (refine (mb_Cut A9 _ c9 st _ ho9.rd (by simp only [HSL.out, Nat.zero_add]) hBs (by omega) (by have := ho9.le.1; rw [bs_length, HSL.out] at this; omega) (by have := ho9.le.2; simpa [maxLen] using this)).mono ?_; rintro e w10 ⟨A10, c10, ys, hys, rfl, o10, hG10, hb10⟩; obtain ⟨g7, hg7⟩ : ∃ g, (cutF st).2 = g := ⟨_, rfl⟩; obtain ⟨g8, hg8⟩ : ∃ g, cutErr st = g := ⟨_, rfl⟩; rw [hg7, hg8]; have HG7 := Lib.hid hg7; have HG8 := Lib.hid hg8; have HYS := Lib.hid hys; have HGY := Lib.hid hG10; clear hg7 hg8 hys hG10)
        -- @BEGIN
        refine wp_region_held_drew (S := fun _ => True) (by kernel_rfl) ?_ (fun hHeld => ?_)
        · exact trivial
        refine takeRun (i := 1) (v := ?_) rfl (by kernel_rfl) (by kernel_rfl) (by kernel_rfl) (fun _ _ _ h => h) rfl ?_ (by assumption) ?_
        rotate_left
        · (intro w hSw; (try dsimp only at hSw); go_simp; (try with_reducible rfl))
        try simp only [Act.put, List.setIfInBounds_toArray, List.set_cons_zero, List.set_cons_succ]
        refine takeRun (i := 3) (v := ?_) rfl (by kernel_rfl) (by kernel_rfl) (by kernel_rfl) (fun _ _ _ h => h) rfl ?_ (by assumption) ?_
        rotate_left
        · (intro w hSw; (try dsimp only at hSw); go_simp; (try with_reducible rfl))
        try simp only [Act.put, List.setIfInBounds_toArray, List.set_cons_zero, List.set_cons_succ]
        refine takeRun (i := 4) (v := ?_) rfl (by kernel_rfl) (by kernel_rfl) (by kernel_rfl) (fun _ _ _ h => h) rfl ?_ (by assumption) ?_
        rotate_left
        · (intro w hSw; (try dsimp only at hSw); go_simp; (try with_reducible rfl))
        try simp only [Act.put, List.setIfInBounds_toArray, List.set_cons_zero, List.set_cons_succ]
        refine takeRun (i := 5) (v := ?_) rfl (by kernel_rfl) (by kernel_rfl) (by kernel_rfl) (fun _ _ _ h => h) rfl ?_ (by assumption) ?_
        rotate_left
        · (intro w hSw; (try dsimp only at hSw); go_simp; (try with_reducible rfl))
        try simp only [Act.put, List.setIfInBounds_toArray, List.set_cons_zero, List.set_cons_succ]
        refine takeRun (i := 6) (v := ?_) rfl (by kernel_rfl) (by kernel_rfl) (by kernel_rfl) (fun _ _ _ h => h) rfl ?_ (by assumption) ?_
        rotate_left
        · (intro w hSw; (try dsimp only at hSw); go_simp; (try with_reducible rfl))
        try simp only [Act.put, List.setIfInBounds_toArray, List.set_cons_zero, List.set_cons_succ]
        refine takeRun (i := 8) (v := ?_) rfl (by kernel_rfl) (by kernel_rfl) (by kernel_rfl) (fun _ _ _ h => h) rfl ?_ (by assumption) ?_
        rotate_left
        · (intro w hSw; (try dsimp only at hSw); go_simp; (try with_reducible rfl))
        try simp only [Act.put, List.setIfInBounds_toArray, List.set_cons_zero, List.set_cons_succ]
        refine takeRun (i := 9) (v := ?_) rfl (by kernel_rfl) (by kernel_rfl) (by kernel_rfl) (fun _ _ _ h => h) rfl ?_ (by assumption) ?_
        rotate_left
        · (intro w hSw; (try dsimp only at hSw); go_simp; (try with_reducible rfl))
        try simp only [Act.put, List.setIfInBounds_toArray, List.set_cons_zero, List.set_cons_succ]
        refine takeRun (i := 10) (v := ?_) rfl (by kernel_rfl) (by kernel_rfl) (by kernel_rfl) (fun _ _ _ h => h) rfl ?_ (by assumption) ?_
        rotate_left
        · (intro w hSw; (try dsimp only at hSw); go_simp; (try with_reducible rfl))
        try simp only [Act.put, List.setIfInBounds_toArray, List.set_cons_zero, List.set_cons_succ]
        refine takeRun (i := 11) (v := ?_) rfl (by kernel_rfl) (by kernel_rfl) (by kernel_rfl) (fun _ _ _ h => h) rfl ?_ (by assumption) ?_
        rotate_left
        · (intro w hSw; (try dsimp only at hSw); go_simp; (try with_reducible rfl))
        try simp only [Act.put, List.setIfInBounds_toArray, List.set_cons_zero, List.set_cons_succ]
        refine takeRun (i := 12) (v := ?_) rfl (by kernel_rfl) (by kernel_rfl) (by kernel_rfl) (fun _ _ _ h => h) rfl ?_ (by assumption) ?_
        rotate_left
        · (intro w hSw; (try dsimp only at hSw); go_simp; (try with_reducible rfl))
        try simp only [Act.put, List.setIfInBounds_toArray, List.set_cons_zero, List.set_cons_succ]
        refine goOne (i := 0) (by kernel_rfl) rfl (fun K hK => ?_)
        go_simp
        refine hK.out _ _ ?_ (fun hHeld => ?_)
        · exact trivial
        clear hK K
        try simp only [Act.put, List.setIfInBounds_toArray, List.set_cons_zero, List.set_cons_succ]
        refine goOne (i := 2) (by kernel_rfl) rfl (fun K hK => ?_)
        (refine sapp_b rfl _ _ rfl w3 (r0.drew.alloc (Nat.le_refl _) _) _ _ _ [] rfl (Ow.lit _ _ _ [] (Nat.le_refl _) (Nat.zero_le _) HE.out rfl) rfl B' fl d' (flatX L) rfl (rdB.drew.alloc _) HFL.out (by omega) ?_; intro A7 c7 w7 ho7 hb7 hg7; try simp only [List.nil_append] at ho7)
        refine hK.out _ _ ?_ (fun hHeld => ?_)
        · exact trivial
        clear hK K
        try simp only [Act.put, List.setIfInBounds_toArray, List.set_cons_zero, List.set_cons_succ]
        refine goOne (i := 7) (by kernel_rfl) rfl (fun K hK => ?_)
        (refine sapp_b rfl _ _ rfl w3 hb7 _ _ _ _ rfl ho7 (by rw [HFL.out, Nat.zero_add]) _ (k + 1) 6 (([1, 2, 0, 0, 0, 9].set k cc).take (k + 1)) rfl (rdH.below hb7) HLH.out (by omega) ?_; intro A8 c8 w8 ho8 hb8 hg8)
        refine hK.out _ _ ?_ (fun hHeld => ?_)
        · exact trivial
        clear hK K
        try simp only [Act.put, List.setIfInBounds_toArray, List.set_cons_zero, List.set_cons_succ]
        refine goOne (i := 13) (by kernel_rfl) rfl (fun K hK => ?_)
        (refine sapp_b rfl _ _ rfl w3 hb8 _ _ _ _ rfl ho8 (by rw [List.length_append, HFL.out, HLH.out, Nat.zero_add]) A3 m3 c3 (mo.take m3) rfl (rdM.below hb8) HLM.out (by omega) ?_; intro A9 c9 w9 ho9 hb9 hg9; rw [HST.out] at ho9)
        refine hK.out _ _ ?_ (fun hHeld => ?_)
        · exact trivial
        clear hK K
        try simp only [Act.put, List.setIfInBounds_toArray, List.set_cons_zero, List.set_cons_succ]
        refine goOne (i := 14) (by kernel_rfl) rfl (fun K hK => ?_)
        go_simp
        (refine (mb_Cut A9 _ c9 st _ ho9.rd (by simp only [HSL.out, Nat.zero_add]) hBs (by omega) (by have := ho9.le.1; rw [bs_length, HSL.out] at this; omega) (by have := ho9.le.2; simpa [maxLen] using this)).mono ?_; rintro e w10 ⟨A10, c10, ys, hys, rfl, o10, hG10, hb10⟩; obtain ⟨g7, hg7⟩ : ∃ g, (cutF st).2 = g := ⟨_, rfl⟩; obtain ⟨g8, hg8⟩ : ∃ g, cutErr st = g := ⟨_, rfl⟩; rw [hg7, hg8]; have HG7 := Lib.hid hg7; have HG8 := Lib.hid hg8; have HYS := Lib.hid hys; have HGY := Lib.hid hG10; clear hg7 hg8 hys hG10)
        go_wp2_with fail
        refine hK.out _ _ ?_ (fun hHeld => ?_)
        · exact trivial
        clear hK K
        try simp only [Act.put, List.setIfInBounds_toArray, List.set_cons_zero, List.set_cons_succ]
        refine takeRun (i := 15) (v := ?_) rfl (by kernel_rfl) (by kernel_rfl) (by kernel_rfl) (fun _ _ _ h => h) rfl ?_ (by assumption) ?_
        rotate_left
        · (intro w hSw; (try dsimp only at hSw); go_simp; (try with_reducible rfl))
        try simp only [Act.put, List.setIfInBounds_toArray, List.set_cons_zero, List.set_cons_succ]
        refine takeRun (i := 16) (v := ?_) rfl (by kernel_rfl) (by kernel_rfl) (by kernel_rfl) (fun _ _ _ h => h) rfl ?_ (by assumption) ?_
        rotate_left
        · (intro w hSw; (try dsimp only at hSw); go_simp; (try with_reducible rfl))
        try simp only [Act.put, List.setIfInBounds_toArray, List.set_cons_zero, List.set_cons_succ]
        refine takeRun (i := 17) (v := ?_) rfl (by kernel_rfl) (by kernel_rfl) (by kernel_rfl) (fun _ _ _ h => h) rfl ?_ (by assumption) ?_
        rotate_left
        · (intro w hSw; (try dsimp only at hSw); go_simp; (try with_reducible rfl))
        try simp only [Act.put, List.setIfInBounds_toArray, List.set_cons_zero, List.set_cons_succ]
        refine takeRun (i := 18) (v := ?_) rfl (by kernel_rfl) (by kernel_rfl) (by kernel_rfl) (fun _ _ _ h => h) rfl ?_ (by assumption) ?_
        rotate_left
        · (intro w hSw; (try dsimp only at hSw); go_simp; (try with_reducible rfl))
        try simp only [Act.put, List.setIfInBounds_toArray, List.set_cons_zero, List.set_cons_succ]
        refine takeRun (i := 19) (v := ?_) rfl (by kernel_rfl) (by kernel_rfl) (by kernel_rfl) (fun _ _ _ h => h) rfl ?_ (by assumption) ?_
        rotate_left
        · (intro w hSw; (try dsimp only at hSw); go_simp; (try with_reducible rfl))
        try simp only [Act.put, List.setIfInBounds_toArray, List.set_cons_zero, List.set_cons_succ]
        refine takeRun (i := 20) (v := ?_) rfl (by kernel_rfl) (by kernel_rfl) (by kernel_rfl) (fun _ _ _ h => h) rfl ?_ (by assumption) ?_
        rotate_left
        · (intro w hSw; (try dsimp only at hSw); go_simp; (try with_reducible rfl))
        try simp only [Act.put, List.setIfInBounds_toArray, List.set_cons_zero, List.set_cons_succ]
        refine takeRun (i := 21) (v := ?_) rfl (by kernel_rfl) (by kernel_rfl) (by kernel_rfl) (fun _ _ _ h => h) rfl ?_ (by assumption) ?_
        rotate_left
        · (intro w hSw; (try dsimp only at hSw); go_simp; (try with_reducible rfl))
        try simp only [Act.put, List.setIfInBounds_toArray, List.set_cons_zero, List.set_cons_succ]
        refine wpAnyH_done (by kernel_rfl) ?_ _
        -- @END
        have hst : flatX L ++ headW k cc ++ mo.take m3 = st := HST.out
        have hb310 := bthen hb9 hb10
        have hb10' := bthen hb3' hb310
        by_cases hmay : mayW k cc = true
        · have hc := may_cut L (headW k cc ++ mo.take m3) HALL.out
          rw [← List.append_assoc, hst, ← HYS.out, List.length_map, HG7.out, HFL.out] at hc
          have u1 : decide ((fl : Int) ≤ (g7 : Int)) = true := by simp; omega
          have u2 : decide ((L.length : Int) ≤ (ys.length : Int)) = true := by simp; omega
          have u3 : decide (fl ≤ g7) = true := by simp; omega
          have u4 : decide (L.length ≤ ys.length) = true := by simp; omega
          rw [hmay]
          clear hc hst hmay g1 g4
          go_wp2_with fail
          refine (mbap_awake _).mono ?_
          rintro e w13 ⟨rfl, hb13⟩
          go_wp2_with fail
          go_ret
          exact ⟨rfl, bthen hb10' hb13⟩
        · have hmay' : mayW k cc = false := by simpa using hmay
          obtain ⟨h1, h2, h3⟩ := wrong_cut L k cc (mo.take m3) HALL.out hk1 hk2 hmay'
          rw [hst] at h1 h2 h3
          rw [HG7.out, HFL.out] at h2
          rw [HG8.out] at h3
          rw [← HYS.out] at h1
          have hly : ys.length = L.length := by have := congrArg List.length h1; simpa using this
          have HLY := Lib.hid hly
          have HMM := Lib.hid h1
          have oL := (o2.below hbk).below hb310
          have HLR2 : Hid (∀ x ∈ L, x.R w10) := fun x hx => ((HLR.out x hx).1.below hbk).below hb310
          subst h2 h3
          rw [hmay', hly]
          rw [hly] at o10
          have u1 : ((g7 : Int) == (g7 : Int)) = true := by simp
          clear h1 hly hst hmay hmay' g1 g4
          go_wp2_with fail
          refine (l05_same A10 A' L.length c10 c' ys L _ o10.rd oL.rd HLY.out rfl (fun x hx => (HGY.out x hx).r) HLR2.out HMM.out (by omega)).mono ?_
          rintro e w12 ⟨rfl, ke, rfl⟩
          have hb12 := below_drewN hb10' ke
          generalize w10.drewN ke = w12 at *
          go_wp2_with fail
          refine (mbap_awake _).mono ?_
          rintro e w13 ⟨rfl, hb13⟩
          go_wp2_with fail
          go_ret
          exact ⟨rfl, bthen hb12 hb13⟩
end Go.Proofs.Ytheepgfafjinoaa
