/- saucierlaw05.MbapStream returns true: however a stream of frames comes in parts, it tells the same frames, and nothing is left. -/
import Derived.Test.YtheepgfafjinoaaLawMbapWrong
namespace Go.Proofs.Ytheepgfafjinoaa
open Go.RowKit
set_option linter.unusedSimpArgs false
set_option linter.unusedVariables false

/-- what is told goes on: the frames ahead are told as well where more bytes come -/
theorem hasF_more {x : List Nat} (p : List Nat) (h : hasF x = true) : hasF (x ++ p) = true ∧ lenF (x ++ p) = lenF x ∧ fstF (x ++ p) = fstF x := by
  have hh := hasF_len h
  have hg : ∀ i, i < x.length → (x ++ p).getD i 0 = x.getD i 0 := fun i hi => by
    rw [List.getD_eq_getElem?_getD, List.getElem?_append_left hi, List.getD_eq_getElem?_getD]
  have e5 : lenF (x ++ p) = lenF x := by unfold lenF; rw [hg 5 (by omega)]
  have ho : ∀ i, i < 6 → okAt (x ++ p) i = okAt x i := fun i hi => by unfold okAt; rw [List.getElem?_append_left (by omega)]
  have hb : begF (x ++ p) = true := by
    have := hh.2.2.2
    unfold begF at this ⊢
    rw [ho 2 (by omega), ho 3 (by omega), ho 4 (by omega), ho 5 (by omega)]
    exact this
  refine ⟨?_, e5, ?_⟩
  · unfold hasF
    rw [e5, hb, decide_eq_true (p := 7 < _) (by simp; omega), decide_eq_true (p := lenF x ≤ _) (by simp; omega)]
    rfl
  · unfold fstF
    rw [e5, hg 0 (by omega), hg 1 (by omega), hg 6 (by omega), List.take_append_of_le_length (by omega)]
theorem cutF_more : ∀ (k : Nat) (x p : List Nat), x.length ≤ k → cutF (x ++ p) = ((cutF x).1 ++ (cutF (x.drop (cutF x).2 ++ p)).1, (cutF x).2 + (cutF (x.drop (cutF x).2 ++ p)).2) := by
  intro k
  induction k with
  | zero =>
    intro x p hx
    have : x = [] := List.eq_nil_of_length_eq_zero (by omega)
    subst this
    rw [show cutF [] = ([], 0) from rfl]
    simp
  | succ k ih =>
    intro x p hx
    by_cases h : hasF x = true
    · have hh := hasF_len h
      obtain ⟨h1, h2, h3⟩ := hasF_more p h
      rw [cutF_yes h1, h2, h3, cutF_yes h]
      have e : (x ++ p).drop (lenF x) = x.drop (lenF x) ++ p := by rw [List.drop_append_of_le_length (by omega)]
      rw [e, ih (x.drop (lenF x)) p (by simp; omega)]
      simp only [List.drop_drop, List.cons_append]
      rw [Nat.add_assoc]
    · have e : cutF x = ([], 0) := cutF_no (by simpa using h)
      rw [e]
      simp
/-- what is left of a stream that has come as far as k -/
def leftF (b : List Nat) (k : Nat) : List Nat := (b.take k).drop (cutF (b.take k)).2
def toldF (b : List Nat) (k : Nat) : List Fr := (cutF (b.take k)).1
theorem leftF_zero (b : List Nat) : leftF b 0 = [] := by unfold leftF; simp
theorem toldF_zero (b : List Nat) : toldF b 0 = [] := rfl
theorem take_more (b : List Nat) (k n : Nat) : b.take (k + n) = b.take k ++ (b.drop k).take n := by rw [List.take_add]
theorem stream_step (b : List Nat) (k n : Nat) : toldF b (k + n) = toldF b k ++ (cutF (leftF b k ++ (b.drop k).take n)).1 ∧ leftF b (k + n) = (leftF b k ++ (b.drop k).take n).drop (cutF (leftF b k ++ (b.drop k).take n)).2 := by
  have e := cutF_more _ (b.take k) ((b.drop k).take n) (Nat.le_refl _)
  have hle := cutF_used (b.take k)
  unfold toldF leftF
  rw [take_more, e]
  refine ⟨rfl, ?_⟩
  simp only
  rw [← List.drop_drop, List.drop_append_of_le_length hle]
theorem stream_ok {l : List Fr} (hl : AllR l) (k : Nat) : begF (leftF (flatF l) k) = true := by
  obtain ⟨a, b, q, h1, h2, h3, h4, _⟩ := flat_take l k hl
  have ha : AllR a := fun f hf => hl f (by rw [h1]; simp [hf])
  have e := cutF_flat a q ha
  rw [cutF_no h3] at e
  unfold leftF
  rw [h2, e]
  simp only [Nat.add_zero]
  have : (flatF a ++ q).drop (flatF a).length = q := List.drop_left' rfl
  rw [this]
  exact h4
theorem stream_err {l : List Fr} (hl : AllR l) (k n : Nat) : cutErr (leftF (flatF l) k ++ ((flatF l).drop k).take n) = 0 := by
  have h := stream_ok hl (k + n)
  rw [(stream_step (flatF l) k n).2] at h
  unfold cutErr
  rw [if_pos h]
theorem stream_end {l : List Fr} (hl : AllR l) : toldF (flatF l) (flatF l).length = l ∧ leftF (flatF l) (flatF l).length = [] := by
  have e := cutF_flat l [] hl
  rw [List.append_nil, show cutF [] = ([], 0) from rfl] at e
  unfold toldF leftF
  rw [List.take_of_length_le (Nat.le_refl _), e]
  simp
theorem leftF_le (b : List Nat) (k : Nat) : (leftF b k).length ≤ k := by
  unfold leftF
  rw [List.length_drop, List.length_take]
  omega

theorem slice_from_all {A : Option Addr} {n c : Nat} {l : List Nat} {w : World} (h : Rd w A (bs l)) (hn : l.length = n) (hc : n ≤ c) (k : Nat) (hk : k ≤ n) :
    ∃ A', (∀ W, (Instr.slice 22 (.slice A n c) (some (.int .i64 (k : Int))) none none).run Try.prog W = .ok (.slice A' (n - k) (c - k)) W) ∧ ∀ W, Rd W A (bs l) → Rd W A' (bs (l.drop k)) := by
  obtain ⟨A', e, r⟩ := h.sliced k n c hk (by rw [bs_length]; omega) (by rw [bs_length]; omega)
  refine ⟨A', fun W => ?_, fun W hW => ?_⟩
  · rw [run_slice_l W 22 A n c (by kernel_rfl) .i64 k (by omega) (by omega), size_b]
    simp only [Result.andThen_ok, Int.toNat_natCast, e]
  · obtain ⟨A'', e2, r2⟩ := hW.sliced k n c hk (by rw [bs_length]; omega) (by rw [bs_length]; omega)
    rw [e] at e2
    injection e2 with e2
    subst e2
    rw [List.take_of_length_le (by rw [bs_length]; omega)] at r2
    rw [bs_drop]; exact r2
/-- a frame's bytes lie elsewhere than a row -/
def ApartX (x : Fx) (A : Option Addr) : Prop := x.A = none ∨ x.A.map (·.block) ≠ A.map (·.block)
theorem ownBlock_slice (A : Option Addr) (n c : Nat) : Value.ownBlock (.slice A n c) = A.map (·.block) := by cases A <;> rfl
theorem Fx.G.pass {B : Nat} {x : Fx} {w w' : World} {A : Option Addr} {n c : Nat} (h : x.G B w) (ha : ApartX x A) (hg : w.grownBy w' (Value.ownBlock (.slice A n c))) : x.G B w' := by
  refine h.kept hg ?_
  rw [ownBlock_slice, ownBlock_slice]
  rcases ha with h0 | h0
  · rw [h0]; exact .inl rfl
  · exact .inr h0
theorem Fx.G.new {B : Nat} {x : Fx} {w : World} {A : Option Addr} (h : x.G B w) {g : Nat} (hA : A.map (·.block) = some g) (hg : w.heap.size ≤ g) : ApartX x A := by
  rcases hx : x.A with _ | a
  · exact .inl hx
  · right
    rw [hA, hx]
    intro e
    have := (h.ow.block (g := g) (by rw [ownBlock_slice, hx]; exact e)).2
    omega
theorem Fx.G.drew {B : Nat} {x : Fx} {w : World} (h : x.G B w) : x.G B w.drew := ⟨h.ow, h.ok, h.right⟩
theorem Fx.G.base {B B' : Nat} {x : Fx} {w : World} (h : x.G B w) (hB : B' ≤ B) : x.G B' w := ⟨h.ow.base hB, h.ok, h.right⟩
theorem Fx.G.below {B : Nat} {x : Fx} {w w' : World} (h : x.G B w) (hb : Below w.heap.size w w') : x.G B w' := ⟨h.ow.below hb, h.ok, h.right⟩
section
variable {w : World} {ops : Array Oper} {rest : List Oper} {o : Oper} {a : Act} {Q : Exit → Act → World → Prop}
theorem sapp_m {K : Act → World → Prop} {E : Prop} (hgd : o.guard = none) (s x : Operand) (ho : o.op = .call { callee := .builtin .append, args := #[s, x], argTypes := #[43, 43] })
    (w0 : World) (hb : Below w0.heap.size w0 w) (A : Option Addr) (n c : Nat) (xs : List Fx) (hs : a.eval s = .slice A n c) (hown : OwK w w0.heap.size 37 3 A n c (fxs xs))
    (A2 : Option Addr) (m c2 : Nat) (news : List Fx) (hx : a.eval x = .slice A2 m c2) (hr : Rd w A2 (fxs news)) (hm : news.length = m) (hbytes : n + m ≤ 100000000000)
    (h : ∀ A' c' w', OwK w' w0.heap.size 37 3 A' (n + m) c' (fxs (xs ++ news)) → Below w0.heap.size w0 w' → w.grownBy w' (Value.ownBlock (.slice A n c)) → K (a.put o.dst (.slice A' (n + m) c')) w') :
    if Region.wanted o (yielded ops a.tmps) = true then Oper.wp Try.prog o a w K Q else E := by
  obtain ⟨i, hi, hz0, hz1, hz2⟩ := info_parts info_m
  refine step_appK hgd s x 43 ho 37 i _ 3 32 Try.underlying43 hi hz0 hz1 hz2 rfl (by decide) w0.heap.size w0 hb hb.size A n c (fxs xs) hs hown A2 m c2 (fxs news) hx hr (by rw [fxs_length, hm]) (fxs_one news) (by omega) (by decide) ?_
  intro A' c' w' h1 h2 h3
  exact h A' c' w' (by rw [fxs_append]; exact h1) h2 h3
end

set_option maxRecDepth 100000 in
set_option maxHeartbeats 4000000 in
theorem MbapStream_walk (A : Option Addr) (n c : Nat) (xs : List Fx) (A1 : Option Addr) (np c1 : Nat) (ps : List Nat) (w : World) (hA : Rd w A (fxs xs)) (hn : xs.length = n) (hok : ∀ x ∈ xs, x.R w ∧ x.f.ok) (hnc : n ≤ c) (hcm : c ≤ 9223372036854775807)
    (hP : Rd w A1 (bs ps)) (hnp : ps.length = np) (hps : Bs ps) (hnc1 : np ≤ c1) (hcm1 : np ≤ 140737488355328) :
    Calls Try.prog 8 #[.slice A n c, .slice A1 np c1] w fun e w' => e = .returned (.bool true) ∧ Below w.heap.size w w' := by
  have HN := Lib.hid hn
  have HNP := Lib.hid hnp
  have HOK := Lib.hid hok
  clear hn hnp hok
  go_enter Try.func8, Try.ntmps8
  go_wp2_with fail
  go_loopw [19] (fun i wr => ∃ j : Nat, j ≤ n ∧ i = .int .i64 j ∧ Below w.heap.size w wr ∧ ∀ x ∈ xs.take j, x.f.pdu.length ≤ 300) (fun i _ => n - (intOf i).toNat)
  case atStart => exact ⟨0, by omega, rfl, Below.refl _ _, by simp⟩
  case round =>
    obtain ⟨j, hj, rfl, hbr, h300⟩ := hrel
    have H300 := Lib.hid h300
    clear h300
    by_cases hlt : j < n
    · obtain ⟨b, off, x, rfl, hx, x0, x1, x2⟩ := (hA.below hbr).fx (j := j) (by rw [HN.out]; omega)
      have HS := Lib.hid (take_snoc hx)
      have hblk : b < wr.heap.size := World.block_lt_of_cell? wr _ x0
      have hb2 := hbr.alloc hbr.size (.cells #[.int .u16 (x.f.tx : Int), .int .u8 (x.f.unit : Int), .slice x.A x.f.pdu.length x.c] 37)
      clear hx
      by_cases h3 : 300 < x.f.pdu.length
      · have t1 : decide ((300 : Int) < (x.f.pdu.length : Int)) = true := by simp; omega
        go_wp2_with fail
        refine (mbap_awake _).mono ?_
        rintro e w5 ⟨rfl, hb5⟩
        go_wp2_with fail
        go_ret
        exact ⟨rfl, bthen hb2 hb5⟩
      · have t1 : decide ((300 : Int) < (x.f.pdu.length : Int)) = false := by simp; omega
        go_wp2_with fail
        go_roundw
        case rel =>
          refine ⟨j + 1, by omega, by go_num, hb2, ?_⟩
          rw [HS.out]
          intro y hy
          rcases List.mem_append.1 hy with hy | hy
          · exact H300.out y hy
          · simp at hy
            subst hy
            omega
        case measure => simp [intOf]; omega
    · obtain rfl : j = n := by omega
      have H3 : Hid (∀ x ∈ xs, x.f.pdu.length ≤ 300) := by
        (show ∀ _, _)
        intro x hx
        refine H300.out x ?_
        rw [List.take_of_length_le (by rw [HN.out]; exact Nat.le_refl _)]
        exact hx
      go_wp2_with fail
      refine (l05_packed A j c xs _ (hA.below hbr) HN.out (fun x hx => ⟨(HOK.out x hx).1.below hbr, (HOK.out x hx).2⟩) H3.out hnc hcm).mono ?_
      rintro e w2 ⟨A', c', B', d', rfl, o2, o2b, hb2⟩
      have HALL := Lib.hid (rights_all HOK.out)
      obtain ⟨L, hL⟩ : ∃ L, rightsF (xs.take 12) = L := ⟨_, rfl⟩
      have HLR : Hid (∀ x ∈ L, x.R w2 ∧ Bs x.f.pdu) := by
        (show ∀ _, _)
        intro x hx
        rw [← hL] at hx
        have := HOK.out x (List.mem_of_mem_take (rightsF_mem hx))
        exact ⟨this.1.below (bthen hbr hb2), this.2.2.2⟩
      have hlenL : L.length ≤ 12 := by rw [← hL]; have := rightsF_le (xs.take 12); rw [List.length_take] at this; omega
      have hflL : (flatX L).length ≤ 260 * L.length := by rw [← hL]; exact flatX_le _ (rightsF_right _)
      rw [hL] at HALL o2 o2b
      rw [hL]
      clear hL
      have hb2' := bthen hbr hb2
      clear H300 hbr hb2
      obtain ⟨st, hst⟩ : ∃ st, flatX L = st := ⟨_, rfl⟩
      rw [hst] at o2b hflL
      rw [hst]
      have HST := Lib.hid hst
      obtain ⟨fl, hfl⟩ : ∃ q, st.length = q := ⟨_, rfl⟩
      rw [hfl] at hflL
      rw [hfl]
      have HFL := Lib.hid hfl
      have hBst : Bs st := by rw [← hst]; exact flatF_Bs HALL.out
      have hd := o2b.le
      rw [bs_length, hfl] at hd
      have hd2 := hd.2
      unfold maxLen at hd2
      have hd1 := hd.1
      clear hfl hst hd
      go_wp2_with fail
      go_loopw [9, 10, 11, 12] (fun g l a i wr => ∃ (at_ i_ : Nat) (gs : List Fx), at_ ≤ fl ∧ a = .int .i64 at_ ∧ i = .int .i64 i_ ∧ i_ ≤ np + 1 ∧ (i_ = np + 1 → at_ = fl) ∧ gs.map Fx.f = toldF st at_ ∧ Below w2.heap.size w2 wr ∧ gs.length ≤ at_ ∧
        ∃ A9 c9 A10 c10, (∀ x ∈ gs, x.G w2.heap.size wr ∧ ApartX x A10) ∧ g = .slice A9 gs.length c9 ∧ l = .slice A10 (leftF st at_).length c10 ∧ OwK wr w2.heap.size 37 3 A9 gs.length c9 (fxs gs) ∧ Ow wr w2.heap.size 5 A10 c10 (bs (leftF st at_))) (fun _ _ _ i _ => np + 1 - (intOf i).toNat)
      case atStart => exact ⟨0, 0, [], by omega, rfl, rfl, by omega, by omega, by rw [toldF_zero]; rfl, Below.refl _ _, by simp, none, 0, none, 0, by simp, rfl, by rw [leftF_zero]; rfl, OwK.nil, by rw [leftF_zero]; exact Ow.nil⟩
      case round =>
        obtain ⟨at_, i_, gs, hat, rfl, rfl, hi, hilast, hgs, hbr, hgl, A9, c9, A10, c10, hgr, rfl, rfl, o9, o10⟩ := hrel
        have HGS := Lib.hid hgs
        have HGR := Lib.hid hgr
        have HIL := Lib.hid hilast
        clear hgs hgr hilast
        have hll := leftF_le st at_
        by_cases hlt2 : at_ < fl
        · have hi2 : i_ ≤ np := by
            rcases Nat.lt_or_ge np i_ with h | h
            · have := HIL.out (by omega); omega
            · exact h
          go_upto_if 47 with fail
          go_cut [13] (fun v wc => ∃ m : Nat, m ≤ fl - at_ ∧ v = .int .i64 m ∧ (i_ = np → m = fl - at_) ∧ wr = wc)
          case first =>
            have e1 : (fl : Int) - (at_ : Int) = ((fl - at_ : Nat) : Int) := by omega
            by_cases hip : i_ < np
            · obtain ⟨b, off, x, rfl, hx, hcell⟩ := ((hP.below hb2').below hbr).byte (k := i_) (by rw [HNP.out]; exact hip)
              have hxb := hps.get hx
              obtain ⟨m, hm⟩ : ∃ m : Nat, m = min (fl - at_) x := ⟨_, rfl⟩
              have hmin : (if (x : Int) < ((fl - at_ : Nat) : Int) then (x : Int) else ((fl - at_ : Nat) : Int)) = (m : Int) := by split <;> omega
              have hmin2 : ∀ W, (Builtin.min_ #[3, 3] 3 #[.int .i64 ((fl - at_ : Nat) : Int), .int .i64 (x : Int)]).run Try.prog W = .ok (.int .i64 (m : Int)) W := by
                intro W
                rw [run_min_int2, hmin]
              have hm2 : m ≤ fl - at_ := by omega
              clear hm hmin hx
              go_wp2_with fail
              go_meet
              exact ⟨m, hm2, rfl, by omega, rfl⟩
            · go_wp2_with fail
              go_meet
              exact ⟨fl - at_, Nat.le_refl _, by rw [e1], fun _ => rfl, rfl⟩
          case rest =>
            obtain ⟨m, hm, rfl, hml, rfl⟩ := hcut
            have HML := Lib.hid hml
            clear hml
            have hgl12 : gs.length ≤ 100000 := by omega
            obtain ⟨A11, hsl, hA11⟩ := slice_mid_b (c := d') (o2b.rd.below hbr) HFL.out hd1 at_ (at_ + m) (by omega) (by omega)
            rw [show (st.take (at_ + m)).drop at_ = (st.drop at_).take m from by rw [List.drop_take]; congr 1; omega] at hA11
            rw [show at_ + m - at_ = m by omega, show ((at_ + m : Nat) : Int) = (at_ : Int) + (m : Int) by omega] at hsl
            have HLP : Hid (((st.drop at_).take m).length = m) := by (show _ = _); rw [List.length_take, List.length_drop, HFL.out]; omega
            have hstep := stream_step st at_ m
            have herr : cutErr (leftF st at_ ++ (st.drop at_).take m) = 0 := by rw [← HST.out]; exact stream_err HALL.out at_ m
            have HERR := Lib.hid herr
            obtain ⟨hs1, hs2⟩ := hstep
            have HS1 := Lib.hid hs1
            have HS2 := Lib.hid hs2
            have hBl : Bs (leftF st at_ ++ (st.drop at_).take m) := ((hBst.take at_).drop _).append ((hBst.drop at_).take m)
            have hus := cutF_used (leftF st at_ ++ (st.drop at_).take m)
            obtain ⟨q, hq⟩ : ∃ q, (leftF st at_).length = q := ⟨_, rfl⟩
            have HQ := Lib.hid hq
            rw [hq] at hll
            rw [hq]
            have HLL : Hid ((leftF st at_ ++ (st.drop at_).take m).length = q + m) := by (show _ = _); rw [List.length_append, hq, HLP.out]
            obtain ⟨u, hu⟩ : ∃ u, (cutF (leftF st at_ ++ (st.drop at_).take m)).2 = u := ⟨_, rfl⟩
            rw [hu, HLL.out] at hus
            have HU := Lib.hid hu
            clear hs1 hs2 herr hq hu
            go_wp2_with (at_builtin; refine app_b rfl _ _ rfl w2 hbr _ _ _ _ rfl o10 HQ.out A11 m _ _ rfl hA11 HLP.out (by omega) ?_)
            intro A12 c12 w12 o12 hb12 hg12
            have o9b := o9.keptOw o10 (by decide) hg12
            have hgc := o12.le
            rw [bs_length, HLL.out] at hgc
            have HGR12 : Hid (∀ x ∈ gs, x.G w2.heap.size w12) := fun x hx => (HGR.out x hx).1.pass (HGR.out x hx).2 hg12
            clear hsl
            go_wp2_with fail
            refine (mb_Cut A12 (q + m) c12 _ _ o12.rd HLL.out hBl (by omega) hgc.1 (by have := hgc.2; unfold maxLen at this; exact this)).mono ?_
            rintro e w13 ⟨A13, c13, ys, hys, rfl, o13, hG13, hb13⟩
            rw [HU.out, HERR.out]
            have HYS := Lib.hid hys
            have hyl : ys.length ≤ 100000 := by
              have h1 := cutF_count _ (leftF st at_ ++ (st.drop at_).take m) (Nat.le_refl _)
              rw [← hys, List.length_map, HLL.out] at h1
              omega
            have hb213 := bthen hb12 hb13
            have HALLG : Hid (∀ x ∈ gs ++ ys, x.G w2.heap.size w13) := by
              (show ∀ _, _)
              intro x hx
              rcases List.mem_append.1 hx with hx | hx
              · exact (HGR12.out x hx).below hb13
              · exact (hG13 x hx).base hb12.size
            have o9c := o9b.below hb13
            have o12c := o12.below hb13
            have rd13 := o13.rd
            obtain ⟨A14, hsl, hA14⟩ := slice_from_all (c := c12) o12c.rd HLL.out hgc.1 u hus
            have v1 : decide ((u : Int) < 0) = false := by simp
            have v2 : decide ((q : Int) + (m : Int) < (u : Int)) = false := by simp; omega
            have v3 : decide (((q + m : Nat) : Int) < (u : Int)) = false := by simp; omega
            have HLD : Hid (((leftF st at_ ++ (st.drop at_).take m).drop u).length = q + m - u) := by (show _ = _); rw [List.length_drop, HLL.out]
            have HE : Hid (bs [] = []) := rfl
            clear hys hG13 hb13 o13 o12 hg12 o9b o9 hb12 HGR12 HGR
            go_wp2_with fail
            have hs213 := hb213.size
            go_region_held3 (fun w' => True) (exact trivial)
              (first
                | (refine sappL_b rfl _ _ rfl w2 (hb15.alloc hb15.size _) _ _ _ [] rfl (Ow.lit _ _ _ [] hb15.size (Nat.zero_le _) HE.out rfl) rfl A14 (q + m - u) _ _ rfl ((hA14 _ rdL15).alloc _) HLD.out (by omega) ?_; intro A16 c16 w16 o16 hb16 hg16 hl16; have o15b := (o15.alloc _).keptOw (Ow.lit w15 w2.heap.size 5 [] hb15.size (Nat.zero_le _) HE.out rfl) (by decide) hg16; have HG16 : Hid (∀ x ∈ gs ++ ys, x.G w2.heap.size w16 ∧ ApartX x A16) := fun x hx => ⟨((HG15.out x hx).alloc _).pass ((HALLG.out x hx).new (g := w15.heap.size) rfl hs15) hg16, by rcases hl16 with e | e <;> (refine (HALLG.out x hx).new e ?_; simp; omega)⟩)
                | (refine sappL_b rfl _ _ rfl w2 hb15 _ _ _ [] rfl oLit15 rfl A14 (q + m - u) _ _ rfl (hA14 _ rdL15) HLD.out (by omega) ?_; intro A16 c16 w16 o16 hb16 hg16 hl16; have o15b := o15.keptOw oLit15 (by decide) hg16; have HG16 : Hid (∀ x ∈ gs ++ ys, x.G w2.heap.size w16 ∧ ApartX x A16) := fun x hx => ⟨(HG15.out x hx).pass ((HALLG.out x hx).new (g := w13.heap.size) rfl (Nat.le_refl _)) hg16, by rcases hl16 with e | e <;> (refine (HALLG.out x hx).new e ?_; first | exact Nat.le_refl _ | omega)⟩)
                | (refine sapp_m rfl _ _ rfl w2 hb213.drew _ _ _ gs rfl o9c A13 _ c13 ys rfl rd13.drew rfl (by omega) ?_; intro A15 c15 w15 o15 hb15 hg15; have hs15 : w13.heap.size ≤ w15.heap.size := hg15.size; have HG15 : Hid (∀ x ∈ gs ++ ys, x.G w2.heap.size w15) := (fun x hx => Fx.G.appended (w := w13.drew) (HALLG.out x hx).drew o9c hg15); have rdL15 := (Ow.keptOwK (w := w13.drew) o12c o9c (by decide) hg15).rd)
                | (refine sapp_m rfl _ _ rfl w2 (hb213.drew.alloc hs213 _) _ _ _ gs rfl (OwK.alloc (w := w13.drew) o9c _) A13 _ c13 ys rfl (rd13.drew.alloc _) rfl (by omega) ?_; intro A15 c15 w15 o15 hb15 hg15; have hs15 : w13.heap.size + 1 ≤ w15.heap.size := (by have := hg15.size; simpa using this); have HG15 : Hid (∀ x ∈ gs ++ ys, x.G w2.heap.size w15) := (fun x hx => Fx.G.appended ((HALLG.out x hx).drew.alloc _) (OwK.alloc (w := w13.drew) o9c _) hg15); have rdL15 := (Ow.keptOwK (Ow.alloc (w := w13.drew) o12c _) (OwK.alloc (w := w13.drew) o9c _) (by decide) hg15).rd; have oLit15 := (Ow.keptOwK (Ow.lit w13.drew w2.heap.size 5 [] hs213 (Nat.zero_le _) HE.out rfl) (OwK.alloc (w := w13.drew) o9c _) (by decide) hg15)))
            all_goals
              simp only [List.nil_append] at o16
              have hidx : (i_ = np → at_ + m = fl) := fun e => by have := HML.out e; omega
              have HIDX := Lib.hid hidx
              clear hidx v1 v2 v3 hsl
              go_wp2_with fail
              go_roundw
              case rel =>
                refine ⟨at_ + m, i_ + 1, gs ++ ys, by omega, by go_num, by go_num, by omega, fun e => HIDX.out (by omega), ?_, hb16, ?_, A15, c15, A16, c16, HG16.out, by simp, ?_, by simpa using o15b, ?_⟩
                · rw [List.map_append, HGS.out, HYS.out, HS1.out]
                · have h1 : (gs ++ ys).map Fx.f = toldF st (at_ + m) := by rw [List.map_append, HGS.out, HYS.out, HS1.out]
                  have h2 := congrArg List.length h1
                  rw [List.length_map] at h2
                  have h3 := cutF_count _ (st.take (at_ + m)) (Nat.le_refl _)
                  rw [List.length_take] at h3
                  unfold toldF at h2
                  omega
                · rw [HS2.out, HU.out, HLD.out]
                · rw [HS2.out, HU.out]
                  exact o16
              case measure => simp [intOf]; omega
        · obtain rfl : at_ = fl := by omega
          obtain ⟨e1, e2⟩ := stream_end HALL.out
          have hst2 : flatF (L.map Fx.f) = st := HST.out
          rw [hst2, HFL.out] at e1 e2
          rw [e2] at o10 ⊢
          have hgs : gs.map Fx.f = L.map Fx.f := by rw [HGS.out, e1]
          have hly : gs.length = L.length := by have := congrArg List.length hgs; simpa using this
          have HMM := Lib.hid hgs
          have HLY := Lib.hid hly
          have oL := o2.below hbr
          rw [hly] at o9 ⊢
          have HLR2 : Hid (∀ x ∈ L, x.R wr) := fun x hx => (HLR.out x hx).1.below hbr
          have hb10 := bthen hb2' hbr
          clear e1 e2 hgs hly hst2
          go_wp2_with fail
          refine (l05_same A9 A' L.length c9 c' gs L _ o9.rd oL.rd HLY.out rfl (fun x hx => (HGR.out x hx).1.r) HLR2.out HMM.out (by omega)).mono ?_
          rintro e w12 ⟨rfl, ke, rfl⟩
          have hb12 := below_drewN hb10 ke
          generalize wr.drewN ke = w12 at *
          go_wp2_with fail
          refine (mbap_awake _).mono ?_
          rintro e w13 ⟨rfl, hb13⟩
          go_wp2_with fail
          go_ret
          exact ⟨rfl, bthen hb12 hb13⟩
end Go.Proofs.Ytheepgfafjinoaa
