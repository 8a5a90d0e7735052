/- The walks of mbap.Parse, saucierlaw06.Same, saucierlaw05.same. -/
import Derived.Test.YtheepgfafjinoaaMbapD
import Derived.Test.YtheepgfafjinoaaLow
import Derived.Deep.QuietTactic
import Derived.BigQuiet
namespace Go.Proofs.Ytheepgfafjinoaa
open Go.RowKit
set_option linter.unusedSimpArgs false
set_option linter.unusedVariables false

/-- the frame that bytes are -/
def parF (l : List Nat) : Bool := hasF l && decide (lenF l = l.length)

set_option maxHeartbeats 1000000 in
theorem mb_Parse_no (A : Option Addr) (n c : Nat) (l : List Nat) (w : World) (hA : Rd w A (bs l)) (hn : l.length = n) (hl : Bs l) (hm : n ≤ 1000000000) (hc : n ≤ c) (hno : parF l = false) :
    Calls Try.prog 30 #[.slice A n c] w fun e w' => e = .returned (.tuple #[frV 0 0 none 0 0, .int .i64 10]) ∧ Below w.heap.size w w' := by
  have HN := Lib.hid hn
  have hb1 := (Below.refl _ w).alloc (Nat.le_refl _) (.cells #[.int .u16 0, .int .u8 0, .slice none 0 0] 37)
  have bx := Blk.new w 37 #[.int .u16 0, .int .u8 0, .slice none 0 0]
  have hA1 := hA.alloc (.cells #[.int .u16 0, .int .u8 0, .slice none 0 0] 37)
  by_cases h : hasF l = true
  · have hne : lenF l ≠ n := by
      intro e
      unfold parF at hno
      rw [h, hn, decide_eq_true e] at hno
      cases hno
    have hh := hasF_len h
    obtain ⟨m, hm2⟩ : ∃ m, lenF l = m := ⟨_, rfl⟩
    have hf := mb_first_yes A n c l _ hA1 hn hl hm hc h
    rw [hm2] at hf hne hh
    have HF := Lib.hid hf
    have t1 : ((m : Int) == 0) = false := by simp; omega
    have t2 : ((m : Int) != (n : Int)) = true := by simp; omega
    clear hf hm2 hh hne hno h hn
    go_enter Try.func30, Try.ntmps30
    go_wp2_with fail
    refine HF.out.mono ?_
    rintro e w2 ⟨A2, c2, rfl, ho2, hb2⟩
    have bx2 := bx.all hb2
    obtain ⟨d0, d1, d2⟩ := bx2.c3
    have f0 := bx2.frozen 0
    have f1 := bx2.frozen 1
    have f2 := bx2.frozen 2
    have hlt := bx2.lt
    unfold frV
    go_wp2_with fail
    refine bodyPost_ret (v := .tuple #[frV 0 0 none 0 0, .int .i64 10]) (by simp [results, Try.results30, go_sem, frV, d0, d1, d2, hlt]) rfl ⟨rfl, ?_⟩
    have hbw := bthen hb1 hb2
    exact (bset3 hbw (Nat.le_refl _) _ _ _).alloc (bset3 hbw (Nat.le_refl _) _ _ _).size _
  · have hf := mb_first_no A n c l _ hA1 hn hl hm (by simpa using h)
    have HF := Lib.hid hf
    clear hf hno h hn
    go_enter Try.func30, Try.ntmps30
    go_wp2_with fail
    refine HF.out.mono ?_
    rintro e w2 ⟨rfl, hb2⟩
    have bx2 := bx.all hb2
    obtain ⟨d0, d1, d2⟩ := bx2.c3
    have f0 := bx2.frozen 0
    have f1 := bx2.frozen 1
    have f2 := bx2.frozen 2
    have hlt := bx2.lt
    unfold frV
    go_wp2_with fail
    refine bodyPost_ret (v := .tuple #[frV 0 0 none 0 0, .int .i64 10]) (by simp [results, Try.results30, go_sem, frV, d0, d1, d2, hlt]) rfl ⟨rfl, ?_⟩
    have hbw := bthen hb1 hb2
    exact (bset3 hbw (Nat.le_refl _) _ _ _).alloc (bset3 hbw (Nat.le_refl _) _ _ _).size _

set_option maxHeartbeats 1000000 in
theorem mb_Parse_yes (A : Option Addr) (n c : Nat) (l : List Nat) (w : World) (hA : Rd w A (bs l)) (hn : l.length = n) (hl : Bs l) (hm : n ≤ 1000000000) (hc : n ≤ c) (hyes : parF l = true) :
    Calls Try.prog 30 #[.slice A n c] w fun e w' => ∃ A' c', e = .returned (.tuple #[frV (fstF l).tx (fstF l).unit A' (n - 7) c', .int .i64 0]) ∧ Ow w' w.heap.size 5 A' c' (bs (fstF l).pdu) ∧ Below w.heap.size w w' := by
  have HN := Lib.hid hn
  have hb1 := (Below.refl _ w).alloc (Nat.le_refl _) (.cells #[.int .u16 0, .int .u8 0, .slice none 0 0] 37)
  have bx := Blk.new w 37 #[.int .u16 0, .int .u8 0, .slice none 0 0]
  have hA1 := hA.alloc (.cells #[.int .u16 0, .int .u8 0, .slice none 0 0] 37)
  unfold parF at hyes
  simp only [Bool.and_eq_true, decide_eq_true_eq] at hyes
  obtain ⟨h, he⟩ := hyes
  have hh := hasF_len h
  have hf := mb_first_yes A n c l _ hA1 hn hl hm hc h
  rw [he, hn] at hf hh
  have HF := Lib.hid hf
  have t1 : ((n : Int) == 0) = false := by simp; omega
  have t2 : ((n : Int) != (n : Int)) = false := by simp
  clear hf hh he h hn
  go_enter Try.func30, Try.ntmps30
  go_wp2_with fail
  refine HF.out.mono ?_
  rintro e w2 ⟨A2, c2, rfl, ho2, hb2⟩
  have bx2 := bx.all hb2
  obtain ⟨d0, d1, d2⟩ := bx2.c3
  have f0 := bx2.frozen 0
  have f1 := bx2.frozen 1
  have f2 := bx2.frozen 2
  have hlt := bx2.lt
  unfold frV
  go_wp2_with fail
  refine bodyPost_ret (v := .tuple #[frV (fstF l).tx (fstF l).unit A2 (n - 7) c2, .int .i64 0]) (by simp [results, Try.results30, go_sem, frV, d0, d1, d2, hlt]) rfl ⟨A2, c2, rfl, ?_, ?_⟩
  · have ho3 := ho2.base (B' := w.heap.size) (by simp)
    exact (ho3.set3 bx2 (by decide) _ _ _).alloc _
  · have hbw := bthen hb1 hb2
    exact (bset3 hbw (Nat.le_refl _) _ _ _).alloc (bset3 hbw (Nat.le_refl _) _ _ _).size _

set_option maxHeartbeats 400000 in
theorem l06_Same (A B : Option Addr) (n c m d : Nat) (l k : List Nat) (w : World) (hA : Rd w A (bs l)) (hB : Rd w B (bs k)) (hl : Bs l) (hk : Bs k) (hn : l.length = n) (hm : k.length = m) :
    Calls Try.prog 28 #[.slice A n c, .slice B m d] w fun e w' => e = .returned (.bool (sameB l k)) ∧ w = w' := by
  have c1 := conv_bytes w A n c l hA hn
  have c2 := conv_bytes w B m d k hB hm
  clear hn hm
  go_enter Try.func28, Try.ntmps28
  go_wp2
  go_ret
  exact ⟨by rw [← strN_same l k hl hk]; rfl, rfl⟩

/-- the cells of a row of frames -/
theorem Rd.fx {w : World} {A : Option Addr} {xs : List Fx} (h : Rd w A (fxs xs)) {j : Nat} (hj : j < xs.length) : ∃ b off x, A = some ⟨b, off, none⟩ ∧ xs[j]? = some x ∧
    w.cell? ⟨b, off + j * 3, none⟩ = some (.int .u16 (x.f.tx : Int)) ∧ w.cell? ⟨b, off + j * 3 + 1, none⟩ = some (.int .u8 (x.f.unit : Int)) ∧ w.cell? ⟨b, off + j * 3 + 2, none⟩ = some (.slice x.A x.f.pdu.length x.c) := by
  rcases h with h | ⟨b, off, hA, hc⟩
  · have := fxs_length xs
    rw [h] at this
    simp at this
    omega
  · have key : ∀ (l : List Fx) (j : Nat) (x : Fx), l[j]? = some x → (fxs l)[j * 3]? = some (.int .u16 (x.f.tx : Int)) ∧ (fxs l)[j * 3 + 1]? = some (.int .u8 (x.f.unit : Int)) ∧ (fxs l)[j * 3 + 2]? = some (.slice x.A x.f.pdu.length x.c) := by
      intro l
      induction l with
      | nil => intro j x h; simp at h
      | cons a l ih =>
        intro j x h
        cases j with
        | zero => simp at h; subst h; simp [fxs, Fx.cells]
        | succ j =>
          obtain ⟨h1, h2, h3⟩ := ih j x (by simpa using h)
          have e : fxs (a :: l) = a.cells ++ fxs l := by simp [fxs]
          have el : a.cells.length = 3 := rfl
          rw [e]
          refine ⟨?_, ?_, ?_⟩
          · rw [List.getElem?_append_right (by omega), el, show (j + 1) * 3 - 3 = j * 3 by omega]; exact h1
          · rw [List.getElem?_append_right (by omega), el, show (j + 1) * 3 + 1 - 3 = j * 3 + 1 by omega]; exact h2
          · rw [List.getElem?_append_right (by omega), el, show (j + 1) * 3 + 2 - 3 = j * 3 + 2 by omega]; exact h3
    obtain ⟨h1, h2, h3⟩ := key xs j xs[j] (List.getElem?_eq_getElem hj)
    exact ⟨b, off, xs[j], hA, List.getElem?_eq_getElem hj, hc _ _ h1, hc _ _ h2, hc _ _ h3⟩

/-- a frame's bytes lie where they should -/
structure Fx.R (x : Fx) (w : World) : Prop where
  rd : Rd w x.A (bs x.f.pdu)
  b : Bs x.f.pdu
theorem Fx.R.drewN {x : Fx} {w : World} (h : x.R w) (k : Nat) : x.R (w.drewN k) := ⟨h.rd, h.b⟩
theorem Fx.R.below {x : Fx} {w w' : World} (h : x.R w) (hb : Below w.heap.size w w') : x.R w' := ⟨h.rd.below hb, h.b⟩
theorem Fx.G.r {x : Fx} {w : World} {B : Nat} (h : x.G B w) : x.R w := ⟨h.ow.rd, h.ok.2.2⟩

set_option maxRecDepth 100000 in
set_option maxHeartbeats 2000000 in
theorem l05_same (A B : Option Addr) (n c d : Nat) (xs ys : List Fx) (w : World) (hA : Rd w A (fxs xs)) (hB : Rd w B (fxs ys)) (hn : xs.length = n) (hm : ys.length = n) (hx : ∀ x ∈ xs, x.R w) (hy : ∀ y ∈ ys, y.R w)
    (heq : xs.map Fx.f = ys.map Fx.f) (hbig : n ≤ 1000000) :
    Calls Try.prog 34 #[.slice A n c, .slice B n d] w fun e w' => e = .returned (.bool true) ∧ ∃ k, w' = w.drewN k := by
  have HN := Lib.hid hn
  have HM := Lib.hid hm
  have HX := Lib.hid hx
  have HY := Lib.hid hy
  have HE := Lib.hid heq
  have nn : ((n : Int) != (n : Int)) = false := by simp
  clear hn hm hx hy heq
  go_enter Try.func34, Try.ntmps34
  go_wp2_with fail
  go_loopw [13] (fun i wr => ∃ j : Nat, j ≤ n ∧ i = .int .i64 j ∧ ∃ k, wr = w.drewN k) (fun i _ => n - (intOf i).toNat)
  case atStart => exact ⟨0, by omega, rfl, 0, rfl⟩
  case round =>
    obtain ⟨j, hj, rfl, k, hk⟩ := hrel
    have HK := Lib.hid hk
    have hA1 : Rd wr A (fxs xs) := by rw [hk]; exact hA.drewN k
    have hB1 : Rd wr B (fxs ys) := by rw [hk]; exact hB.drewN k
    have HX1 : Hid (∀ x ∈ xs, x.R wr) := by (show ∀ _, _); intro x hx; rw [hk]; exact (HX.out x hx).drewN k
    have HY1 : Hid (∀ x ∈ ys, x.R wr) := by (show ∀ _, _); intro x hx; rw [hk]; exact (HY.out x hx).drewN k
    clear hk
    by_cases hlt : j < n
    · obtain ⟨b, off, x, rfl, hxj, x0, x1, x2⟩ := hA1.fx (j := j) (by rw [HN.out]; exact hlt)
      obtain ⟨b', off', y, rfl, hyj, y0, y1, y2⟩ := hB1.fx (j := j) (by rw [HM.out]; exact hlt)
      have hf : x.f = y.f := by
        have h1 : (xs.map Fx.f)[j]? = some x.f := by simp [hxj]
        rw [HE.out] at h1
        simp [hyj] at h1
        exact h1.symm
      have hxr := HX1.out x (List.mem_of_getElem? hxj)
      have hyr := HY1.out y (List.mem_of_getElem? hyj)
      clear hxj hyj
      rw [← hf] at y0 y1 y2
      have hyr2 : Rd wr y.A (bs x.f.pdu) := by rw [hf]; exact hyr.rd
      clear hf
      have t1 : ((x.f.tx : Int) != (x.f.tx : Int)) = false := by simp
      have t2 : ((x.f.unit : Int) != (x.f.unit : Int)) = false := by simp
      have t3 : (!sameB x.f.pdu x.f.pdu) = false := by rw [sameB_self]; rfl
      have hxl : x.f.pdu.length ≤ x.f.pdu.length := Nat.le_refl _
      have j0 : (0 : Int) ≤ (j : Int) := by omega
      have j1 : (j : Int) < (n : Int) := by omega
      obtain ⟨tx, htx⟩ : ∃ t, x.f.tx = t := ⟨_, rfl⟩
      obtain ⟨un, hun⟩ : ∃ t, x.f.unit = t := ⟨_, rfl⟩
      obtain ⟨pd, hpd⟩ : ∃ t, x.f.pdu = t := ⟨_, rfl⟩
      obtain ⟨r1, r2⟩ := hxr
      rw [htx] at x0 y0 t1
      rw [hun] at x1 y1 t2
      rw [hpd] at x2 y2 t3 r1 r2 hyr2
      clear hyr htx hun hpd hxl
      go_wp2_with fail
      go_quiet ((go_at_call 28; exact Calls.quiet_of_same ((l06_Same x.A y.A pd.length x.c pd.length y.c pd pd _ (by exact r1) (by exact hyr2) r2 r2 rfl rfl).mono fun e w' ⟨he, hw⟩ => ⟨he, hw.symm⟩)))
      go_wp2_with fail
      go_roundw
      case rel => exact ⟨j + 1, by omega, by go_num, k + nq, by rw [HK.out, World.drewN_drewN]⟩
      case measure => simp [intOf]; omega
    · obtain rfl : j = n := by omega
      go_wp2_with fail
      go_ret
      exact ⟨rfl, k, HK.out⟩
end Go.Proofs.Ytheepgfafjinoaa
