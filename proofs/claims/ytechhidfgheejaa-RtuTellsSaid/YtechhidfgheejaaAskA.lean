/- Requests, plainly; the walks of ask.within and ask.Right. -/
import Derived.Test.YtechhidfgheejaaAskShape
import Derived.Test.YtechhidfgheejaaTyW
import Derived.Test.YtechhidfgheejaaTyO
import Derived.Test.YtechhidfgheejaaTyB
namespace Go.Proofs.Ytechhidfgheejaa
open Go.RowKit
set_option linter.unusedSimpArgs false
set_option linter.unusedVariables false

/-- a request -/
structure Ak where
  fn : Nat
  at_ : Nat
  many : Nat
  to_ : Nat
  words : List Nat
  bits : List Bool
deriving DecidableEq
def Ak.zero : Ak := ⟨0, 0, 0, 0, [], []⟩
structure Ak.ok (a : Ak) : Prop where
  fn : a.fn < 256
  at_ : a.at_ < 65536
  many : a.many < 65536
  to_ : a.to_ < 65536
  words : Ws a.words
/-- not too much -/
def Ak.few (a : Ak) : Bool := decide (a.words.length ≤ 200) && decide (a.bits.length ≤ 2100)
def akV (f t m o : Nat) (A : Option Addr) (n c : Nat) (B : Option Addr) (k d : Nat) : Value := .agg #[.int .u8 (f : Int), .int .u16 (t : Int), .int .u16 (m : Int), .int .u16 (o : Int), .slice A n c, .slice B k d]
def wtn (n m : Nat) : Bool := if m = 0 then decide (n = 0) else decide (1 ≤ n ∧ n ≤ m)
def rightN (f mn o nw nb : Nat) : Bool :=
  isFn f && ((shp f).to_ || decide (o = 0)) && wtn mn (shp f).many && wtn nb (shp f).bits && wtn nw (shp f).words && (!(shp f).each || decide (nb + nw = mn))
def rightA (a : Ak) : Bool := rightN a.fn a.many a.to_ a.words.length a.bits.length
theorem ret_bool {a b : Bool} (h : a = b) : Ending.returned (.bool a) = .returned (.bool b) := by rw [h]

set_option maxHeartbeats 400000 in
theorem ask_within (n m : Nat) (w : World) (hn : n ≤ 1000000000000) (hm : m ≤ 1000000000000) :
    Calls Try.prog 77 #[.int .i64 (n : Int), .int .i64 (m : Int)] w fun e w' => e = .returned (.bool (wtn n m)) ∧ w = w' := by
  by_cases h0 : m = 0
  · have HT : Hid (wtn n m = decide (n = 0)) := by (show _ = _); unfold wtn; rw [if_pos h0]
    have t0 : ((m : Int) == 0) = true := by simp [h0]
    by_cases hn0 : n = 0
    · have t1 : ((n : Int) == 0) = true := by simp [hn0]
      have HV : Hid (wtn n m = true) := by (show _ = _); rw [HT.out]; simp [hn0]
      clear h0 hn0
      go_enter Try.func77, Try.ntmps77
      go_wp2_with fail
      go_ret
      exact ⟨ret_bool HV.out.symm, rfl⟩
    · have t1 : ((n : Int) == 0) = false := by simp; omega
      have HV : Hid (wtn n m = false) := by (show _ = _); rw [HT.out]; simp [hn0]
      clear h0 hn0
      go_enter Try.func77, Try.ntmps77
      go_wp2_with fail
      go_ret
      exact ⟨ret_bool HV.out.symm, rfl⟩
  · have HT : Hid (wtn n m = decide (1 ≤ n ∧ n ≤ m)) := by (show _ = _); unfold wtn; rw [if_neg h0]
    have t0 : ((m : Int) == 0) = false := by simp; omega
    by_cases h1 : 1 ≤ n
    · have t1 : decide ((1 : Int) ≤ (n : Int)) = true := decide_eq_true (by omega)
      by_cases h2 : n ≤ m
      · have t2 : decide ((n : Int) ≤ (m : Int)) = true := decide_eq_true (by omega)
        have t3 : decide (n ≤ m) = true := decide_eq_true (by omega)
        have HV : Hid (wtn n m = true) := by (show _ = _); rw [HT.out]; simp; omega
        clear h0
        go_enter Try.func77, Try.ntmps77
        go_wp2_with fail
        go_ret
        exact ⟨ret_bool HV.out.symm, rfl⟩
      · have t2 : decide ((n : Int) ≤ (m : Int)) = false := decide_eq_false (by omega)
        have t3 : decide (n ≤ m) = false := decide_eq_false (by omega)
        have HV : Hid (wtn n m = false) := by (show _ = _); rw [HT.out]; simp; omega
        clear h0
        go_enter Try.func77, Try.ntmps77
        go_wp2_with fail
        go_ret
        exact ⟨ret_bool HV.out.symm, rfl⟩
    · have t1 : decide ((1 : Int) ≤ (n : Int)) = false := decide_eq_false (by omega)
      have HV : Hid (wtn n m = false) := by (show _ = _); rw [HT.out]; simp; omega
      clear h0
      go_enter Try.func77, Try.ntmps77
      go_wp2_with fail
      go_ret
      exact ⟨ret_bool HV.out.symm, rfl⟩

theorem shp_le (f : Nat) : (shp f).many ≤ 2000 ∧ (shp f).bits ≤ 2000 ∧ (shp f).words ≤ 2000 := by
  unfold shp
  repeat' split
  all_goals decide

set_option maxRecDepth 100000 in
set_option maxHeartbeats 4000000 in
theorem ask_Right (f t mn o : Nat) (A : Option Addr) (n c : Nat) (B : Option Addr) (k d : Nat) (w : World) (hf : f < 256) (hmn : mn < 65536) (ho : o < 65536) (hn : n ≤ 1000000) (hk : k ≤ 1000000) :
    Calls Try.prog 24 #[akV f t mn o A n c B k d] w fun e w' => e = .returned (.bool (rightN f mn o n k)) ∧ Below w.heap.size w w' := by
  have hb1 := (Below.refl _ w).alloc (Nat.le_refl _) (.cells #[.int .u8 (f : Int), .int .u16 (t : Int), .int .u16 (mn : Int), .int .u16 (o : Int), .slice A n c, .slice B k d] 41)
  have bx1 := Blk.new w 41 #[.int .u8 (f : Int), .int .u16 (t : Int), .int .u16 (mn : Int), .int .u16 (o : Int), .slice A n c, .slice B k d]
  have HR : Hid (rightN f mn o n k = (isFn f && ((shp f).to_ || decide (o = 0)) && wtn mn (shp f).many && wtn k (shp f).bits && wtn n (shp f).words && (!(shp f).each || decide (k + n = mn)))) := rfl
  have hle := shp_le f
  have hsh := ask_shape f (w.alloc (.cells #[.int .u8 (f : Int), .int .u16 (t : Int), .int .u16 (mn : Int), .int .u16 (o : Int), .slice A n c, .slice B k d] 41)) hf
  obtain ⟨⟨s0, s1, s2, s3, s4⟩, hs⟩ : ∃ s, shp f = s := ⟨_, rfl⟩
  obtain ⟨fn, hfn⟩ : ∃ fn, isFn f = fn := ⟨_, rfl⟩
  rw [hs, hfn] at HR hsh
  rw [hs] at hle
  unfold Shp.val at hsh
  simp only at HR hsh hle
  obtain ⟨b1, hB1⟩ : ∃ b, wtn mn s0 = b := ⟨_, rfl⟩
  obtain ⟨b2, hB2⟩ : ∃ b, wtn k s1 = b := ⟨_, rfl⟩
  obtain ⟨b3, hB3⟩ : ∃ b, wtn n s2 = b := ⟨_, rfl⟩
  rw [hB1, hB2, hB3] at HR
  have c1 := fun W => ask_within mn s0 W (by omega) (by omega)
  have c2 := fun W => ask_within k s1 W (by omega) (by omega)
  have c3 := fun W => ask_within n s2 W (by omega) (by omega)
  rw [hB1] at c1
  rw [hB2] at c2
  rw [hB3] at c3
  have C1 := Lib.hid c1
  have C2 := Lib.hid c2
  have C3 := Lib.hid c3
  have HSH := Lib.hid hsh
  obtain ⟨l0, l1, l2⟩ := hle
  clear c1 c2 c3 hsh hs hfn hB1 hB2 hB3
  unfold akV
  obtain ⟨x0, hx0⟩ : ∃ b, decide (o = 0) = b := ⟨_, rfl⟩
  obtain ⟨x1, hx1⟩ : ∃ b, decide (k + n = mn) = b := ⟨_, rfl⟩
  rw [hx0, hx1] at HR
  have t0 : ((o : Int) != 0) = !x0 := by rw [← hx0]; by_cases h : o = 0 <;> simp [h] <;> omega
  have t1 : ((k : Int) + (n : Int) == (mn : Int)) = x1 := by rw [← hx1]; by_cases h : k + n = mn <;> simp [h] <;> omega
  clear hx0 hx1
  go_enter Try.func24, Try.ntmps24
  go_wp2_with fail
  refine HSH.out.mono ?_
  rintro e w2 ⟨rfl, hb2⟩
  have hb2' := bthen hb1 hb2
  have bx2 := bx1.all hb2
  clear HSH hb2 bx1 hb1
  go_upto_region 2 with fail
  have hb3 := hb2'.alloc hb2'.size (.cells #[.int .i64 (s0 : Int), .int .i64 (s1 : Int), .int .i64 (s2 : Int), .bool s3, .bool s4] 92)
  have bx3 := bx2.alloc (.cells #[.int .i64 (s0 : Int), .int .i64 (s1 : Int), .int .i64 (s2 : Int), .bool s3, .bool s4] 92)
  have by3 := Blk.new w2 92 #[.int .i64 (s0 : Int), .int .i64 (s1 : Int), .int .i64 (s2 : Int), .bool s3, .bool s4]
  generalize w2.alloc (.cells #[.int .i64 (s0 : Int), .int .i64 (s1 : Int), .int .i64 (s2 : Int), .bool s3, .bool s4] 92) = w3 at *
  obtain ⟨d0, d1, d2, d3, d4, d5⟩ := bx3.c6
  obtain ⟨e0, e1, e2, e3, e4⟩ := by3.c5
  clear hb2' bx2 bx3 by3
  cases fn with
  | false =>
    go_wp2_with fail
    go_ret
    exact ⟨ret_bool (by rw [HR.out]; rfl), hb3⟩
  | true =>
    have HR2 : Hid (rightN f mn o n k = ((s3 || x0) && b1 && b2 && b3 && (!s4 || x1))) := by (show _ = _); rw [HR.out]; rfl
    clear HR
    have key : (s3 || x0) = false ∨ (s3 || x0) = true := by cases s3 <;> cases x0 <;> simp
    rcases key with hk0 | hk0
    · have hs3 : s3 = false := by cases s3 <;> simp_all
      have hx : x0 = false := by cases x0 <;> simp_all
      subst hs3 hx
      go_wp2_with fail
      go_ret
      exact ⟨ret_bool (by rw [HR2.out]; rfl), hb3⟩
    · have HR3 : Hid (rightN f mn o n k = (b1 && b2 && b3 && (!s4 || x1))) := by (show _ = _); rw [HR2.out, hk0]; rfl
      clear HR2
      have key2 : s3 = true ∨ (s3 = false ∧ x0 = true) := by cases s3 <;> cases x0 <;> simp_all
      clear hk0
      rcases key2 with rfl | ⟨rfl, rfl⟩
      all_goals
        go_wp2_with fail
        refine (C1.out _).mono ?_
        rintro e w4 ⟨rfl, rfl⟩
        cases b1 with
        | false =>
          go_wp2_with fail
          go_ret
          exact ⟨ret_bool (by rw [HR3.out]; rfl), hb3⟩
        | true =>
          go_wp2_with fail
          refine (C2.out _).mono ?_
          rintro e w4 ⟨rfl, rfl⟩
          cases b2 with
          | false =>
            go_wp2_with fail
            go_ret
            exact ⟨ret_bool (by rw [HR3.out]; rfl), hb3⟩
          | true =>
            go_wp2_with fail
            refine (C3.out _).mono ?_
            rintro e w4 ⟨rfl, rfl⟩
            cases b3 with
            | false =>
              go_wp2_with fail
              go_ret
              exact ⟨ret_bool (by rw [HR3.out]; rfl), hb3⟩
            | true =>
              cases s4 with
              | false =>
                go_wp2_with fail
                go_ret
                exact ⟨ret_bool (by rw [HR3.out]; rfl), hb3⟩
              | true =>
                go_wp2_with fail
                go_ret
                exact ⟨ret_bool (by rw [HR3.out]; simp), hb3⟩
end Go.Proofs.Ytechhidfgheejaa
