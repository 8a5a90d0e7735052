/- The plain law of an area that is written as a whole. -/
import Derived.Test.YtechhidfgheejaaMdLawB
namespace Go.Proofs.Ytechhidfgheejaa
open Go.RowKit
set_option linter.unusedSimpArgs false
set_option linter.unusedVariables false

def whS (A M : Nat) (wr wh : Bool) : Sp := ⟨[], [], [⟨(A : Int), (M : Int), true, wr, wh⟩], []⟩
def whM (n : Nat) : Mm := ⟨[], [], List.replicate n 0, []⟩
def upTo (c : Nat) : List Nat := (List.range c).map (· + 1)
theorem upTo_len (c : Nat) : (upTo c).length = c := by simp [upTo]
def whAk (k c : Nat) : Ak := ⟨16, k, c, 0, upTo c, []⟩
def whAk1 (k : Nat) : Ak := ⟨6, k, 0, 0, [1], []⟩
theorem wh_right {A M n : Nat} {wr wh : Bool} (h1 : A + M ≤ n) (hM : 1 ≤ M) (hn : n ≤ 65536) : rightSM (whS A M wr wh) (whM n) = true := by
  unfold rightSM rightT whS whM
  simp only [List.length_replicate, areasR, List.length_nil, Bool.and_true, Bool.false_and, Bool.not_false, Bool.and_eq_true, decide_eq_true_eq, Bool.not_eq_true', decide_eq_false_iff_not]
  refine ⟨⟨⟨by omega, by omega⟩, ⟨hn, ?_⟩⟩, by omega⟩
  omega
theorem wh_each {A M k c : Nat} {wr wh : Bool} {want : Ar → Bool} (hc : 1 ≤ c) : eachA (whS A M wr wh).holding k c want = (decide (A ≤ k) && decide (k + c ≤ A + M) && want ⟨(A : Int), (M : Int), true, wr, wh⟩) := by
  rw [Bool.eq_iff_iff, eachA_iff]
  have hg : ∀ i, goodAt (whS A M wr wh).holding k want i = (hasAt k i ⟨(A : Int), (M : Int), true, wr, wh⟩ && want ⟨(A : Int), (M : Int), true, wr, wh⟩) := by
    intro i
    unfold goodAt whS
    simp only [List.find?_cons, List.find?_nil]
    cases hasAt k i ⟨(A : Int), (M : Int), true, wr, wh⟩ <;> simp
  have hh : ∀ i, hasAt k i ⟨(A : Int), (M : Int), true, wr, wh⟩ = true ↔ A ≤ k + i ∧ k + i < A + M := by
    intro i
    unfold hasAt
    rw [Ar.has_iff]
    simp only
    omega
  simp only [hg, Bool.and_eq_true, decide_eq_true_eq, hh]
  constructor
  · intro h
    have h0 := h 0 (by omega)
    have h9 := h (c - 1) (by omega)
    exact ⟨⟨by omega, by omega⟩, h0.2⟩
  · intro h i hi
    exact ⟨by omega, h.2⟩
def whOk (A M : Nat) (wr wh : Bool) (k c : Nat) : Bool := wr && decide (A ≤ k) && decide (k + c ≤ A + M) && (!wh || (decide (k = A) && decide (c = M)))
def whOne (A M : Nat) (wr wh : Bool) (k : Nat) : Bool := wr && decide (A ≤ k) && decide (k < A + M) && (!wh || decide (M = 1))
theorem wh_check {A M k c : Nat} {wr wh : Bool} (hc : 1 ≤ c) (hc2 : c ≤ 100) : checkN (whS A M wr wh) (whAk k c) = if whOk A M wr wh k c then 0 else 2 := by
  have hr : rightA (whAk k c) = true := by
    unfold rightA rightN whAk
    simp [isFn, shp, wtn, upTo_len]
    omega
  have h1 : readBad (whS A M wr wh) (whAk k c) = false := rfl
  have h2 : writeBad (whS A M wr wh) (whAk k c) = !whOk A M wr wh k c := by
    have e : writeBad (whS A M wr wh) (whAk k c) = !eachA (whS A M wr wh).holding k (targetM (whAk k c)) (wantW k (targetM (whAk k c))) := rfl
    have et : targetM (whAk k c) = c := by unfold targetM whAk; simp [upTo_len]
    rw [e, et, wh_each hc]
    have d1 : decide ((A : Int) = (k : Int)) = decide (k = A) := by rw [decide_eq_decide]; omega
    have d2 : decide ((M : Int) = (c : Int)) = decide (c = M) := by rw [decide_eq_decide]; omega
    congr 1
    unfold wantW whOk
    simp only
    rw [d1, d2]
    generalize decide (A ≤ k) = q1
    generalize decide (k + c ≤ A + M) = q2
    generalize decide (k = A) = q3
    generalize decide (c = M) = q4
    cases wr <;> cases wh <;> cases q1 <;> cases q2 <;> cases q3 <;> cases q4 <;> rfl
  unfold checkN
  rw [hr, h1, h2]
  cases whOk A M wr wh k c <;> rfl
theorem wh_check1 {A M k : Nat} {wr wh : Bool} : checkN (whS A M wr wh) (whAk1 k) = if whOne A M wr wh k then 0 else 2 := by
  have hr : rightA (whAk1 k) = true := by
    unfold rightA rightN whAk1
    simp [isFn, shp, wtn]
  have h1 : readBad (whS A M wr wh) (whAk1 k) = false := rfl
  have h2 : writeBad (whS A M wr wh) (whAk1 k) = !whOne A M wr wh k := by
    have e : writeBad (whS A M wr wh) (whAk1 k) = !eachA (whS A M wr wh).holding k 1 (wantW k 1) := rfl
    rw [e, wh_each (by omega)]
    congr 1
    unfold wantW whOne
    simp only
    rw [Bool.eq_iff_iff]
    cases wr <;> cases wh <;> simp only [Bool.and_eq_true, Bool.or_eq_true, decide_eq_true_eq, Bool.not_true, Bool.not_false, Bool.true_and, Bool.false_and, Bool.and_false, Bool.true_or, Bool.false_or, Bool.and_true]
    all_goals omega
  unfold checkN
  rw [hr, h1, h2]
  cases whOne A M wr wh k <;> rfl
theorem putAt_ne {n t : Nat} {l : List Nat} (h0 : 0 < l.length) (hf : t + l.length ≤ n) (hl : ∀ x ∈ l, x ≠ 0) : putAt (List.replicate n 0) t l ≠ List.replicate n 0 := by
  intro e
  have hx : (putAt (List.replicate n 0) t l)[t]? = l[0]? := by
    unfold putAt
    rw [List.append_assoc, List.getElem?_append_right (by rw [List.length_take, List.length_replicate]; omega), List.length_take, List.length_replicate, Nat.min_eq_left (by omega), Nat.sub_self, List.getElem?_append_left (by omega)]
  rw [e, List.getElem?_replicate, if_pos (by omega), List.getElem?_eq_getElem h0] at hx
  injection hx with hx
  exact hl _ (List.getElem_mem h0) hx.symm
theorem wh_do {A M n k c : Nat} {wr wh : Bool} (h1 : A + M ≤ n) (hM : 1 ≤ M) (hn : n ≤ 65536) (hc : 1 ≤ c) (hc2 : c ≤ 100) :
    (decide ((doM (whS A M wr wh) (whM n) (whAk k c)).2.ex = 0) = whOk A M wr wh k c) ∧ sameM (doM (whS A M wr wh) (whM n) (whAk k c)).1 (whM n) = !whOk A M wr wh k c := by
  have hr := wh_right (wr := wr) (wh := wh) h1 hM hn
  have hx := doM_ex (whS A M wr wh) (whM n) (whAk k c)
  rw [wh_check hc hc2, hr] at hx
  cases hok : whOk A M wr wh k c with
  | false =>
    rw [hok] at hx
    have hx2 : (doM (whS A M wr wh) (whM n) (whAk k c)).2.ex = 2 := hx
    refine ⟨by rw [hx2]; rfl, ?_⟩
    rw [doM_bad (by rw [hx2]; decide), sameM_self]
    rfl
  | true =>
    rw [hok] at hx
    have hx2 : (doM (whS A M wr wh) (whM n) (whAk k c)).2.ex = 0 := hx
    refine ⟨by rw [hx2]; rfl, ?_⟩
    obtain ⟨z1, z2, z3⟩ := doM_ok hx2
    have hfit := ((writeBad_fit (checkN_zero z1).1 z2 (checkN_zero z1).2.2).2 rfl).1
    have hfit : k + c ≤ n := by
      have e : (whM n).holding.length = n := by simp [whM]
      have e2 : (whAk k c).words.length = c := upTo_len c
      rw [e, e2] at hfit
      exact hfit
    rw [z3]
    have hw : writtenM (whM n) (whAk k c) = { whM n with holding := putAt (List.replicate n 0) k (upTo c) } := rfl
    rw [hw, sameM_eq, decide_eq_false]
    · rfl
    · intro e
      have e' : putAt (List.replicate n 0) k (upTo c) = List.replicate n 0 := congrArg Mm.holding e
      exact putAt_ne (by rw [upTo_len]; omega) (by rw [upTo_len]; omega) (by intro x hx; simp [upTo] at hx; omega) e'
theorem wh_do1 {A M n k : Nat} {wr wh : Bool} (h1 : A + M ≤ n) (hM : 1 ≤ M) (hn : n ≤ 65536) :
    (decide ((doM (whS A M wr wh) (whM n) (whAk1 k)).2.ex = 0) = whOne A M wr wh k) ∧ sameM (doM (whS A M wr wh) (whM n) (whAk1 k)).1 (whM n) = !whOne A M wr wh k := by
  have hr := wh_right (wr := wr) (wh := wh) h1 hM hn
  have hx := doM_ex (whS A M wr wh) (whM n) (whAk1 k)
  rw [wh_check1, hr] at hx
  cases hok : whOne A M wr wh k with
  | false =>
    rw [hok] at hx
    have hx2 : (doM (whS A M wr wh) (whM n) (whAk1 k)).2.ex = 2 := hx
    refine ⟨by rw [hx2]; rfl, ?_⟩
    rw [doM_bad (by rw [hx2]; decide), sameM_self]
    rfl
  | true =>
    rw [hok] at hx
    have hx2 : (doM (whS A M wr wh) (whM n) (whAk1 k)).2.ex = 0 := hx
    refine ⟨by rw [hx2]; rfl, ?_⟩
    obtain ⟨z1, z2, z3⟩ := doM_ok hx2
    have hfit := ((writeBad_fit (checkN_zero z1).1 z2 (checkN_zero z1).2.2).2 rfl).1
    have hfit : k + 1 ≤ n := by
      have e : (whM n).holding.length = n := by simp [whM]
      rw [e] at hfit
      exact hfit
    rw [z3]
    have hw : writtenM (whM n) (whAk1 k) = { whM n with holding := putAt (List.replicate n 0) k [1] } := rfl
    rw [hw, sameM_eq, decide_eq_false]
    · rfl
    · intro e
      have e' : putAt (List.replicate n 0) k [1] = List.replicate n 0 := congrArg Mm.holding e
      exact putAt_ne (by simp) (by simpa using hfit) (by intro x hx; simp at hx; omega) e'
end Go.Proofs.Ytechhidfgheejaa
