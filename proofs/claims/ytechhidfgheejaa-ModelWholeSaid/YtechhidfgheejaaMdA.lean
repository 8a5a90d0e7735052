/- Areas in memory; the walk of model.meet. -/
import Derived.Test.YtechhidfgheejaaMdPlain
import Derived.IntWalk
namespace Go.Proofs.Ytechhidfgheejaa
open Go.RowKit
set_option linter.unusedSimpArgs false
set_option linter.unusedVariables false

/-- numbers of an area, of 64 bits -/
structure Ar.ok (x : Ar) : Prop where
  a1 : -9223372036854775808 ≤ x.at_
  a2 : x.at_ ≤ 9223372036854775807
  m1 : -9223372036854775808 ≤ x.many
  m2 : x.many ≤ 9223372036854775807
def Ar.cells (x : Ar) : List Value := [.int .i64 x.at_, .int .i64 x.many, .bool x.rd, .bool x.wr, .bool x.whole]
def Ar.v (x : Ar) : Value := .agg #[.int .i64 x.at_, .int .i64 x.many, .bool x.rd, .bool x.wr, .bool x.whole]
def ars (l : List Ar) : List Value := l.flatMap Ar.cells
theorem ars_length (l : List Ar) : (ars l).length = l.length * 5 := by
  induction l with
  | nil => rfl
  | cons a l ih => simp only [ars, List.flatMap_cons, List.length_append, List.length_cons] at *; simp [Ar.cells, ih]; omega
theorem ars_at : ∀ (l : List Ar) (j : Nat) (x : Ar) (k : Nat), l[j]? = some x → k < 5 → (ars l)[j * 5 + k]? = x.cells[k]? := by
  intro l
  induction l with
  | nil => intro j x k h; simp at h
  | cons a l ih =>
    intro j x k h hk
    have e : ars (a :: l) = a.cells ++ ars l := by simp [ars]
    have el : a.cells.length = 5 := rfl
    rw [e]
    cases j with
    | zero => simp at h; subst h; rw [List.getElem?_append_left (by omega)]; simp
    | succ j => rw [List.getElem?_append_right (by omega), el, show (j + 1) * 5 + k - 5 = j * 5 + k by omega]; exact ih j x k (by simpa using h) hk
theorem Rd.ar {w : World} {A : Option Addr} {xs : List Ar} (h : Rd w A (ars xs)) {j : Nat} (hj : j < xs.length) : ∃ b off x, A = some ⟨b, off, none⟩ ∧ xs[j]? = some x ∧
    w.cell? ⟨b, off + j * 5, none⟩ = some (.int .i64 x.at_) ∧ w.cell? ⟨b, off + j * 5 + 1, none⟩ = some (.int .i64 x.many) ∧ w.cell? ⟨b, off + j * 5 + 2, none⟩ = some (.bool x.rd) ∧ w.cell? ⟨b, off + j * 5 + 3, none⟩ = some (.bool x.wr) ∧ w.cell? ⟨b, off + j * 5 + 4, none⟩ = some (.bool x.whole) := by
  rcases h with h | ⟨b, off, hA, hc⟩
  · have := ars_length xs
    rw [h] at this
    simp at this
    omega
  · have key := fun k hk => ars_at xs j xs[j] k (List.getElem?_eq_getElem hj) hk
    exact ⟨b, off, xs[j], hA, List.getElem?_eq_getElem hj, hc _ _ (key 0 (by omega)), hc _ _ (key 1 (by omega)), hc _ _ (key 2 (by omega)), hc _ _ (key 3 (by omega)), hc _ _ (key 4 (by omega))⟩
/-- the addresses from t on, before e, that an area has -/
def meetF (x : Ar) (t e : Int) : Int × Int := if x.many < 1 ∨ e ≤ x.at_ then (t, t) else (max t x.at_, min e (x.at_ + x.many))
theorem ret_two {a b c d : Int} (h : a = c) (k : b = d) : Ending.returned (.tuple #[.int .i64 a, .int .i64 b]) = .returned (.tuple #[.int .i64 c, .int .i64 d]) := by rw [h, k]

set_option maxRecDepth 100000 in
set_option maxHeartbeats 2000000 in
theorem md_meet (x : Ar) (t e : Int) (w : World) (hx : x.ok) (ht : 0 ≤ t) (ht2 : t ≤ 200000) (he : 0 ≤ e) (he2 : e ≤ 400000) :
    Calls Try.prog 126 #[x.v, .int .i64 t, .int .i64 e] w fun en w' => en = .returned (.tuple #[.int .i64 (meetF x t e).1, .int .i64 (meetF x t e).2]) ∧ Below w.heap.size w w' := by
  obtain ⟨a, m, r1, r2, r3⟩ := x
  obtain ⟨b1, b2, b3, b4⟩ := hx
  simp only at b1 b2 b3 b4
  have HM : Hid (meetF ⟨a, m, r1, r2, r3⟩ t e = if m < 1 ∨ e ≤ a then (t, t) else (max t a, min e (a + m))) := rfl
  generalize meetF ⟨a, m, r1, r2, r3⟩ t e = p at *
  unfold Ar.v
  simp only
  have hb := (Below.refl _ w).alloc (Nat.le_refl _) (.cells #[.int .i64 a, .int .i64 m, .bool r1, .bool r2, .bool r3] 66)
  have bx := Blk.new w 66 #[.int .i64 a, .int .i64 m, .bool r1, .bool r2, .bool r3]
  go_enter Try.func126, Try.ntmps126
  go_upto_region 1 with fail
  generalize w.alloc (.cells #[.int .i64 a, .int .i64 m, .bool r1, .bool r2, .bool r3] 66) = w1 at *
  obtain ⟨d0, d1, d2, d3, d4⟩ := bx.c5
  by_cases c1 : m < 1
  · have HP : Hid (p = (t, t)) := by (show _ = _); rw [HM.out, if_pos (.inl c1)]
    go_wp2_with fail
    go_ret2
    exact ⟨ret_two (by rw [HP.out]) (by rw [HP.out]), hb⟩
  by_cases c2 : e ≤ a
  · have HP : Hid (p = (t, t)) := by (show _ = _); rw [HM.out, if_pos (.inr c2)]
    have v1 : decide (m < 1) = false := decide_eq_false c1
    have v2 : decide (e ≤ a) = true := decide_eq_true c2
    go_wp2_with fail
    go_ret2
    exact ⟨ret_two (by rw [HP.out]) (by rw [HP.out]), hb⟩
  have HP : Hid (p = (max t a, min e (a + m))) := by (show _ = _); rw [HM.out, if_neg (by omega)]
  have v1 : decide (m < 1) = false := decide_eq_false c1
  have v2 : decide (e ≤ a) = false := decide_eq_false c2
  by_cases c3 : a < 0
  · have hw : IntKind.i64.wrap (a + m) = a + m := IntWalk.i64_in _ (by omega)
    have v3 : decide (a < 0) = true := decide_eq_true c3
    go_wp2_with fail
    all_goals
      go_ret2
      exact ⟨ret_two (by rw [HP.out]; simp only; omega) (by rw [HP.out]; simp only; omega), hb⟩
  · have v3 : decide (a < 0) = false := decide_eq_false c3
    by_cases c4 : m < e - a
    · have hw : IntKind.i64.wrap (a + m) = a + m := IntWalk.i64_in _ (by omega)
      have v4 : decide (m < e - a) = true := decide_eq_true c4
      go_wp2_with fail
      all_goals
        go_ret2
        exact ⟨ret_two (by rw [HP.out]; simp only; omega) (by rw [HP.out]; simp only; omega), hb⟩
    · have v4 : decide (m < e - a) = false := decide_eq_false c4
      go_wp2_with fail
      all_goals
        go_ret2
        exact ⟨ret_two (by rw [HP.out]; simp only; omega) (by rw [HP.out]; simp only; omega), hb⟩
end Go.Proofs.Ytechhidfgheejaa
