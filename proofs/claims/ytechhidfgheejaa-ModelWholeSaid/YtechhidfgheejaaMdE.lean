/- Whether each address has an area that is as wanted: plainly, as the code goes. -/
import Derived.Test.YtechhidfgheejaaMdA
namespace Go.Proofs.Ytechhidfgheejaa
set_option linter.unusedSimpArgs false
set_option linter.unusedVariables false

theorem find_here {α : Type} (p : α → Bool) : ∀ (l : List α) (k : Nat) (x : α), l[k]? = some x → (l.take k).any p = false → p x = true → l.find? p = some x := by
  intro l
  induction l with
  | nil => intro k x h; simp at h
  | cons a l ih =>
    intro k x h h1 h2
    cases k with
    | zero => simp at h; subst h; simp [h2]
    | succ k =>
      simp only [List.take_succ_cons, List.any_cons, Bool.or_eq_false_iff] at h1
      rw [List.find?_cons, h1.1]
      exact ih k x (by simpa using h) h1.2 h2
theorem any_find {α : Type} (p : α → Bool) (l : List α) (h : l.any p = false) : l.find? p = none := by
  rw [List.find?_eq_none]
  intro x hx
  rw [List.any_eq_false] at h
  exact h x hx
def hasAt (t i : Nat) (x : Ar) : Bool := x.has ((t + i : Nat) : Int)
def goodAt (l : List Ar) (t : Nat) (want : Ar → Bool) (i : Nat) : Bool := ((l.find? (hasAt t i)).map want).getD false
theorem eachA_eq (l : List Ar) (t m : Nat) (want : Ar → Bool) : eachA l t m want = (List.range m).all (goodAt l t want) := rfl
/-- what is known of the addresses behind k areas -/
structure EachI (l : List Ar) (t m : Nat) (want : Ar → Bool) (k : Nat) (met : List Bool) (left : Nat) : Prop where
  len : met.length = m
  cnt : left = met.count false
  get : ∀ i, i < m → met[i]? = some ((l.take k).any (hasAt t i))
  good : ∀ i, i < m → met[i]? = some true → goodAt l t want i = true
/-- in the midst of area k: those from lo on, before j -/
structure EachJ (l : List Ar) (t m : Nat) (want : Ar → Bool) (k lo j : Nat) (met : List Bool) (left : Nat) : Prop where
  len : met.length = m
  cnt : left = met.count false
  get : ∀ i, i < m → met[i]? = some ((l.take k).any (hasAt t i) || (decide (lo ≤ i) && decide (i < j)))
  good : ∀ i, i < m → met[i]? = some true → goodAt l t want i = true
section
variable {l : List Ar} {t m k lo j left : Nat} {want : Ar → Bool} {met : List Bool} {x : Ar}
theorem EachI.zero : EachI l t m want 0 (List.replicate m false) m := by
  refine ⟨by simp, by simp, fun i hi => ?_, fun i hi h => ?_⟩
  · rw [List.getElem?_replicate, if_pos hi]; simp
  · rw [List.getElem?_replicate, if_pos hi] at h; cases h
theorem EachI.start (h : EachI l t m want k met left) (lo : Nat) : EachJ l t m want k lo lo met left :=
  ⟨h.len, h.cnt, fun i hi => by
    rw [h.get i hi]
    have : (decide (lo ≤ i) && decide (i < lo)) = false := by
      by_cases h1 : lo ≤ i
      · rw [decide_eq_false (show ¬ i < lo by omega)]; simp
      · rw [decide_eq_false h1]; rfl
    rw [this, Bool.or_false], h.good⟩
theorem EachJ.skip (h : EachJ l t m want k lo j met left) (hj : met[j]? = some true) : EachJ l t m want k lo (j + 1) met left := by
  refine ⟨h.len, h.cnt, fun i hi => ?_, h.good⟩
  rw [h.get i hi]
  by_cases e : i = j
  · subst e
    rw [h.get i hi] at hj
    injection hj with hj
    rw [hj]
    by_cases h1 : lo ≤ i
    · rw [decide_eq_true h1, decide_eq_true (show i < i + 1 by omega)]; simp
    · rw [decide_eq_false h1] at hj ⊢
      simp only [Bool.false_and, Bool.or_false] at hj ⊢
      rw [hj]
  · have : decide (i < j + 1) = decide (i < j) := by rw [decide_eq_decide]; omega
    rw [this]
theorem EachJ.left_pos (h : EachJ l t m want k lo j met left) (hj : met[j]? = some false) : 1 ≤ left := by
  rw [h.cnt]
  exact List.count_pos_iff.2 (List.mem_of_getElem? hj)
theorem EachJ.first (h : EachJ l t m want k lo j met left) (hj : met[j]? = some false) (hk : l[k]? = some x) (hx : hasAt t j x = true) : goodAt l t want j = want x := by
  have hjm : j < m := by rw [← h.len]; exact (List.getElem?_eq_some_iff.1 hj).1
  rw [h.get j hjm] at hj
  injection hj with hj
  rw [Bool.or_eq_false_iff] at hj
  unfold goodAt
  rw [find_here _ l k x hk hj.1 hx]
  rfl
theorem EachJ.set (h : EachJ l t m want k lo j met left) (hj : met[j]? = some false) (hlo : lo ≤ j) (hk : l[k]? = some x) (hx : hasAt t j x = true) (hw : want x = true) : EachJ l t m want k lo (j + 1) (met.set j true) (left - 1) := by
  have hjm : j < met.length := (List.getElem?_eq_some_iff.1 hj).1
  have hg := h.first hj hk hx
  refine ⟨by rw [List.length_set]; exact h.len, ?_, fun i hi => ?_, fun i hi hi2 => ?_⟩
  · rw [List.count_set hjm, h.cnt]
    have : met[j] = false := by rw [List.getElem?_eq_getElem hjm] at hj; injection hj
    rw [this]
    simp
  · by_cases e : i = j
    · subst e
      rw [List.getElem?_set_self hjm, decide_eq_true hlo, decide_eq_true (show i < i + 1 by omega)]
      simp
    · rw [List.getElem?_set_ne (fun c => e c.symm), h.get i hi]
      have : decide (i < j + 1) = decide (i < j) := by rw [decide_eq_decide]; omega
      rw [this]
  · by_cases e : i = j
    · subst e; rw [hg, hw]
    · rw [List.getElem?_set_ne (fun c => e c.symm)] at hi2
      exact h.good i hi hi2
theorem EachJ.bad (h : EachJ l t m want k lo j met left) (hj : met[j]? = some false) (hk : l[k]? = some x) (hx : hasAt t j x = true) (hw : want x = false) : eachA l t m want = false := by
  have hjm : j < m := by rw [← h.len]; exact (List.getElem?_eq_some_iff.1 hj).1
  rw [eachA_eq, List.all_eq_false]
  exact ⟨j, List.mem_range.2 hjm, by rw [h.first hj hk hx, hw]; simp⟩
theorem EachJ.done (h : EachJ l t m want k lo j met left) (hk : l[k]? = some x) (hh : ∀ i, i < m → hasAt t i x = (decide (lo ≤ i) && decide (i < j))) : EachI l t m want (k + 1) met left := by
  refine ⟨h.len, h.cnt, fun i hi => ?_, h.good⟩
  rw [h.get i hi, List.take_add_one, hk, List.any_append, ← hh i hi]
  simp
theorem EachI.full (h : EachI l t m want k met left) (h0 : left = 0) : eachA l t m want = true := by
  rw [eachA_eq, List.all_eq_true]
  intro i hi
  have hi := List.mem_range.1 hi
  refine h.good i hi ?_
  have hl : i < met.length := by rw [h.len]; exact hi
  rw [List.getElem?_eq_getElem hl]
  cases hb : met[i] with
  | true => rfl
  | false =>
    have : 0 < met.count false := List.count_pos_iff.2 (by rw [← hb]; exact List.getElem_mem hl)
    rw [← h.cnt] at this
    omega
theorem EachI.lack (h : EachI l t m want k met left) (hk : l.length ≤ k) (h0 : left ≠ 0) : eachA l t m want = false := by
  have : 0 < met.count false := by rw [← h.cnt]; omega
  obtain ⟨i, hi⟩ := List.getElem?_of_mem (List.count_pos_iff.1 this)
  have him : i < m := by rw [← h.len]; exact (List.getElem?_eq_some_iff.1 hi).1
  rw [eachA_eq, List.all_eq_false]
  refine ⟨i, List.mem_range.2 him, ?_⟩
  rw [h.get i him, List.take_of_length_le hk] at hi
  injection hi with hi
  unfold goodAt
  rw [any_find _ _ hi]
  simp
end
/-- what meet tells -/
theorem meet_spec (x : Ar) (t m : Nat) : ∃ (lo : Nat) (hi : Int), meetF x (t : Int) ((t + m : Nat) : Int) = (((t + lo : Nat) : Int), hi) ∧ lo ≤ m ∧ hi ≤ ((t + m : Nat) : Int) ∧
    ∀ i, i < m → (hasAt t i x = true ↔ lo ≤ i ∧ ((t + i : Nat) : Int) < hi) := by
  by_cases c : x.many < 1 ∨ ((t + m : Nat) : Int) ≤ x.at_
  · refine ⟨0, (t : Int), by unfold meetF; rw [if_pos c]; rfl, by omega, by omega, fun i hi => ?_⟩
    unfold hasAt
    rw [Ar.has_iff]
    constructor
    · intro h; omega
    · intro h; omega
  · refine ⟨(max (t : Int) x.at_ - t).toNat, min ((t + m : Nat) : Int) (x.at_ + x.many), ?_, by omega, by omega, fun i hi => ?_⟩
    · unfold meetF
      rw [if_neg c]
      congr 1
      omega
    · unfold hasAt
      rw [Ar.has_iff]
      constructor
      · intro h; omega
      · intro h; omega
theorem hasAt_eq {x : Ar} {t m lo j : Nat} {hi : Int} (h : ∀ i, i < m → (hasAt t i x = true ↔ lo ≤ i ∧ ((t + i : Nat) : Int) < hi)) (hj : j = lo ∨ ((t + j : Nat) : Int) ≤ hi) (he : ¬ ((t + j : Nat) : Int) < hi) :
    ∀ i, i < m → hasAt t i x = (decide (lo ≤ i) && decide (i < j)) := by
  intro i hi'
  rw [Bool.eq_iff_iff, h i hi', Bool.and_eq_true, decide_eq_true_eq, decide_eq_true_eq]
  constructor
  · intro h; omega
  · intro h; omega
end Go.Proofs.Ytechhidfgheejaa
