/- Plain laws of servers. -/
import Derived.Test.YtechhidfgheejaaMdQ
namespace Go.Proofs.Ytechhidfgheejaa
set_option linter.unusedSimpArgs false
set_option linter.unusedVariables false

theorem areasR_mem {n : Nat} {fixed : Bool} : ∀ (l : List Ar) (e : Int), 0 ≤ e → areasR n fixed l e = true → ∀ x ∈ l, 0 ≤ x.at_ ∧ 1 ≤ x.many ∧ x.at_ + x.many ≤ (n : Int) ∧ (fixed = true → x.wr = false) := by
  intro l
  induction l with
  | nil => intro e _ _ x hx; cases hx
  | cons a l ih =>
    intro e he h x hx
    simp only [areasR, Bool.and_eq_true, Bool.not_eq_true', decide_eq_false_iff_not] at h
    obtain ⟨⟨⟨⟨⟨h1, h2⟩, h3⟩, h4⟩, h5⟩, h6⟩ := h
    rcases List.mem_cons.1 hx with rfl | hx
    · refine ⟨by omega, by omega, by omega, fun hf => ?_⟩
      rw [hf] at h5
      simpa using h5
    · exact ih (a.at_ + a.many) (by omega) h6 x hx
theorem rightT_mem {l : List Ar} {n : Nat} {fixed : Bool} (h : rightT l n fixed = true) : n ≤ 65536 ∧ ∀ x ∈ l, 0 ≤ x.at_ ∧ 1 ≤ x.many ∧ x.at_ + x.many ≤ (n : Int) ∧ (fixed = true → x.wr = false) := by
  unfold rightT at h
  rw [Bool.and_eq_true, decide_eq_true_eq] at h
  exact ⟨h.1, areasR_mem l 0 (by omega) h.2⟩
theorem goodAt_some {l : List Ar} {t i : Nat} {want : Ar → Bool} (h : goodAt l t want i = true) : ∃ x ∈ l, hasAt t i x = true ∧ want x = true := by
  unfold goodAt at h
  rcases hf : l.find? (hasAt t i) with _ | x
  · rw [hf] at h; cases h
  · rw [hf] at h
    exact ⟨x, List.mem_of_find?_eq_some hf, List.find?_some hf, by simpa using h⟩
theorem eachA_iff {l : List Ar} {t m : Nat} {want : Ar → Bool} : eachA l t m want = true ↔ ∀ i, i < m → goodAt l t want i = true := by
  rw [eachA_eq, List.all_eq_true]
  exact ⟨fun h i hi => h i (List.mem_range.2 hi), fun h i hi => h i (List.mem_range.1 hi)⟩
theorem each_fit {l : List Ar} {n : Nat} {fixed : Bool} {t m : Nat} {want : Ar → Bool} (hr : rightT l n fixed = true) (h : eachA l t m want = true) (hm : 0 < m) : t + m ≤ n := by
  obtain ⟨x, hx, hh, -⟩ := goodAt_some (eachA_iff.1 h (m - 1) (by omega))
  obtain ⟨h1, h2, h3, -⟩ := (rightT_mem hr).2 x hx
  unfold hasAt at hh
  rw [Ar.has_iff] at hh
  omega
theorem putAt_length {α : Type} (c : List α) (t : Nat) (l : List α) (h : t + l.length ≤ c.length) : (putAt c t l).length = c.length := by
  unfold putAt
  simp only [List.length_append, List.length_take, List.length_drop]
  omega
theorem right_uses {a : Ak} (h : rightA a = true) :
    (writesP a.fn = 1 → a.words = [] ∧ 0 < a.bits.length) ∧ (writesP a.fn = 3 → a.bits = [] ∧ 0 < a.words.length) ∧ (writesP a.fn ≠ 1 → a.bits = []) ∧ (writesP a.fn ≠ 3 → a.words = []) ∧ (readsP a.fn ≠ 0 → 0 < a.many) ∧ (echoA a = none ↔ readsP a.fn ≠ 0) := by
  have hm : readsP a.fn ≠ 0 → 0 < a.many := by
    intro hr
    have h' := h
    unfold rightA rightN at h'
    simp only [Bool.and_eq_true] at h'
    obtain ⟨⟨⟨⟨⟨-, -⟩, q⟩, -⟩, -⟩, -⟩ := h'
    have : a.fn = 1 ∨ a.fn = 2 ∨ a.fn = 3 ∨ a.fn = 4 ∨ a.fn = 23 := by
      unfold readsP at hr
      by_cases c : a.fn = 1 ∨ a.fn = 2 ∨ a.fn = 3 ∨ a.fn = 4 ∨ a.fn = 23
      · exact c
      · rw [if_neg (by omega), if_neg (by omega), if_neg (by omega), if_neg (by omega)] at hr
        exact absurd rfl hr
    rcases this with e | e | e | e | e <;> rw [e] at q <;> simp [shp, wtn] at q <;> omega
  have hm' := hm
  have he : echoA a = if a.fn = 5 then some ⟨5, 0, [a.bits.getD 0 false], [], a.at_, 0⟩ else if a.fn = 6 then some ⟨6, 0, [], [a.words.getD 0 0], a.at_, 0⟩ else if a.fn = 15 ∨ a.fn = 16 then some ⟨a.fn, 0, [], [], a.at_, a.many⟩ else none := by
    unfold echoA; rw [h]; rfl
  rw [he]
  clear he hm
  refine ⟨?_, ?_, ?_, ?_, hm', ?_⟩
  all_goals rcases right_kinds h with ⟨f, t, m, hf, rfl⟩ | ⟨t, x, rfl⟩ | ⟨t, x, rfl⟩ | ⟨t, k, h1, h2, rfl⟩ | ⟨t, l, h1, h2, rfl⟩ | ⟨t, m, o, l, h1, h2, rfl⟩
  all_goals (try rcases hf with rfl | rfl | rfl | rfl)
  all_goals simp [writesP, readsP] <;> omega
theorem writeBad_fit {s : Sp} {m : Mm} {a : Ak} (hr : rightA a = true) (hs : rightSM s m = true) (hb : writeBad s a = false) :
    (writesP a.fn = 1 → targetT a + a.bits.length ≤ m.coils.length ∧ 0 < a.bits.length) ∧ (writesP a.fn = 3 → targetT a + a.words.length ≤ m.holding.length ∧ 0 < a.words.length) := by
  obtain ⟨u1, u3, -⟩ := right_uses hr
  unfold rightSM at hs
  simp only [Bool.and_eq_true] at hs
  obtain ⟨⟨⟨s1, s2⟩, s3⟩, s4⟩ := hs
  constructor
  · intro h
    obtain ⟨e, hp⟩ := u1 h
    have hw : eachA s.coils (targetT a) (targetM a) (wantW (targetT a) (targetM a)) = true := by
      unfold writeBad Sp.tab at hb
      rw [h] at hb
      simpa [writableT] using hb
    have := each_fit s1 hw (by unfold targetM; omega)
    unfold targetM at this
    rw [e] at this
    simp at this
    exact ⟨by omega, hp⟩
  · intro h
    obtain ⟨e, hp⟩ := u3 h
    have hw : eachA s.holding (targetT a) (targetM a) (wantW (targetT a) (targetM a)) = true := by
      unfold writeBad Sp.tab at hb
      rw [h] at hb
      simpa [writableT] using hb
    have := each_fit s3 hw (by unfold targetM; omega)
    unfold targetM at this
    rw [e] at this
    simp at this
    exact ⟨by omega, hp⟩
theorem readBad_fit {s : Sp} {m : Mm} {a : Ak} (hr : rightA a = true) (hs : rightSM s m = true) (hb : readBad s a = false) (h0 : readsP a.fn ≠ 0) : a.at_ + a.many ≤ m.lenR a.fn := by
  have hm := (right_uses hr).2.2.2.2.1 h0
  unfold rightSM at hs
  simp only [Bool.and_eq_true] at hs
  obtain ⟨⟨⟨s1, s2⟩, s3⟩, s4⟩ := hs
  have h4 := readsP_le a.fn
  have hc : readsP a.fn = 1 ∨ readsP a.fn = 2 ∨ readsP a.fn = 3 ∨ readsP a.fn = 4 := by omega
  unfold readBad Sp.tab at hb
  unfold Mm.lenR
  rcases hc with h | h | h | h
  all_goals rw [h] at hb ⊢
  · exact each_fit s1 (by simpa [readableT] using hb) hm
  · exact each_fit s2 (by simpa [readableT] using hb) hm
  · exact each_fit s3 (by simpa [readableT] using hb) hm
  · exact each_fit s4 (by simpa [readableT] using hb) hm
theorem checkN_zero {s : Sp} {a : Ak} (h : checkN s a = 0) : rightA a = true ∧ readBad s a = false ∧ writeBad s a = false := by
  unfold checkN at h
  cases h1 : rightA a <;> cases h2 : readBad s a <;> cases h3 : writeBad s a <;> simp [h1, h2, h3] at h ⊢
theorem checkN_cases (s : Sp) (a : Ak) : checkN s a = 0 ∨ checkN s a = 2 ∨ checkN s a = 3 := by
  unfold checkN
  split
  · simp
  split
  · simp
  split <;> simp
theorem checkN_lt (s : Sp) (a : Ak) : checkN s a < 256 := by have := checkN_cases s a; omega
theorem writtenM_lens {s : Sp} {m : Mm} {a : Ak} (hr : rightA a = true) (hs : rightSM s m = true) (hb : writeBad s a = false) :
    (writtenM m a).coils.length = m.coils.length ∧ (writtenM m a).inputs = m.inputs ∧ (writtenM m a).holding.length = m.holding.length ∧ (writtenM m a).words = m.words := by
  obtain ⟨w1, w3⟩ := writeBad_fit hr hs hb
  unfold writtenM
  split
  · rename_i h; exact ⟨putAt_length _ _ _ (w1 h).1, rfl, rfl, rfl⟩
  · split
    · rename_i h; exact ⟨rfl, rfl, putAt_length _ _ _ (w3 h).1, rfl⟩
    · exact ⟨rfl, rfl, rfl, rfl⟩
theorem writtenM_lenR {s : Sp} {m : Mm} {a : Ak} (hr : rightA a = true) (hs : rightSM s m = true) (hb : writeBad s a = false) (f : Nat) : (writtenM m a).lenR f = m.lenR f := by
  obtain ⟨h1, h2, h3, h4⟩ := writtenM_lens hr hs hb
  unfold Mm.lenR
  rw [h1, h2, h3, h4]
end Go.Proofs.Ytechhidfgheejaa
