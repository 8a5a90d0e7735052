/- Plain laws of servers: what is told of what is done. -/
import Derived.Test.YtechhidfgheejaaMdZ
namespace Go.Proofs.Ytechhidfgheejaa
open Go.RowKit
set_option linter.unusedSimpArgs false
set_option linter.unusedVariables false

/-- Do, with what it does under names -/
theorem law_Do (s : Sp) (q : Q8) (m : Mm) (p : Q8) (a : Ak) (A : Option Addr) (c : Nat) (B : Option Addr) (d : Nat) (w : World) (n : Mm) (r : Rp) (hn : doM s m a = (n, r)) (hS : SpR w s q) (hsk : s.ok) (hsf : s.few 1000000) (hM : MmR w m p.A1 p.A2 p.A3 p.A4) (hmf : m.few 100000)
    (hR : AkR w a A B) (hok : a.ok) (hw : a.words.length ≤ 1000000) (hk : a.bits.length ≤ 1000000) :
    Calls Try.prog 19 #[s.v q, m.v p.A1 p.c1 p.A2 p.c2 p.A3 p.c3 p.A4 p.c4, a.v A c B d] w fun e w' =>
      ∃ (p' : Q8) (A' : Option Addr) (c' : Nat) (B' : Option Addr) (d' : Nat), e = .returned (.tuple #[n.v p'.A1 p'.c1 p'.A2 p'.c2 p'.A3 p'.c3 p'.A4 p'.c4, r.v A' c' B' d']) ∧ MmR w' n p'.A1 p'.A2 p'.A3 p'.A4 ∧ RpR w' r A' B' ∧ (echoA a = none → r.bits.length ≤ d') ∧ Below w.heap.size w w' := by
  refine (md_Do s q m p a A c B d w hS hsk hsf hM hmf hR hok hw hk).mono ?_
  intro e w' hd
  rw [hn] at hd
  obtain ⟨P1, q1, P2, q2, P3, q3, P4, q4, A', c', B', d', he, hm, -, hr, hc, hb⟩ := hd
  exact ⟨⟨P1, q1, P2, q2, P3, q3, P4, q4⟩, A', c', B', d', he, hm.rd, hr, hc, hb⟩
theorem echo_ex {a : Ak} {r : Rp} (h : echoA a = some r) : r.ex = 0 := by
  unfold echoA at h
  split at h
  · split at h
    · injection h with h; subst h; rfl
    split at h
    · injection h with h; subst h; rfl
    split at h
    · injection h with h; subst h; rfl
    · cases h
  · cases h
theorem answer_ex (m : Mm) (a : Ak) : (answerM m a).ex = 0 := by
  unfold answerM
  repeat' split
  all_goals rfl
theorem doM_ex (s : Sp) (m : Mm) (a : Ak) : (doM s m a).2.ex = if checkN s a ≠ 0 then checkN s a else if rightSM s m = false then 4 else 0 := by
  unfold doM
  split
  · rfl
  split
  · rfl
  · simp only
    rcases he : echoA a with _ | r
    · exact answer_ex _ _
    · exact echo_ex he
theorem doM_bad {s : Sp} {m : Mm} {a : Ak} (h : (doM s m a).2.ex ≠ 0) : (doM s m a).1 = m := by
  rw [doM_ex] at h
  unfold doM
  split
  · rfl
  split
  · rfl
  · rename_i h1 h2
    rw [if_neg h1, if_neg h2] at h
    exact absurd rfl h
theorem doM_ok {s : Sp} {m : Mm} {a : Ak} (h : (doM s m a).2.ex = 0) : checkN s a = 0 ∧ rightSM s m = true ∧ doM s m a = (writtenM m a, (echoA a).getD (answerM (writtenM m a) a)) := by
  rw [doM_ex] at h
  unfold doM
  by_cases h1 : checkN s a = 0
  · rw [if_neg (by simpa using h1)] at h ⊢
    by_cases h2 : rightSM s m = false
    · rw [if_pos h2] at h; cases h
    · rw [if_neg h2] at h ⊢
      exact ⟨h1, by simpa using h2, rfl⟩
  · rw [if_pos h1] at h
    exact absurd h h1
theorem rightSM_lens {s : Sp} {m n : Mm} (h1 : n.coils.length = m.coils.length) (h2 : n.inputs.length = m.inputs.length) (h3 : n.holding.length = m.holding.length) (h4 : n.words.length = m.words.length) : rightSM s n = rightSM s m := by
  unfold rightSM
  rw [h1, h2, h3, h4]
theorem doM_lens {s : Sp} {m : Mm} {a : Ak} : (doM s m a).1.coils.length = m.coils.length ∧ (doM s m a).1.inputs = m.inputs ∧ (doM s m a).1.holding.length = m.holding.length ∧ (doM s m a).1.words = m.words := by
  by_cases h : (doM s m a).2.ex = 0
  · obtain ⟨h1, h2, h3⟩ := doM_ok h
    obtain ⟨c1, c2, c3⟩ := checkN_zero h1
    rw [h3]
    exact writtenM_lens c1 h2 c3
  · rw [doM_bad h]
    exact ⟨rfl, rfl, rfl, rfl⟩
theorem doM_right (s : Sp) (m : Mm) (a : Ak) : rightSM s (doM s m a).1 = rightSM s m := by
  obtain ⟨h1, h2, h3, h4⟩ := doM_lens (s := s) (m := m) (a := a)
  exact rightSM_lens h1 (by rw [h2]) h3 (by rw [h4])
theorem Mm.few_lens {m n : Mm} {k : Nat} (h : m.few k) (h1 : n.coils.length = m.coils.length) (h2 : n.inputs = m.inputs) (h3 : n.holding.length = m.holding.length) (h4 : n.words = m.words) : n.few k :=
  ⟨by rw [h1]; exact h.coils, by rw [h2]; exact h.inputs, by rw [h3]; exact h.holding, by rw [h4]; exact h.words⟩
theorem Mm.few.few_do {m : Mm} {k : Nat} (h : m.few k) (s : Sp) (a : Ak) : (doM s m a).1.few k := by
  obtain ⟨h1, h2, h3, h4⟩ := doM_lens (s := s) (m := m) (a := a)
  exact Mm.few_lens h h1 h2 h3 h4
theorem light_few {s : Sp} {m : Mm} (h : lightN s m = true) : s.few 40 ∧ m.few 300 := by
  unfold lightN at h
  simp only [Bool.and_eq_true, decide_eq_true_eq] at h
  exact ⟨⟨by omega, by omega, by omega, by omega⟩, ⟨h.1.1.1.2, h.1.1.2, h.1.2, h.2⟩⟩
theorem Sp.few_le {s : Sp} {k j : Nat} (h : s.few k) (hk : k ≤ j) : s.few j := ⟨Nat.le_trans h.coils hk, Nat.le_trans h.inputs hk, Nat.le_trans h.holding hk, Nat.le_trans h.words hk⟩
theorem Mm.few_le {m : Mm} {k j : Nat} (h : m.few k) (hk : k ≤ j) : m.few j := ⟨Nat.le_trans h.coils hk, Nat.le_trans h.inputs hk, Nat.le_trans h.holding hk, Nat.le_trans h.words hk⟩
theorem doM_words (s : Sp) (m : Mm) (a : Ak) (h : m.few 100000) : (doM s m a).2.words.length ≤ 100000 := by
  have hn := h.few_do s a
  by_cases hx : (doM s m a).2.ex = 0
  · obtain ⟨-, -, h3⟩ := doM_ok hx
    rw [h3] at hn ⊢
    simp only at hn ⊢
    rcases he : echoA a with _ | r
    · have h1 := hn.holding
      have h2 := hn.words
      simp only [Option.getD_none]
      unfold answerM wordsAt
      repeat' split
      all_goals simp only [List.length_nil, List.length_take, List.length_drop]
      all_goals omega
    · unfold echoA at he
      simp only [Option.getD_some]
      split at he
      · split at he
        · injection he with he; subst he; simp
        split at he
        · injection he with he; subst he; simp
        split at he
        · injection he with he; subst he; simp
        · cases he
      · cases he
  · unfold doM
    split
    · simp [wrongR]
    split
    · simp [wrongR]
    · rename_i h1 h2
      exfalso; apply hx; rw [doM_ex, if_neg h1, if_neg h2]
/-! ### function 23 -/
theorem right23 (t m o : Nat) (ws : List Nat) (h1 : 1 ≤ ws.length) (h2 : ws.length ≤ 121) : rightA ⟨23, t, m, o, ws, []⟩ = decide (1 ≤ m ∧ m ≤ 125) := by
  unfold rightA rightN
  simp [isFn, shp, wtn]
  omega
theorem right3 (t m : Nat) : rightA ⟨3, t, m, 0, [], []⟩ = decide (1 ≤ m ∧ m ≤ 125) := by
  unfold rightA rightN
  simp [isFn, shp, wtn]
theorem right16 (t : Nat) (ws : List Nat) (h1 : 1 ≤ ws.length) (h2 : ws.length ≤ 121) : rightA ⟨16, t, ws.length, 0, ws, []⟩ = true := by
  unfold rightA rightN
  simp [isFn, shp, wtn]
  omega
theorem swap_law (s : Sp) (m : Mm) (t c o : Nat) (ws : List Nat) (hr : rightSM s m = true) (h1 : 1 ≤ ws.length) (h2 : ws.length ≤ 121) {n1 n2 n3 : Mm} {r x y : Rp}
    (e1 : doM s m ⟨23, t, c, o, ws, []⟩ = (n1, r)) (e2 : doM s m ⟨16, o, ws.length, 0, ws, []⟩ = (n2, x)) (e3 : doM s n2 ⟨3, t, c, 0, [], []⟩ = (n3, y)) :
    (x.ex ≠ 0 ∨ y.ex ≠ 0 → n1 = m ∧ r.ex = if y.ex = 0 ∨ y.ex = 2 then 2 else y.ex) ∧ (x.ex = 0 → y.ex = 0 → n1 = n3 ∧ r.ex = 0 ∧ r.words = y.words) := by
  have hr2 : rightSM s n2 = true := by rw [show n2 = (doM s m ⟨16, o, ws.length, 0, ws, []⟩).1 by rw [e2], doM_right]; exact hr
  have x1 : r.ex = checkN s ⟨23, t, c, o, ws, []⟩ := by
    have := doM_ex s m ⟨23, t, c, o, ws, []⟩
    rw [e1, hr] at this
    refine this.trans ?_
    split
    · rfl
    · rename_i h; have h := Decidable.of_not_not h; rw [h]; rfl
  have x2 : x.ex = checkN s ⟨16, o, ws.length, 0, ws, []⟩ := by
    have := doM_ex s m ⟨16, o, ws.length, 0, ws, []⟩
    rw [e2, hr] at this
    refine this.trans ?_
    split
    · rfl
    · rename_i h; have h := Decidable.of_not_not h; rw [h]; rfl
  have x3 : y.ex = checkN s ⟨3, t, c, 0, [], []⟩ := by
    have := doM_ex s n2 ⟨3, t, c, 0, [], []⟩
    rw [e3, hr2] at this
    refine this.trans ?_
    split
    · rfl
    · rename_i h; have h := Decidable.of_not_not h; rw [h]; rfl
  have w23 : writeBad s ⟨23, t, c, o, ws, []⟩ = !writableT s.holding o ws.length := by simp [writeBad, Sp.tab, writesP, targetT, targetM]
  have w16 : writeBad s ⟨16, o, ws.length, 0, ws, []⟩ = !writableT s.holding o ws.length := by simp [writeBad, Sp.tab, writesP, targetT, targetM]
  have w3 : writeBad s ⟨3, t, c, 0, [], []⟩ = false := by simp [writeBad, Sp.tab, writesP]
  have d23 : readBad s ⟨23, t, c, o, ws, []⟩ = !readableT s.holding t c := by simp [readBad, Sp.tab, readsP]
  have d16 : readBad s ⟨16, o, ws.length, 0, ws, []⟩ = false := by simp [readBad, Sp.tab, readsP]
  have d3 : readBad s ⟨3, t, c, 0, [], []⟩ = !readableT s.holding t c := by simp [readBad, Sp.tab, readsP]
  have bad1 : r.ex ≠ 0 → n1 = m := fun h => by
    have := doM_bad (s := s) (m := m) (a := ⟨23, t, c, o, ws, []⟩) (by rw [e1]; exact h)
    rw [e1] at this
    exact this
  rw [checkN, right23 t c o ws h1 h2, w23, d23] at x1
  rw [checkN, right16 o ws h1 h2, w16, d16] at x2
  rw [checkN, right3, w3, d3] at x3
  constructor
  · intro hne
    have key : r.ex = if y.ex = 0 ∨ y.ex = 2 then 2 else y.ex := by
      rw [x1, x2, x3] at *
      by_cases hc : 1 ≤ c ∧ c ≤ 125
      · cases hw : writableT s.holding o ws.length <;> cases hd : readableT s.holding t c <;> simp_all
      · simp [hc]
    refine ⟨bad1 ?_, key⟩
    rw [key]
    split
    · decide
    · rename_i h; intro e; exact h (.inl e)
  · intro hx hy
    have hr0 : r.ex = 0 := by
      rw [x1, x2, x3] at *
      by_cases hc : 1 ≤ c ∧ c ≤ 125
      · cases hw : writableT s.holding o ws.length <;> cases hd : readableT s.holding t c <;> simp_all
      · simp [hc] at hy
    obtain ⟨-, -, z1⟩ := doM_ok (s := s) (m := m) (a := ⟨23, t, c, o, ws, []⟩) (by rw [e1]; exact hr0)
    obtain ⟨-, -, z2⟩ := doM_ok (s := s) (m := m) (a := ⟨16, o, ws.length, 0, ws, []⟩) (by rw [e2]; exact hx)
    obtain ⟨-, -, z3⟩ := doM_ok (s := s) (m := n2) (a := ⟨3, t, c, 0, [], []⟩) (by rw [e3]; exact hy)
    rw [e1] at z1
    rw [e2] at z2
    rw [e3] at z3
    injection z1 with z1 z1'
    injection z2 with z2 z2'
    injection z3 with z3 z3'
    have u1 : writtenM m ⟨23, t, c, o, ws, []⟩ = n2 := by rw [z2]; rfl
    have u3 : n3 = n2 := by rw [z3]; rfl
    refine ⟨by rw [z1, u1, u3], hr0, ?_⟩
    rw [z1', z3', u1]
    have k1 : echoA ⟨23, t, c, o, ws, []⟩ = none := by unfold echoA; split <;> rfl
    have k3 : echoA ⟨3, t, c, 0, [], []⟩ = none := by unfold echoA; split <;> rfl
    rw [k1, k3]
    rfl
end Go.Proofs.Ytechhidfgheejaa
