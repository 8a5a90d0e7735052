/- Plain laws of servers: what is told is a right reply that fits. -/
import Derived.Test.YtechhidfgheejaaMdLawB

namespace Go.Proofs.Ytechhidfgheejaa
open Go.RowKit
set_option linter.unusedSimpArgs false
set_option linter.unusedVariables false

theorem echo_rightM {a : Ak} {e : Rp} (h : rightA a = true) (he : echoA a = some e) : rightR e = true ∧ e.fn = a.fn := by
  unfold echoA at he
  rw [if_pos h] at he
  have hr := h
  unfold rightA at hr
  split at he
  · rename_i h5
    injection he with he; subst he
    exact ⟨by simp [rightR, kindR, findK, rightK, sameR_self], h5.symm⟩
  · split at he
    · rename_i h6
      injection he with he; subst he
      exact ⟨by simp [rightR, kindR, findK, rightK, sameR_self], h6.symm⟩
    · split at he
      · rename_i h15
        injection he with he; subst he
        refine ⟨?_, rfl⟩
        unfold rightN at hr
        simp only [Bool.and_eq_true] at hr
        have hw := hr.1.1.1.2
        rcases h15 with h | h <;> rw [h] at hw ⊢ <;> simp [wtn, shp] at hw <;> simp [rightR, kindR, findK, rightK, sameR_self, hw]
      · cases he
theorem putAt_Ws {c l : List Nat} {t : Nat} (h : Ws c) (k : Ws l) : Ws (putAt c t l) := ((h.take t).append k).append (h.drop _)
theorem wordsAt_Ws {c : List Nat} {t n : Nat} (h : Ws c) : Ws (wordsAt c t n) := (h.drop t).take n
theorem writtenM_ok {m : Mm} {a : Ak} (hm : m.ok) (ha : a.ok) : (writtenM m a).ok := by
  unfold writtenM
  split
  · exact ⟨hm.holding, hm.words⟩
  split
  · exact ⟨putAt_Ws hm.holding ha.words, hm.words⟩
  · exact hm
theorem doM_mok {s : Sp} {m : Mm} {a : Ak} (hm : m.ok) (ha : a.ok) : (doM s m a).1.ok := by
  unfold doM
  split
  · exact hm
  split
  · exact hm
  · exact writtenM_ok hm ha
theorem wrongR_ok {f x : Nat} (hx : x < 256) : (wrongR f x).ok := ⟨by show f % 128 < 256; omega, hx, (by intro y hy; cases hy), by show (0 : Nat) < 65536; decide, by show (0 : Nat) < 65536; decide⟩
theorem doM_rok {s : Sp} {m : Mm} {a : Ak} (hm : m.ok) (ha : a.ok) : (doM s m a).2.ok := by
  unfold doM
  split
  · exact wrongR_ok (checkN_lt s a)
  split
  · exact wrongR_ok (by decide)
  · simp only
    rcases he : echoA a with _ | r
    · have hw := writtenM_ok hm ha
      have hf := ha.fn
      simp only [Option.getD_none]
      unfold answerM
      repeat' split
      all_goals refine ⟨hf, ?_, ?_, ?_, ?_⟩
      all_goals first
        | exact wordsAt_Ws hw.holding
        | exact wordsAt_Ws hw.words
        | (intro x hx; cases hx)
        | (show (0 : Nat) < 256; decide)
        | (show (0 : Nat) < 65536; decide)
    · exact (echo_ok ha he).1
/-- what the answer is: of so many bits, or words -/
theorem answer_right {s : Sp} {m : Mm} {a : Ak} (hr : rightA a = true) (hs : rightSM s m = true) (hb : readBad s a = false) (hwb : writeBad s a = false) (he : echoA a = none) :
    rightR (answerM (writtenM m a) a) = true ∧ (answerM (writtenM m a) a).fn = a.fn ∧ fitB a (answerM (writtenM m a) a) none = true ∧ (answerM (writtenM m a) a).bits.length ≤ 3000 := by
  have h0 := (right_uses hr).2.2.2.2.2.1 he
  have hfit := readBad_fit hr hs hb h0
  rw [← writtenM_lenR hr hs hwb] at hfit
  have hm := (right_uses hr).2.2.2.2.1 h0
  have hmax : (a.fn = 1 ∨ a.fn = 2 → a.many ≤ 2000) ∧ (a.fn = 3 ∨ a.fn = 4 ∨ a.fn = 23 → a.many ≤ 125) := by
    have h' := hr
    unfold rightA rightN at h'
    simp only [Bool.and_eq_true] at h'
    obtain ⟨⟨⟨⟨⟨-, -⟩, q⟩, -⟩, -⟩, -⟩ := h'
    constructor
    · intro h; rcases h with e | e <;> rw [e] at q <;> simp [shp, wtn] at q <;> omega
    · intro h; rcases h with e | e | e <;> rw [e] at q <;> simp [shp, wtn] at q <;> omega
  have hfn : a.fn = 1 ∨ a.fn = 2 ∨ a.fn = 3 ∨ a.fn = 4 ∨ a.fn = 23 := by
    unfold readsP at h0
    by_cases c : a.fn = 1 ∨ a.fn = 2 ∨ a.fn = 3 ∨ a.fn = 4 ∨ a.fn = 23
    · exact c
    · rw [if_neg (by omega), if_neg (by omega), if_neg (by omega), if_neg (by omega)] at h0
      exact absurd rfl h0
  have bitsok : ∀ c : List Bool, a.at_ + a.many ≤ c.length → (a.fn = 1 ∨ a.fn = 2) → rightR ⟨a.fn, 0, bitsAt c a.at_ a.many, [], 0, 0⟩ = true ∧ fitB a ⟨a.fn, 0, bitsAt c a.at_ a.many, [], 0, 0⟩ none = true ∧ (bitsAt c a.at_ a.many).length ≤ 3000 := by
    intro c hc hf
    have hl := len_bitsAt hc
    have h20 := hmax.1 hf
    have e8 : 8 ≤ eights a.many ∧ eights a.many ≤ 2000 ∧ eights a.many % 8 = 0 := by unfold eights; omega
    refine ⟨?_, ?_, by rw [hl]; omega⟩
    · have hk : kindR ⟨a.fn, 0, bitsAt c a.at_ a.many, [], 0, 0⟩ = some .bl := by unfold kindR findK; rw [if_neg (by simp), if_pos hf]
      rw [rightR_of hk]
      simp only [rightK, sameR_self, hl, Bool.and_true, Bool.and_eq_true, decide_eq_true_eq]
      exact ⟨⟨e8.1, e8.2.1⟩, e8.2.2⟩
    · unfold fitB
      simp only
      rw [if_pos (by rw [hl]; omega), hl]
      unfold eights
      simp only [decide_true, Bool.true_and, Bool.not_eq_true']
      unfold bitsAt
      rw [List.drop_append, List.drop_of_length_le (by rw [List.length_take, List.length_drop]; omega), List.length_take, List.length_drop, Nat.min_eq_left (by omega), Nat.sub_self, List.drop_zero, List.nil_append]
      simp
  have wordsok : ∀ c : List Nat, a.at_ + a.many ≤ c.length → (a.fn = 3 ∨ a.fn = 4 ∨ a.fn = 23) → rightR ⟨a.fn, 0, [], wordsAt c a.at_ a.many, 0, 0⟩ = true ∧ fitB a ⟨a.fn, 0, [], wordsAt c a.at_ a.many, 0, 0⟩ none = true := by
    intro c hc hf
    have hl := len_wordsAt hc
    have h20 := hmax.2 hf
    refine ⟨?_, ?_⟩
    · have hk : kindR ⟨a.fn, 0, [], wordsAt c a.at_ a.many, 0, 0⟩ = some .wl := by unfold kindR findK; rw [if_neg (by simp), if_neg (by simp only; omega), if_pos hf]
      rw [rightR_of hk]
      simp only [rightK, sameR_self, hl, Bool.and_true, Bool.and_eq_true, decide_eq_true_eq]
      exact ⟨hm, h20⟩
    · unfold fitB
      simp only [List.length_nil, hl]
      simp
  unfold Mm.lenR at hfit
  unfold answerM
  rcases hfn with e | e | e | e | e
  · have hp : readsP a.fn = 1 := by rw [e]; rfl
    rw [hp] at hfit ⊢
    obtain ⟨h1, h2, h3⟩ := bitsok (writtenM m a).coils hfit (.inl e)
    exact ⟨h1, rfl, h2, h3⟩
  · have hp : readsP a.fn = 2 := by rw [e]; rfl
    rw [hp] at hfit ⊢
    obtain ⟨h1, h2, h3⟩ := bitsok (writtenM m a).inputs hfit (.inr e)
    exact ⟨h1, rfl, h2, h3⟩
  · have hp : readsP a.fn = 3 := by rw [e]; rfl
    rw [hp] at hfit ⊢
    obtain ⟨h1, h2⟩ := wordsok (writtenM m a).holding hfit (.inl e)
    exact ⟨h1, rfl, h2, Nat.zero_le _⟩
  · have hp : readsP a.fn = 4 := by rw [e]; rfl
    rw [hp] at hfit ⊢
    obtain ⟨h1, h2⟩ := wordsok (writtenM m a).words hfit (.inr (.inl e))
    exact ⟨h1, rfl, h2, Nat.zero_le _⟩
  · have hp : readsP a.fn = 3 := by rw [e]; rfl
    rw [hp] at hfit ⊢
    obtain ⟨h1, h2⟩ := wordsok (writtenM m a).holding hfit (.inr (.inr e))
    exact ⟨h1, rfl, h2, Nat.zero_le _⟩
theorem wrong_right {f x : Nat} (h1 : 1 ≤ x) (h2 : x ≤ 4) : rightR (wrongR f x) = true := by
  have hk : kindR (wrongR f x) = some .exc := by unfold kindR; rw [if_pos (by show x ≠ 0; omega)]
  rw [rightR_of hk]
  have e : wrongR (wrongR f x).fn (wrongR f x).ex = wrongR f x := by unfold wrongR; simp
  simp only [rightK, e, sameR_self, Bool.and_true, Bool.and_eq_true, decide_eq_true_eq]
  exact ⟨⟨by show f % 128 < 128; omega, h1⟩, h2⟩
theorem doM_rright (s : Sp) (m : Mm) (a : Ak) : rightR (doM s m a).2 = true ∧ (doM s m a).2.bits.length ≤ 3000 := by
  unfold doM
  split
  · rename_i h
    have := checkN_cases s a
    exact ⟨wrong_right (by omega) (by omega), Nat.zero_le _⟩
  split
  · exact ⟨wrong_right (by omega) (by omega), Nat.zero_le _⟩
  · rename_i h1 h2
    obtain ⟨c1, c2, c3⟩ := checkN_zero (Decidable.of_not_not h1)
    simp only
    rcases he : echoA a with _ | r
    · obtain ⟨g1, -, -, g4⟩ := answer_right c1 (by simpa using h2) c2 c3 he
      exact ⟨g1, g4⟩
    · refine ⟨(echo_rightM c1 he).1, ?_⟩
      have : r.bits.length ≤ 1 := by
        unfold echoA at he
        rw [if_pos c1] at he
        repeat' split at he
        all_goals first | (injection he with he; subst he; simp) | cases he
      simp only [Option.getD_some]
      omega
theorem doM_fits {s : Sp} {m : Mm} {a : Ak} (h : (doM s m a).2.ex = 0) : fitsA a (doM s m a).2 = true := by
  obtain ⟨h1, h2, h3⟩ := doM_ok h
  obtain ⟨c1, c2, c3⟩ := checkN_zero h1
  have hr := (doM_rright s m a).1
  rw [h3] at h hr ⊢
  simp only at h hr ⊢
  unfold fitsA
  rw [c1, hr, if_neg (by simp [h])]
  rcases he : echoA a with _ | r
  · obtain ⟨g1, g2, g3, -⟩ := answer_right c1 h2 c2 c3 he
    simp only [Option.getD_none, g2, g3]
    simp
  · simp only [Option.getD_some, (echo_rightM c1 he).2]
    simp [fitB, sameR_self]
/-! ### bytes -/
theorem look_small {l : List Nat} (hl : Bs l) : (lookA l).1.small ∧ (lookA l).2 < 4 ∧ ((lookA l).2 ≠ 0 → 1 ≤ (lookA l).2) := by
  unfold lookA
  rcases hp : parseA l with _ | a
  · simp only
    have hz : Ws [] := by intro x hx; cases hx
    split
    · exact ⟨⟨⟨by decide, by decide, by decide, by decide, hz⟩, by decide, by decide⟩, by decide, by decide⟩
    · refine ⟨⟨⟨getD_lt hl 0, by show (0 : Nat) < 65536; decide, by show (0 : Nat) < 65536; decide, by show (0 : Nat) < 65536; decide, hz⟩, by simp, by simp⟩, ?_, ?_⟩
      · simp only; split <;> decide
      · intro _; simp only; split <;> decide
  · exact ⟨readA_small (parseA_some hp).1 hl, by simp, by simp⟩
theorem serve_parse (s : Sp) (m : Mm) (l : List Nat) (hl : Bs l) : parseR (serveM s m l).2 = some (if (lookA l).2 ≠ 0 then wrongR (lookA l).1.fn (lookA l).2 else (doM s m (lookA l).1).2) := by
  obtain ⟨-, h2, h3⟩ := look_small hl
  unfold serveM
  split
  · rename_i h
    exact (parse_bytesR (wrong_right (h3 h) (by omega))).1
  · exact (parse_bytesR (doM_rright _ _ _).1).1
end Go.Proofs.Ytechhidfgheejaa
