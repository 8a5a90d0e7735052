/- Plain laws of replies: what is said of a right reply is read as it. -/
import Derived.Test.YtechhidfgheejaaRpF
namespace Go.Proofs.Ytechhidfgheejaa
set_option linter.unusedSimpArgs false
set_option linter.unusedVariables false

theorem findK_exc (f : Nat) : findK f ≠ some .exc := by
  unfold findK
  repeat' split
  all_goals intro h; cases h
theorem kind_of_right {k : Kd} {l : List Nat} (hk : kindL (l.getD 0 0) = some k) (hr : rightK k (readK k l) = true) : kindR (readK k l) = some k := by
  unfold kindL at hk
  split at hk
  · have hf : ∀ r : Rp, r.ex = 0 → r.fn = l.getD 0 0 → kindR r = some k := by
      intro r h1 h2
      unfold kindR
      rw [if_neg (by simp [h1]), h2]
      exact hk
    cases k with
    | exc => exact absurd hk (findK_exc _)
    | bl => exact hf _ rfl rfl
    | wl => exact hf _ rfl rfl
    | ob =>
      simp only [readK] at hr ⊢
      split
      · rename_i h; rw [if_pos h] at hr; simp [rightK, Rp.zero] at hr
      · exact hf _ rfl rfl
    | ow =>
      simp only [readK] at hr ⊢
      split
      · rename_i h; rw [if_pos h] at hr; simp [rightK, Rp.zero] at hr
      · exact hf _ rfl rfl
    | ct m =>
      simp only [readK] at hr ⊢
      split
      · rename_i h; rw [if_pos h] at hr; simp [rightK, Rp.zero] at hr
      · exact hf _ rfl rfl
  · injection hk with hk
    subst hk
    simp only [rightK, Bool.and_eq_true, decide_eq_true_eq] at hr
    unfold kindR
    rw [if_pos (by have := hr.1.1.2; omega)]
theorem parseR_some {l : List Nat} {r : Rp} (h : parseR l = some r) : rightR r = true ∧ bytesR r = l := by
  unfold parseR at h
  split at h
  · cases h
  · rcases hk : kindL (l.getD 0 0) with _ | k
    · rw [hk] at h; cases h
    · rw [hk] at h
      simp only [Option.bind_some] at h
      split at h
      · rename_i hc
        injection h with h
        rw [Bool.and_eq_true, sameB_iff] at hc
        have h1 := kind_of_right hk hc.1
        rw [h] at h1 hc
        exact ⟨by rw [rightR_of h1]; exact hc.1, by rw [bytesR_of h1 hc.1]; exact hc.2⟩
      · cases h
theorem parseR_read {l : List Nat} {r : Rp} (h : parseR l = some r) : ∃ k, r = readK k l ∧ l.length ≤ 253 := by
  unfold parseR at h
  split at h
  · cases h
  · rcases hk : kindL (l.getD 0 0) with _ | k
    · rw [hk] at h; cases h
    · rw [hk] at h
      simp only [Option.bind_some] at h
      split at h
      · injection h with h
        exact ⟨k, h.symm, by omega⟩
      · cases h
theorem parseR_bytes {r : Rp} (h : rightR r = true) : parseR (bytesR r) = some r := (parse_bytesR h).1
theorem bytesR_inj {a b : Rp} (ha : rightR a = true) (hb : rightR b = true) (h : bytesR a = bytesR b) : a = b := by
  have h1 := parseR_bytes ha
  rw [h, parseR_bytes hb] at h1
  injection h1 with h1
  exact h1.symm
theorem same_bytesR {a b : Rp} (ha : rightR a = true) (hb : rightR b = true) : sameB (bytesR a) (bytesR b) = sameR a b := by
  rw [sameR_eq, sameB]
  by_cases h : a = b
  · simp [h]
  · rw [decide_eq_false h, decide_eq_false fun e => h (bytesR_inj ha hb e)]
theorem bytesR_front {a b : Rp} (ha : rightR a = true) (hb : rightR b = true) {s : List Nat} (h : bytesR b = bytesR a ++ s) : s = [] := by
  have h1 := (parse_bytesR ha).2.1 s
  have h2 := (parse_bytesR hb).2.1 []
  rw [List.append_nil, h, h1] at h2
  rw [List.length_append] at h2
  exact nil_of (by omega)
theorem parseR_less {a : Rp} (ha : rightR a = true) (k : Nat) (hk : k < (bytesR a).length) : parseR ((bytesR a).take k) = none := by
  rcases hp : parseR ((bytesR a).take k) with _ | b
  · rfl
  · obtain ⟨hb, he⟩ := parseR_some hp
    have h1 : bytesR a = bytesR b ++ (bytesR a).drop k := by rw [he, List.take_append_drop]
    have h2 := bytesR_front hb ha h1
    have : ((bytesR a).drop k).length = 0 := by rw [h2]; rfl
    rw [List.length_drop] at this
    omega
theorem parseR_more {a : Rp} (ha : rightR a = true) (s : List Nat) (hs : s ≠ []) : parseR (bytesR a ++ s) = none := by
  rcases hp : parseR (bytesR a ++ s) with _ | b
  · rfl
  · obtain ⟨hb, he⟩ := parseR_some hp
    exact absurd (bytesR_front ha hb he) hs
end Go.Proofs.Ytechhidfgheejaa
