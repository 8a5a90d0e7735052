/- Plain facts on frames: a frame is right just if its sum is 0; up to 16 bits beside one another that are turned about change it. No program in sight. -/
import Derived.Test.YtgofgnaaoaoemaaCrcMath
namespace Go.Proofs.Ytgofgnaaoaoemaa.Crc
set_option linter.unusedSimpArgs false
set_option linter.unusedVariables false

/-- n shifts -/
def shM : Nat → Nat → Nat
  | 0, x => x
  | n + 1, x => shM n (sh x)
theorem shM_add (n m x : Nat) : shM (n + m) x = shM n (shM m x) := by
  induction m generalizing x with
  | zero => rfl
  | succ m ih => rw [Nat.add_succ]; exact ih (sh x)
theorem shM_xor (n a b : Nat) : shM n (a ^^^ b) = shM n a ^^^ shM n b := by
  induction n generalizing a b with
  | zero => rfl
  | succ n ih => simp only [shM, sh_xor, ih]
theorem shM_zero (n : Nat) : shM n 0 = 0 := by
  induction n with
  | zero => rfl
  | succ n ih => simp only [shM, sh_zero, ih]
theorem shM_lt (n : Nat) {x : Nat} (h : x < 65536) : shM n x < 65536 := by
  induction n generalizing x with
  | zero => exact h
  | succ n ih => exact ih (sh_lt h)
theorem shM_inj (n : Nat) {a b : Nat} (ha : a < 65536) (hb : b < 65536) (h : shM n a = shM n b) : a = b := by
  induction n generalizing a b with
  | zero => exact h
  | succ n ih => exact sh_inj ha hb (ih (sh_lt ha) (sh_lt hb) h)
theorem shM_pow (k : Nat) : shM k (2 ^ k) = 1 := by
  induction k with
  | zero => rfl
  | succ k ih =>
    simp only [shM]
    rw [Nat.pow_succ, Nat.mul_comm, sh_even]
    exact ih
theorem nxt_shM (s c : Nat) : nxt s c = shM 8 (s ^^^ c) := rfl
theorem nxt_move (s t c : Nat) : nxt (s ^^^ t) c = nxt s c ^^^ shM 8 t := by
  rw [nxt_shM, nxt_shM, ← shM_xor]
  congr 1
  ac_rfl
theorem fold_move (l : List Nat) (s t : Nat) : l.foldl nxt (s ^^^ t) = l.foldl nxt s ^^^ shM (8 * l.length) t := by
  induction l generalizing s t with
  | nil => rfl
  | cons c l ih =>
    simp only [List.foldl_cons]
    rw [nxt_move, ih, ← shM_add, List.length_cons]
    rfl
/-- a bit of a byte is turned -/
theorem sum_flip (l : List Nat) (b j x : Nat) (hx : l[b]? = some x) : sum (l.set b (x ^^^ 2 ^ j)) = sum l ^^^ shM (8 * (l.length - b)) (2 ^ j) := by
  have hb : b < l.length := (List.getElem?_eq_some_iff.1 hx).1
  have e1 : l = l.take b ++ x :: l.drop (b + 1) := by
    have := List.getElem?_eq_some_iff.1 hx
    obtain ⟨h, hv⟩ := this
    rw [← hv, ← List.drop_eq_getElem_cons h, List.take_append_drop]
  have e2 : l.set b (x ^^^ 2 ^ j) = l.take b ++ (x ^^^ 2 ^ j) :: l.drop (b + 1) := List.set_eq_take_append_cons_drop.trans (by rw [if_pos hb])
  have e3 : sum l = (l.drop (b + 1)).foldl nxt (nxt (sum (l.take b)) x) := by
    conv => lhs; rw [e1]
    simp [sum]
  rw [e2, e3]
  simp only [sum, List.foldl_append, List.foldl_cons]
  have : ∀ s, nxt s (x ^^^ 2 ^ j) = nxt s x ^^^ shM 8 (2 ^ j) := by
    intro s
    rw [nxt_shM, nxt_shM, ← shM_xor]
    congr 1
    ac_rfl
  rw [this, fold_move, ← shM_add, List.length_drop]
  congr 2
  omega
/-- bits from a place on are turned, those of a pattern: k of them are done -/
def spoilTo (l : List Nat) (at_ pat : Nat) : Nat → List Nat
  | 0 => l
  | k + 1 => if pat.testBit k && decide (at_ + k < 8 * l.length) then (spoilTo l at_ pat k).set ((at_ + k) / 8) ((spoilTo l at_ pat k).getD ((at_ + k) / 8) 0 ^^^ 2 ^ ((at_ + k) % 8)) else spoilTo l at_ pat k
def anyTo (l : List Nat) (at_ pat : Nat) : Nat → Bool
  | 0 => false
  | k + 1 => if pat.testBit k && decide (at_ + k < 8 * l.length) then true else anyTo l at_ pat k
theorem spoilTo_length (l : List Nat) (at_ pat k : Nat) : (spoilTo l at_ pat k).length = l.length := by
  induction k with
  | zero => rfl
  | succ k ih => simp only [spoilTo]; split <;> simp [ih]
theorem spoilTo_Bs {l : List Nat} (h : ∀ c ∈ l, c < 256) (at_ pat k : Nat) : ∀ c ∈ spoilTo l at_ pat k, c < 256 := by
  induction k with
  | zero => exact h
  | succ k ih =>
    simp only [spoilTo]
    split
    · intro c hc
      rcases List.mem_or_eq_of_mem_set hc with h1 | h1
      · exact ih c h1
      · rw [h1]
        refine Nat.xor_lt_two_pow (n := 8) ?_ (Nat.pow_lt_pow_right (by decide) (by omega))
        rw [List.getD_eq_getElem?_getD]
        rcases hx : (spoilTo l at_ pat k)[(at_ + k) / 8]? with _ | y
        · simp
        · exact ih y (List.mem_of_getElem? hx)
    · exact ih
theorem spoil_sum (l : List Nat) (at_ pat k : Nat) (hat : at_ < 8 * l.length) : ∃ p, p < 2 ^ k ∧ sum (spoilTo l at_ pat k) = sum l ^^^ shM (8 * l.length - at_) p ∧ (anyTo l at_ pat k = false → p = 0 ∧ spoilTo l at_ pat k = l) ∧ (anyTo l at_ pat k = true → p ≠ 0) := by
  induction k with
  | zero => exact ⟨0, by simp, by simp [spoilTo, shM_zero], fun _ => ⟨rfl, rfl⟩, by simp [anyTo]⟩
  | succ k ih =>
    obtain ⟨p, hp, h1, h2, h3⟩ := ih
    simp only [spoilTo, anyTo]
    split
    · rename_i hc
      simp only [Bool.and_eq_true, decide_eq_true_eq] at hc
      refine ⟨p ^^^ 2 ^ k, ?_, ?_, by simp, fun _ => ?_⟩
      · exact Nat.xor_lt_two_pow (Nat.lt_trans hp (Nat.pow_lt_pow_right (by decide) (by omega))) (Nat.pow_lt_pow_right (by decide) (by omega))
      · have hlt : (at_ + k) / 8 < (spoilTo l at_ pat k).length := by rw [spoilTo_length]; omega
        have hx : (spoilTo l at_ pat k)[(at_ + k) / 8]? = some ((spoilTo l at_ pat k).getD ((at_ + k) / 8) 0) := by
          rw [List.getD_eq_getElem?_getD, List.getElem?_eq_getElem hlt]; rfl
        rw [sum_flip _ _ _ _ hx, h1, spoilTo_length, shM_xor, Nat.xor_assoc]
        congr 2
        have e1 : shM (8 * (l.length - (at_ + k) / 8)) (2 ^ ((at_ + k) % 8)) = shM (8 * l.length - (at_ + k)) 1 := by
          rw [show 8 * (l.length - (at_ + k) / 8) = (8 * l.length - (at_ + k)) + (at_ + k) % 8 by omega, shM_add, shM_pow]
        have e2 : shM (8 * l.length - at_) (2 ^ k) = shM (8 * l.length - (at_ + k)) 1 := by
          rw [show 8 * l.length - at_ = (8 * l.length - (at_ + k)) + k by omega, shM_add, shM_pow]
        rw [e1, e2]
      · intro h0
        have h4 : (p ^^^ 2 ^ k).testBit k = true := by
          rw [Nat.testBit_xor, Nat.testBit_lt_two_pow hp, Nat.testBit_two_pow_self]; rfl
        rw [h0] at h4
        simp at h4
    · exact ⟨p, Nat.lt_trans hp (Nat.pow_lt_pow_right (by decide) (by omega)), h1, h2, h3⟩
theorem spoil_bad {l : List Nat} (at_ pat : Nat) (hat : at_ < 8 * l.length) (h0 : sum l = 0) (ha : anyTo l at_ pat 16 = true) : sum (spoilTo l at_ pat 16) ≠ 0 := by
  obtain ⟨p, hp, h1, -, h3⟩ := spoil_sum l at_ pat 16 hat
  rw [h1, h0, Nat.zero_xor]
  intro e
  exact h3 ha (shM_inj _ hp (by decide) (e.trans (shM_zero _).symm))
theorem spoil_same {l : List Nat} (at_ pat : Nat) (hat : at_ < 8 * l.length) (ha : anyTo l at_ pat 16 = false) : spoilTo l at_ pat 16 = l := by
  obtain ⟨p, -, -, h2, -⟩ := spoil_sum l at_ pat 16 hat
  exact (h2 ha).2
/-- its own sum stands behind just if the whole sum is 0 -/
theorem sum_own (l : List Nat) (x y : Nat) (hl : ∀ c ∈ l, c < 256) (hx : x < 256) (hy : y < 256) : sum (l ++ [x, y]) = 0 ↔ sum l = x + 256 * y := by
  have hs := sum_lt hl
  have e : l ++ [x, y] = (l ++ [x]) ++ [y] := by simp
  constructor
  · intro h
    rw [e, sum_snoc, sum_snoc] at h
    have hz : nxt (nxt (sum l) (sum l % 256)) (sum l / 256) = 0 := own_zero _
    have h1 := nxt_inj (nxt_lt hs (by omega)) (nxt_lt hs (by omega)) (by omega) (by omega) (h.trans hz.symm)
    -- nxt (sum l) x ^ y = nxt (sum l) (sum l % 256) ^ sum l / 256
    have k1 : ∀ c, c < 256 → nxt (sum l) c = shM 8 (sum l) ^^^ shM 8 c := by
      intro c _; rw [nxt_shM, shM_xor]
    rw [k1 x hx, k1 (sum l % 256) (by omega), Nat.xor_assoc, Nat.xor_assoc] at h1
    have h2 : shM 8 x ^^^ y = shM 8 (sum l % 256) ^^^ sum l / 256 := by
      have := congrArg (fun z => shM 8 (sum l) ^^^ z) h1
      simpa [← Nat.xor_assoc] using this
    -- shM 8 (256 * y) = y
    have k2 : ∀ z, shM 8 (256 * z) = z := fun z => sh8_256 z
    have h3 : shM 8 (x ^^^ 256 * y) = shM 8 (sum l % 256 ^^^ 256 * (sum l / 256)) := by
      rw [shM_xor, shM_xor, k2, k2]; exact h2
    have hxy : ∀ u v, u < 256 → v < 256 → u ^^^ 256 * v = u + 256 * v := by
      intro u v hu hv
      have : u ^^^ 256 * v = u ||| 256 * v := by
        apply Nat.eq_of_testBit_eq
        intro i
        rw [Nat.testBit_xor, Nat.testBit_or, show 256 * v = 2 ^ 8 * v from rfl, Nat.testBit_two_pow_mul]
        by_cases hi : 8 ≤ i
        · rw [Nat.testBit_lt_two_pow (Nat.lt_of_lt_of_le hu (Nat.pow_le_pow_right (by decide) hi : 2 ^ 8 ≤ 2 ^ i))]; simp
        · have : decide (i ≥ 8) = false := by simpa using hi
          rw [this]; simp
      rw [this, Nat.or_comm, show 256 * v = 2 ^ 8 * v from rfl, ← Nat.two_pow_add_eq_or_of_lt (i := 8) hu]
      omega
    have h4 := shM_inj 8 (by rw [hxy x y hx hy]; omega) (by rw [hxy _ _ (by omega) (by omega)]; omega) h3
    rw [hxy x y hx hy, hxy _ _ (by omega) (by omega)] at h4
    omega
  · intro h
    have := sum_put l
    rw [h] at this
    rw [show (x + 256 * y) % 256 = x by omega, show (x + 256 * y) / 256 = y by omega] at this
    exact this
end Go.Proofs.Ytgofgnaaoaoemaa.Crc
