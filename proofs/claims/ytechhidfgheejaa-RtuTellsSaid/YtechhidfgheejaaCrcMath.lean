/- Plain facts on the check sum: shifting, tables of four bits, linearity, injectivity. No program in sight. -/
namespace Go.Proofs.Ytechhidfgheejaa.Crc
set_option linter.unusedSimpArgs false
set_option linter.unusedVariables false

/-- one shift -/
def sh (x : Nat) : Nat := if x % 2 = 1 then (x / 2) ^^^ 40961 else x / 2
def sh4 (x : Nat) : Nat := sh (sh (sh (sh x)))
/-- one more byte -/
def nxt (s c : Nat) : Nat := sh4 (sh4 (s ^^^ c))
/-- the sum of bytes -/
def sum (l : List Nat) : Nat := l.foldl nxt 65535

theorem sh_zero : sh 0 = 0 := by decide
theorem xor_mod2 (a b : Nat) : (a ^^^ b) % 2 = (a + b) % 2 := by
  have h := @Nat.xor_mod_two_eq_one a b
  by_cases ha : a % 2 = 1 <;> by_cases hb : b % 2 = 1 <;> by_cases hx : (a ^^^ b) % 2 = 1 <;> simp only [ha, hb, hx, true_iff, iff_self, not_true, not_false_iff, iff_true, false_iff] at h <;> omega
theorem sh_xor (a b : Nat) : sh (a ^^^ b) = sh a ^^^ sh b := by
  unfold sh
  have h2 : (a ^^^ b) / 2 = a / 2 ^^^ b / 2 := Nat.xor_div_two
  have hm : (a ^^^ b) % 2 = (a + b) % 2 := xor_mod2 a b
  rw [h2, hm]
  rcases Nat.mod_two_eq_zero_or_one a with ha | ha <;> rcases Nat.mod_two_eq_zero_or_one b with hb | hb
  · rw [if_neg (by omega), if_neg (by omega), if_neg (by omega)]
  · rw [if_pos (by omega), if_neg (by omega), if_pos (by omega), Nat.xor_assoc]
  · rw [if_pos (by omega), if_pos (by omega), if_neg (by omega), Nat.xor_assoc, Nat.xor_assoc, Nat.xor_comm (b / 2)]
  · rw [if_neg (by omega), if_pos (by omega), if_pos (by omega), Nat.xor_assoc, ← Nat.xor_assoc 40961, Nat.xor_comm 40961, Nat.xor_assoc (b / 2), Nat.xor_self, Nat.xor_zero]
theorem sh4_xor (a b : Nat) : sh4 (a ^^^ b) = sh4 a ^^^ sh4 b := by simp only [sh4, sh_xor]
theorem sh_even (y : Nat) : sh (2 * y) = y := by
  unfold sh
  rw [if_neg (by omega)]
  omega
theorem sh4_16 (y : Nat) : sh4 (16 * y) = y := by
  unfold sh4
  rw [show 16 * y = 2 * (2 * (2 * (2 * y))) by omega]
  simp only [sh_even]
theorem split_xor (x : Nat) : x = (16 * (x / 16)) ^^^ (x % 16) := by
  apply Nat.eq_of_testBit_eq
  intro i
  rw [Nat.testBit_xor, show 16 * (x / 16) = 2 ^ 4 * (x / 2 ^ 4) from rfl, Nat.testBit_two_pow_mul, Nat.testBit_div_two_pow, show x % 16 = x % 2 ^ 4 from rfl, Nat.testBit_mod_two_pow]
  by_cases h : 4 ≤ i
  · have h1 : decide (i ≥ 4) = true := by simpa using h
    have h2 : decide (i < 4) = false := by simpa using h
    rw [h1, h2]
    simp only [Bool.true_and, Bool.false_and, Bool.xor_false]
    congr 1
    omega
  · have h1 : decide (i ≥ 4) = false := by simpa using h
    have h2 : decide (i < 4) = true := by simpa using h
    rw [h1, h2]
    simp
/-- four bits at a time is four shifts -/
theorem nib_eq (x : Nat) : (x / 16) ^^^ sh4 (x % 16) = sh4 x := by
  conv => rhs; rw [split_xor x]
  rw [sh4_xor, sh4_16]

theorem sh_lt {x : Nat} (h : x < 65536) : sh x < 65536 := by
  unfold sh
  split
  · exact Nat.xor_lt_two_pow (n := 16) (by omega) (by omega)
  · omega
theorem sh4_lt {x : Nat} (h : x < 65536) : sh4 x < 65536 := sh_lt (sh_lt (sh_lt (sh_lt h)))
theorem xor_lt16 {a b : Nat} (ha : a < 65536) (hb : b < 65536) : a ^^^ b < 65536 := Nat.xor_lt_two_pow (n := 16) ha hb
theorem nxt_lt {s c : Nat} (hs : s < 65536) (hc : c < 65536) : nxt s c < 65536 := sh4_lt (sh4_lt (xor_lt16 hs hc))
theorem foldl_lt (l : List Nat) : ∀ s, s < 65536 → (∀ c ∈ l, c < 256) → l.foldl nxt s < 65536 := by
  induction l with
  | nil => intro s hs _; exact hs
  | cons c l ih =>
    intro s hs h
    exact ih _ (nxt_lt hs (by have := h c (by simp); omega)) (fun x hx => h x (by simp [hx]))
theorem sum_lt {l : List Nat} (h : ∀ c ∈ l, c < 256) : sum l < 65536 := foldl_lt l _ (by omega) h
theorem sum_snoc (l : List Nat) (c : Nat) : sum (l ++ [c]) = nxt (sum l) c := by simp [sum]

/-! ### injective -/
theorem xor_cancel {a b k : Nat} (h : a ^^^ k = b ^^^ k) : a = b := by
  have := congrArg (· ^^^ k) h
  simpa [Nat.xor_assoc] using this
theorem top_xor {a : Nat} (h : a < 32768) : 32768 ≤ a ^^^ 40961 := by
  rcases Nat.lt_or_ge (a ^^^ 40961) 32768 with hl | hg
  · have h1 : (a ^^^ 40961) ^^^ a < 2 ^ 15 := Nat.xor_lt_two_pow hl h
    rw [Nat.xor_comm a, Nat.xor_assoc, Nat.xor_self, Nat.xor_zero] at h1
    omega
  · exact hg
theorem sh_inj {a b : Nat} (ha : a < 65536) (hb : b < 65536) (h : sh a = sh b) : a = b := by
  have ta := top_xor (a := a / 2) (by omega)
  have tb := top_xor (a := b / 2) (by omega)
  unfold sh at h
  rcases Nat.mod_two_eq_zero_or_one a with ma | ma <;> rcases Nat.mod_two_eq_zero_or_one b with mb | mb
  · rw [if_neg (by omega), if_neg (by omega)] at h; omega
  · rw [if_neg (by omega), if_pos (by omega)] at h; omega
  · rw [if_pos (by omega), if_neg (by omega)] at h; omega
  · rw [if_pos (by omega), if_pos (by omega)] at h
    have := xor_cancel h
    omega
theorem sh4_inj {a b : Nat} (ha : a < 65536) (hb : b < 65536) (h : sh4 a = sh4 b) : a = b :=
  sh_inj ha hb (sh_inj (sh_lt ha) (sh_lt hb) (sh_inj (sh_lt (sh_lt ha)) (sh_lt (sh_lt hb)) (sh_inj (sh_lt (sh_lt (sh_lt ha))) (sh_lt (sh_lt (sh_lt hb))) h)))
theorem nxt_inj {s t c d : Nat} (hs : s < 65536) (ht : t < 65536) (hc : c < 65536) (hd : d < 65536) (h : nxt s c = nxt t d) : s ^^^ c = t ^^^ d :=
  sh4_inj (xor_lt16 hs hc) (xor_lt16 ht hd) (sh4_inj (sh4_lt (xor_lt16 hs hc)) (sh4_lt (xor_lt16 ht hd)) h)
theorem nxt_left {s t c : Nat} (hs : s < 65536) (ht : t < 65536) (hc : c < 256) : nxt s c = nxt t c ↔ s = t :=
  ⟨fun h => xor_cancel (nxt_inj hs ht (by omega) (by omega) h), fun h => by rw [h]⟩
theorem nxt_right {s c d : Nat} (hs : s < 65536) (hc : c < 256) (hd : d < 256) : nxt s c = nxt s d ↔ c = d :=
  ⟨fun h => by
    have := nxt_inj hs hs (by omega) (by omega) h
    rw [Nat.xor_comm s c, Nat.xor_comm s d] at this
    exact xor_cancel this, fun h => by rw [h]⟩

/-! ### its own sum behind it -/
theorem nxt_eq (s c : Nat) : nxt s c = sh4 (sh4 (s ^^^ c)) := rfl
theorem sh8_256 (y : Nat) : sh4 (sh4 (256 * y)) = y := by
  rw [show 256 * y = 16 * (16 * y) by omega, sh4_16, sh4_16]
theorem sh4_zero : sh4 0 = 0 := by decide
theorem split256 (x : Nat) : x ^^^ (x % 256) = 256 * (x / 256) := by
  have h : x = (256 * (x / 256)) ^^^ (x % 256) := by
    apply Nat.eq_of_testBit_eq
    intro i
    rw [Nat.testBit_xor, show 256 * (x / 256) = 2 ^ 8 * (x / 2 ^ 8) from rfl, Nat.testBit_two_pow_mul, Nat.testBit_div_two_pow, show x % 256 = x % 2 ^ 8 from rfl, Nat.testBit_mod_two_pow]
    by_cases h : 8 ≤ i
    · have h1 : decide (i ≥ 8) = true := by simpa using h
      have h2 : decide (i < 8) = false := by simpa using h
      rw [h1, h2]
      simp only [Bool.true_and, Bool.false_and, Bool.xor_false]
      congr 1
      omega
    · have h1 : decide (i ≥ 8) = false := by simpa using h
      have h2 : decide (i < 8) = true := by simpa using h
      rw [h1, h2]
      simp
  conv => lhs; lhs; rw [h]
  rw [Nat.xor_assoc, Nat.xor_self, Nat.xor_zero]
theorem own_zero (s : Nat) : nxt (nxt s (s % 256)) (s / 256) = 0 := by
  unfold nxt
  rw [split256, sh8_256, Nat.xor_self, sh4_zero, sh4_zero]
theorem sum_put (l : List Nat) : sum (l ++ [sum l % 256, sum l / 256]) = 0 := by
  have : l ++ [sum l % 256, sum l / 256] = (l ++ [sum l % 256]) ++ [sum l / 256] := by simp
  rw [this, sum_snoc, sum_snoc]
  exact own_zero _

/-! ### linear -/
theorem nxt_xor3 (a b c x y z : Nat) : nxt (a ^^^ b ^^^ c) (x ^^^ y ^^^ z) = nxt a x ^^^ nxt b y ^^^ nxt c z := by
  unfold nxt
  rw [← sh4_xor, ← sh4_xor, ← sh4_xor, ← sh4_xor]
  congr 2
  ac_rfl
def xor3 : List Nat → List Nat → List Nat → List Nat
  | x :: a, y :: b, z :: c => (x ^^^ y ^^^ z) :: xor3 a b c
  | _, _, _ => []
theorem foldl_xor3 : ∀ (a b c : List Nat) (s t u : Nat), a.length = b.length → b.length = c.length →
    (xor3 a b c).foldl nxt (s ^^^ t ^^^ u) = a.foldl nxt s ^^^ b.foldl nxt t ^^^ c.foldl nxt u
  | [], [], [], _, _, _, _, _ => rfl
  | x :: a, y :: b, z :: c, s, t, u, h1, h2 => by
    simp only [xor3, List.foldl_cons]
    rw [nxt_xor3]
    exact foldl_xor3 a b c _ _ _ (by simpa using h1) (by simpa using h2)
theorem sum_xor3 (a b c : List Nat) (h1 : a.length = b.length) (h2 : b.length = c.length) : sum (xor3 a b c) = sum a ^^^ sum b ^^^ sum c := by
  have := foldl_xor3 a b c 65535 65535 65535 h1 h2
  simpa [sum] using this
theorem xor3_snoc : ∀ (a b c : List Nat) (x y z : Nat), a.length = b.length → b.length = c.length → xor3 (a ++ [x]) (b ++ [y]) (c ++ [z]) = xor3 a b c ++ [x ^^^ y ^^^ z]
  | [], [], [], _, _, _, _, _ => rfl
  | p :: a, q :: b, r :: c, x, y, z, h1, h2 => by
    have := xor3_snoc a b c x y z (by simpa using h1) (by simpa using h2)
    simp only [List.cons_append, xor3, this]
theorem xor3_length : ∀ (a b c : List Nat), a.length = b.length → b.length = c.length → (xor3 a b c).length = a.length
  | [], [], [], _, _ => rfl
  | p :: a, q :: b, r :: c, h1, h2 => by
    have := xor3_length a b c (by simpa using h1) (by simpa using h2)
    simp only [xor3, List.length_cons, this]
/-- the row after j rounds -/
def rowX (a b c : List Nat) (m j : Nat) : List Nat := xor3 (a.take j) (b.take j) (c.take j) ++ List.replicate (m - j) 0
theorem rowX_zero (a b c : List Nat) (m : Nat) : rowX a b c m 0 = List.replicate m 0 := by simp [rowX, xor3]
theorem rowX_full (a b c : List Nat) (m : Nat) : rowX a b c m m = xor3 (a.take m) (b.take m) (c.take m) := by simp [rowX]
theorem rowX_length (a b c : List Nat) (m j : Nat) (ha : m ≤ a.length) (hb : m ≤ b.length) (hc : m ≤ c.length) (hj : j ≤ m) : (rowX a b c m j).length = m := by
  unfold rowX
  rw [List.length_append, xor3_length _ _ _ (by simp; omega) (by simp; omega)]
  simp
  omega
theorem rowX_set (a b c : List Nat) (m j x y z : Nat) (ha : a[j]? = some x) (hb : b[j]? = some y) (hc : c[j]? = some z) (hj : j < m) :
    (rowX a b c m j).set j (x ^^^ y ^^^ z) = rowX a b c m (j + 1) := by
  have h1 := (List.getElem?_eq_some_iff.1 ha).1
  have h2 := (List.getElem?_eq_some_iff.1 hb).1
  have h3 := (List.getElem?_eq_some_iff.1 hc).1
  have hl : (xor3 (a.take j) (b.take j) (c.take j)).length = j := by rw [xor3_length _ _ _ (by simp; omega) (by simp; omega)]; simp; omega
  unfold rowX
  rw [List.take_add_one, List.take_add_one, List.take_add_one, ha, hb, hc]
  simp only [Option.toList_some]
  rw [xor3_snoc _ _ _ _ _ _ (by simp; omega) (by simp; omega), show m - j = (m - (j + 1)) + 1 by omega, List.replicate_succ, List.set_append_right _ _ (by omega), hl]
  simp
end Go.Proofs.Ytechhidfgheejaa.Crc
