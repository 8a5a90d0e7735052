/- Bits in bytes: the plain laws. -/
import Derived.Test.YtechhidfgheejaaWords
namespace Go.Proofs.Ytechhidfgheejaa
set_option linter.unusedSimpArgs false
set_option linter.unusedVariables false

/-- the byte of eight bits -/
def by8 (f : Nat → Bool) : Nat := (f 0).toNat + 2 * ((f 1).toNat + 2 * ((f 2).toNat + 2 * ((f 3).toNat + 2 * ((f 4).toNat + 2 * ((f 5).toNat + 2 * ((f 6).toNat + 2 * (f 7).toNat))))))
theorem tn_lt (b : Bool) : b.toNat ≤ 1 := by cases b <;> decide
theorem by8_lt (f : Nat → Bool) : by8 f < 256 := by
  unfold by8
  have := tn_lt (f 0); have := tn_lt (f 1); have := tn_lt (f 2); have := tn_lt (f 3)
  have := tn_lt (f 4); have := tn_lt (f 5); have := tn_lt (f 6); have := tn_lt (f 7)
  omega
theorem tb0 (b : Bool) (n : Nat) : (b.toNat + 2 * n).testBit 0 = b := by
  rw [Nat.testBit_zero]; cases b <;> simp [Nat.add_mod] <;> omega
theorem tbs (b : Bool) (n k : Nat) : (b.toNat + 2 * n).testBit (k + 1) = n.testBit k := by
  rw [Nat.testBit_succ]
  have : (b.toNat + 2 * n) / 2 = n := by have := tn_lt b; omega
  rw [this]
theorem by8_bit (f : Nat → Bool) (k : Nat) (hk : k < 8) : (by8 f).testBit k = f k := by
  have h7 : ((f 7).toNat).testBit 0 = f 7 := by cases f 7 <;> rfl
  unfold by8
  match k, hk with
  | 0, _ => rw [tb0]
  | 1, _ => rw [tbs, tb0]
  | 2, _ => rw [tbs, tbs, tb0]
  | 3, _ => rw [tbs, tbs, tbs, tb0]
  | 4, _ => rw [tbs, tbs, tbs, tbs, tb0]
  | 5, _ => rw [tbs, tbs, tbs, tbs, tbs, tb0]
  | 6, _ => rw [tbs, tbs, tbs, tbs, tbs, tbs, tb0]
  | 7, _ => rw [tbs, tbs, tbs, tbs, tbs, tbs, tbs, h7]
theorem lt256_bit {x : Nat} (hx : x < 256) (k : Nat) (hk : 8 ≤ k) : x.testBit k = false := Nat.testBit_lt_two_pow (Nat.lt_of_lt_of_le hx (Nat.pow_le_pow_right (by decide) hk : 2 ^ 8 ≤ 2 ^ k))
theorem byte_ext {x y : Nat} (hx : x < 256) (hy : y < 256) (h : ∀ k, k < 8 → x.testBit k = y.testBit k) : x = y := by
  refine Nat.eq_of_testBit_eq fun k => ?_
  by_cases hk : k < 8
  · exact h k hk
  · rw [lt256_bit hx k (by omega), lt256_bit hy k (by omega)]
theorem by8_congr {f g : Nat → Bool} (h : ∀ k, k < 8 → f k = g k) : by8 f = by8 g := by
  unfold by8
  rw [h 0 (by omega), h 1 (by omega), h 2 (by omega), h 3 (by omega), h 4 (by omega), h 5 (by omega), h 6 (by omega), h 7 (by omega)]
theorem by8_of {x : Nat} (hx : x < 256) : by8 (fun k => x.testBit k) = x := byte_ext (by8_lt _) hx fun k hk => by8_bit _ k hk
theorem or_lt256 {x y : Nat} (hx : x < 256) (hy : y < 256) : x ||| y < 256 := Nat.or_lt_two_pow (n := 8) hx hy
theorem by8_or (f : Nat → Bool) (k : Nat) (hk : k < 8) : by8 f ||| 2 ^ k = by8 fun i => if i = k then true else f i := by
  have h2 : 2 ^ k < 256 := Nat.lt_of_lt_of_le (Nat.pow_lt_pow_right (by decide) hk) (by decide : 2 ^ 8 ≤ 256)
  refine byte_ext (or_lt256 (by8_lt _) h2) (by8_lt _) fun i hi => ?_
  rw [Nat.testBit_or, by8_bit _ i hi, by8_bit _ i hi, Nat.testBit_two_pow]
  by_cases h : k = i
  · subst h; simp
  · simp [h, Ne.symm h]
theorem by8_none : by8 (fun _ => false) = 0 := rfl

/-- packed bits, and the bits of bytes -/
def pk (l : List Bool) : List Nat := (List.range ((l.length + 7) / 8)).map fun i => by8 fun k => l.getD (8 * i + k) false
def unpk (b : List Nat) : List Bool := (List.range (8 * b.length)).map fun i => (b.getD (i / 8) 0).testBit (i % 8)
theorem pk_length (l : List Bool) : (pk l).length = (l.length + 7) / 8 := by simp [pk]
theorem unpk_length (b : List Nat) : (unpk b).length = 8 * b.length := by simp [unpk]
theorem pk_Bs (l : List Bool) : Bs (pk l) := by
  intro x hx
  obtain ⟨i, _, rfl⟩ := List.mem_map.1 hx
  exact by8_lt _
theorem pk_get (l : List Bool) (i : Nat) (hi : i < (l.length + 7) / 8) : (pk l).getD i 0 = by8 fun k => l.getD (8 * i + k) false := by
  simp [pk, List.getD_eq_getElem?_getD, List.getElem?_map, List.getElem?_range hi]
theorem unpk_get (b : List Nat) (i : Nat) (hi : i < 8 * b.length) : (unpk b)[i]? = some ((b.getD (i / 8) 0).testBit (i % 8)) := by
  simp [unpk, List.getElem?_map, List.getElem?_range hi]
theorem getD_of {α : Type} {l : List α} {i : Nat} {x d : α} (h : l[i]? = some x) : l.getD i d = x := by rw [List.getD_eq_getElem?_getD, h]; rfl
theorem getD_out {α : Type} {l : List α} {i : Nat} {d : α} (h : l.length ≤ i) : l.getD i d = d := by rw [List.getD_eq_getElem?_getD, List.getElem?_eq_none h]; rfl
theorem unpk_pk (l : List Bool) : unpk (pk l) = l ++ List.replicate (8 * ((l.length + 7) / 8) - l.length) false := by
  refine List.ext_getElem? fun i => ?_
  by_cases hi : i < 8 * ((l.length + 7) / 8)
  · rw [unpk_get _ _ (by rw [pk_length]; exact hi), pk_get _ _ (by omega), by8_bit _ _ (by omega), show 8 * (i / 8) + i % 8 = i by omega]
    by_cases hl : i < l.length
    · rw [List.getElem?_append_left hl, List.getD_eq_getElem?_getD, List.getElem?_eq_getElem hl]; rfl
    · rw [List.getElem?_append_right (by omega), List.getElem?_replicate, if_pos (by omega), getD_out (by omega)]
  · rw [List.getElem?_eq_none (by rw [unpk_length, pk_length]; omega), List.getElem?_eq_none (by rw [List.length_append, List.length_replicate]; omega)]
theorem pk_unpk {b : List Nat} (hb : Bs b) : pk (unpk b) = b := by
  refine List.ext_getElem? fun i => ?_
  by_cases hi : i < b.length
  · have e : (pk (unpk b))[i]? = some ((pk (unpk b)).getD i 0) := by
      rw [List.getD_eq_getElem?_getD, List.getElem?_eq_getElem (by rw [pk_length, unpk_length]; omega)]; rfl
    have hx : b[i] < 256 := hb _ (List.getElem_mem hi)
    have e2 : (by8 fun k => (unpk b).getD (8 * i + k) false) = b[i] := by
      refine (by8_congr fun k hk => ?_).trans (by8_of hx)
      rw [getD_of (unpk_get b (8 * i + k) (by omega)), show (8 * i + k) / 8 = i by omega, show (8 * i + k) % 8 = k by omega, getD_of (List.getElem?_eq_getElem hi)]
    rw [e, pk_get _ _ (by rw [unpk_length]; omega), e2, List.getElem?_eq_getElem hi]
  · rw [List.getElem?_eq_none (by rw [pk_length, unpk_length]; omega), List.getElem?_eq_none (by omega)]

/-- what is packed when j bits are done, of n bytes -/
def pkTo (l : List Bool) (j n : Nat) : List Nat := (List.range n).map fun i => by8 fun k => decide (8 * i + k < j) && l.getD (8 * i + k) false
theorem pkTo_length (l : List Bool) (j n : Nat) : (pkTo l j n).length = n := by simp [pkTo]
theorem pkTo_zero (l : List Bool) (n : Nat) : pkTo l 0 n = List.replicate n 0 := by
  refine List.ext_getElem? fun i => ?_
  by_cases hi : i < n
  · simp [pkTo, List.getElem?_map, List.getElem?_range hi, List.getElem?_replicate, hi, by8_none]
  · rw [List.getElem?_eq_none (by rw [pkTo_length]; omega), List.getElem?_eq_none (by simp; omega)]
theorem pkTo_get (l : List Bool) (j n i : Nat) (hi : i < n) : (pkTo l j n)[i]? = some (by8 fun k => decide (8 * i + k < j) && l.getD (8 * i + k) false) := by
  simp [pkTo, List.getElem?_map, List.getElem?_range hi]
theorem pkTo_off (l : List Bool) (j n : Nat) (h : l[j]? = some false) : pkTo l (j + 1) n = pkTo l j n := by
  unfold pkTo
  refine List.map_congr_left fun i _ => by8_congr fun k _ => ?_
  by_cases e : 8 * i + k = j
  · rw [e, getD_of h]; simp
  · have : decide (8 * i + k < j + 1) = decide (8 * i + k < j) := by simp; omega
    rw [this]
theorem pkTo_on (l : List Bool) (j n x : Nat) (h : l[j]? = some true) (hj : j < 8 * n) (hx : (pkTo l j n)[j / 8]? = some x) : (pkTo l j n).set (j / 8) (x ||| 2 ^ (j % 8)) = pkTo l (j + 1) n := by
  have e := pkTo_get l j n (j / 8) (by omega)
  rw [hx] at e
  injection e with e
  refine List.ext_getElem? fun i => ?_
  by_cases hi : i < n
  · rw [List.getElem?_set, pkTo_length]
    by_cases h8 : j / 8 = i
    · rw [if_pos h8, if_pos (by omega), pkTo_get _ _ _ _ hi, e, by8_or _ _ (by omega)]
      refine congrArg some (by8_congr fun k hk => ?_)
      by_cases hk2 : k = j % 8
      · have : 8 * i + k = j := by omega
        rw [if_pos hk2, this, getD_of h]; simp
      · have : decide (8 * i + k < j + 1) = decide (8 * i + k < j) := by simp; omega
        rw [if_neg hk2, this, h8]
    · rw [if_neg h8, pkTo_get _ _ _ _ hi, pkTo_get _ _ _ _ hi]
      refine congrArg some (by8_congr fun k hk => ?_)
      have : decide (8 * i + k < j + 1) = decide (8 * i + k < j) := by simp; omega
      rw [this]
  · rw [List.getElem?_eq_none (by rw [List.length_set, pkTo_length]; omega), List.getElem?_eq_none (by rw [pkTo_length]; omega)]
theorem pkTo_all (l : List Bool) (n : Nat) (hn : (l.length + 7) / 8 = n) : pkTo l l.length n = pk l := by
  unfold pkTo pk
  rw [hn]
  refine List.map_congr_left fun i _ => by8_congr fun k _ => ?_
  by_cases h : 8 * i + k < l.length
  · simp [h]
  · rw [getD_out (by omega)]; simp
/-- what is unpacked when j bits are done, of n -/
def unTo (b : List Nat) (j n : Nat) : List Bool := (unpk b).take j ++ List.replicate (n - j) false
theorem unTo_zero (b : List Nat) (n : Nat) : unTo b 0 n = List.replicate n false := by simp [unTo]
theorem unTo_succ (b : List Nat) (j n : Nat) (hn : 8 * b.length = n) (hj : j < n) : (unTo b j n).set j ((b.getD (j / 8) 0).testBit (j % 8)) = unTo b (j + 1) n := by
  unfold unTo
  rw [take_snoc (unpk_get b j (by omega))]
  obtain ⟨r, hr⟩ : ∃ r, n - j = r + 1 := ⟨n - j - 1, by omega⟩
  have hl : ((unpk b).take j).length = j := by rw [List.length_take, unpk_length]; omega
  rw [hr, show n - (j + 1) = r by omega, List.replicate_succ, List.set_append_right _ _ (by omega), hl, Nat.sub_self]
  simp
theorem unTo_length (b : List Nat) (j n : Nat) (hn : 8 * b.length = n) (hj : j ≤ n) : (unTo b j n).length = n := by
  unfold unTo
  rw [List.length_append, List.length_take, List.length_replicate, unpk_length]
  omega
theorem unTo_all (b : List Nat) (n : Nat) (hn : 8 * b.length = n) : unTo b n n = unpk b := by
  unfold unTo
  rw [List.take_of_length_le (by rw [unpk_length]; omega)]
  simp
end Go.Proofs.Ytechhidfgheejaa
