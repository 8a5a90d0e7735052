/- The reference of chapter 2, plainly: what Parse makes of bytes, and that it says just what parseA says. -/
import Derived.Test.YtechhidfgheejaaRefA
namespace Go.Proofs.Ytechhidfgheejaa
set_option linter.unusedSimpArgs false
set_option linter.unusedVariables false

/-- the words from a place on -/
def wordsR (l : List Nat) (first : Nat) : List Nat := pairs (l.drop first)
/-- the bits from byte 6 on, no more than many -/
def bitsR (l : List Nat) (many : Nat) : List Bool := (unpk (l.drop 6)).take many
/-- the one request that bytes may be of -/
def refA (l : List Nat) : Ak :=
  ⟨l.getD 0 0, atR l 1, if l.getD 0 0 = 5 ∨ l.getD 0 0 = 6 then 0 else atR l 3, if l.getD 0 0 = 23 then atR l 5 else 0,
    if l.getD 0 0 = 6 then [atR l 3] else if l.getD 0 0 = 16 then wordsR l 6 else if l.getD 0 0 = 23 then wordsR l 10 else [],
    if l.getD 0 0 = 5 then [decide (atR l 3 = 65280)] else if l.getD 0 0 = 15 then bitsR l (atR l 3) else []⟩
theorem atR_app (p s : List Nat) (i : Nat) (h : i + 1 < p.length) : atR (p ++ s) i = p.getD i 0 * 256 + p.getD (i + 1) 0 := by
  unfold atR
  rw [if_pos (by rw [List.length_append]; omega)]
  simp only [List.getD_eq_getElem?_getD]
  rw [List.getElem?_append_left (by omega), List.getElem?_append_left (by omega)]
theorem ref_bytes {a : Ak} (h : rightA a = true) : refA (bytesA a) = a := by
  rcases right_kinds h with ⟨f, t, m, hf, rfl⟩ | ⟨t, x, rfl⟩ | ⟨t, x, rfl⟩ | ⟨t, k, h1, h2, rfl⟩ | ⟨t, l, h1, h2, rfl⟩ | ⟨t, m, o, l, h1, h2, rfl⟩
  · have e : bytesA ⟨f, t, m, 0, [], []⟩ = [f, t / 256, t % 256, m / 256, m % 256] := by
      rcases hf with rfl | rfl | rfl | rfl <;> simp [bytesA, midA, tailA, shp, nums]
    rw [e]
    rcases hf with rfl | rfl | rfl | rfl <;> simp [refA, atR, split256]
  · have e : bytesA ⟨5, t, 0, 0, [], [x]⟩ = [5, t / 256, t % 256, if x then 255 else 0, 0] := by
      cases x <;> simp [bytesA, midA, tailA, shp, nums]
    rw [e]
    cases x <;> simp [refA, atR, split256]
  · have e : bytesA ⟨6, t, 0, 0, [x], []⟩ = [6, t / 256, t % 256, x / 256, x % 256] := by
      simp [bytesA, midA, tailA, shp, nums]
    rw [e]
    simp [refA, atR, split256]
  · obtain ⟨m, hm⟩ : ∃ m, k.length = m := ⟨_, rfl⟩
    rw [hm]
    have e : bytesA ⟨15, t, m, 0, [], k⟩ = [15, t / 256, t % 256, m / 256, m % 256, (pk k).length] ++ pk k := by
      simp [bytesA, midA, tailA, shp, nums]
    have a1 : atR ([15, t / 256, t % 256, m / 256, m % 256, (pk k).length] ++ pk k) 1 = t := by rw [atR_app _ _ _ (by simp)]; exact split256 t
    have a3 : atR ([15, t / 256, t % 256, m / 256, m % 256, (pk k).length] ++ pk k) 3 = m := by rw [atR_app _ _ _ (by simp)]; exact split256 m
    have e0 : ([15, t / 256, t % 256, m / 256, m % 256, (pk k).length] ++ pk k).getD 0 0 = 15 := rfl
    have e6 : ([15, t / 256, t % 256, m / 256, m % 256, (pk k).length] ++ pk k).drop 6 = pk k := rfl
    have e7 : (unpk (pk k)).take m = k := by rw [unpk_pk, ← hm]; simp
    rw [e]
    unfold refA bitsR
    rw [e0, a1, a3, e6, e7]
    simp
  · obtain ⟨m, hm⟩ : ∃ m, l.length = m := ⟨_, rfl⟩
    have e : bytesA ⟨16, t, l.length, 0, l, []⟩ = [16, t / 256, t % 256, m / 256, m % 256, 2 * m] ++ nums l := by
      simp [bytesA, midA, tailA, shp, nums, hm]
    have a1 : atR ([16, t / 256, t % 256, m / 256, m % 256, 2 * m] ++ nums l) 1 = t := by rw [atR_app _ _ _ (by simp)]; exact split256 t
    have a3 : atR ([16, t / 256, t % 256, m / 256, m % 256, 2 * m] ++ nums l) 3 = m := by rw [atR_app _ _ _ (by simp)]; exact split256 m
    have e0 : ([16, t / 256, t % 256, m / 256, m % 256, 2 * m] ++ nums l).getD 0 0 = 16 := rfl
    have e6 : ([16, t / 256, t % 256, m / 256, m % 256, 2 * m] ++ nums l).drop 6 = nums l := rfl
    rw [e, hm]
    unfold refA wordsR
    rw [e0, a1, a3, e6, pairs_nums]
    simp
  · obtain ⟨n, hn⟩ : ∃ n, l.length = n := ⟨_, rfl⟩
    have e : bytesA ⟨23, t, m, o, l, []⟩ = [23, t / 256, t % 256, m / 256, m % 256, o / 256, o % 256, n / 256, n % 256, 2 * n] ++ nums l := by
      simp [bytesA, midA, tailA, shp, nums, hn]
    have a1 : atR ([23, t / 256, t % 256, m / 256, m % 256, o / 256, o % 256, n / 256, n % 256, 2 * n] ++ nums l) 1 = t := by rw [atR_app _ _ _ (by simp)]; exact split256 t
    have a3 : atR ([23, t / 256, t % 256, m / 256, m % 256, o / 256, o % 256, n / 256, n % 256, 2 * n] ++ nums l) 3 = m := by rw [atR_app _ _ _ (by simp)]; exact split256 m
    have a5 : atR ([23, t / 256, t % 256, m / 256, m % 256, o / 256, o % 256, n / 256, n % 256, 2 * n] ++ nums l) 5 = o := by rw [atR_app _ _ _ (by simp)]; exact split256 o
    have e0 : ([23, t / 256, t % 256, m / 256, m % 256, o / 256, o % 256, n / 256, n % 256, 2 * n] ++ nums l).getD 0 0 = 23 := rfl
    have e6 : ([23, t / 256, t % 256, m / 256, m % 256, o / 256, o % 256, n / 256, n % 256, 2 * n] ++ nums l).drop 10 = nums l := rfl
    rw [e]
    unfold refA wordsR
    rw [e0, a1, a3, a5, e6, pairs_nums]
    simp
theorem parse_ref (l : List Nat) : parseA l = if l.length < 5 then none else if rightA (refA l) && sameB (bytesN (refA l)) l then some (refA l) else none := by
  by_cases hc : (rightA (refA l) && sameB (bytesN (refA l)) l) = true
  · rw [if_pos hc]
    simp only [Bool.and_eq_true] at hc
    obtain ⟨hr, hs⟩ := hc
    have hs := sameB_iff.1 hs
    rw [bytesN_of hr] at hs
    have h5 := (total_app hr []).2.1
    rw [hs] at h5
    rw [if_neg (by omega)]
    have hp := parse_bytes hr
    rw [hs] at hp
    exact hp
  · rw [if_neg hc]
    have hn : parseA l = none := by
      rcases hp : parseA l with _ | a
      · rfl
      · exfalso
        apply hc
        obtain ⟨-, hr, hs⟩ := parseA_some hp
        have e : refA l = a := by rw [← hs]; exact ref_bytes hr
        rw [e, bytesN_of hr, hs, hr]
        simp [sameB_iff]
    rw [hn]
    simp
theorem wordsR_Ws {l : List Nat} (h : Bs l) (i : Nat) : Ws (wordsR l i) := pairs_Ws (fun x hx => h x (List.mem_of_mem_drop hx))
theorem refA_ok {l : List Nat} (h : Bs l) : (refA l).ok := by
  have a0 := getD_lt h 0
  have a1 := atR_lt h 1
  have a3 := atR_lt h 3
  have a5 := atR_lt h 5
  refine ⟨a0, a1, ?_, ?_, ?_⟩
  · unfold refA; simp only; split <;> omega
  · unfold refA; simp only; split <;> omega
  · unfold refA
    simp only
    split
    · exact Ws.one a3
    split
    · exact wordsR_Ws h 6
    split
    · exact wordsR_Ws h 10
    · intro x hx; cases hx
theorem wordsR_len (l : List Nat) (i : Nat) : (wordsR l i).length = (l.length - i) / 2 := by unfold wordsR; rw [pairs_length, List.length_drop]
theorem bitsR_len (l : List Nat) (m : Nat) : (bitsR l m).length = min m (8 * (l.length - 6)) := by unfold bitsR; rw [List.length_take, unpk_length, List.length_drop]
theorem refA_words (l : List Nat) (h : l.length ≤ 300) : (refA l).words.length ≤ 300 := by
  unfold refA
  simp only
  split
  · simp
  split
  · rw [wordsR_len]; omega
  split
  · rw [wordsR_len]; omega
  · simp
theorem refA_bits (l : List Nat) (h : l.length ≤ 300) : (refA l).bits.length ≤ 3000 := by
  unfold refA
  simp only
  split
  · simp
  split
  · rw [bitsR_len]; omega
  · simp
/-- the next word -/
theorem wordsR_get (l : List Nat) (i j : Nat) (h : i + 2 * j + 1 < l.length) : (wordsR l i)[j]? = some (atR l (i + 2 * j)) := by
  unfold wordsR pairs atR
  rw [List.getElem?_map, List.getElem?_range (by rw [List.length_drop]; omega), if_pos h]
  simp only [Option.map_some, List.getD_eq_getElem?_getD, List.getElem?_drop]
  rw [← Nat.add_assoc]
/-- the next bit -/
theorem bitsR_get (l : List Nat) (m i : Nat) (hm : i < m) (h : 6 + i / 8 < l.length) : (bitsR l m)[i]? = some ((l.getD (6 + i / 8) 0).testBit (i % 8)) := by
  unfold bitsR
  rw [List.getElem?_take_of_lt hm, unpk_get _ _ (by rw [List.length_drop]; omega)]
  simp only [List.getD_eq_getElem?_getD, List.getElem?_drop]
end Go.Proofs.Ytechhidfgheejaa
