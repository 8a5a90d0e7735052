/- Plain laws of requests: what is said of a right request is read as it. -/
import Derived.Test.YtechhidfgheejaaAskH
namespace Go.Proofs.Ytechhidfgheejaa
set_option linter.unusedSimpArgs false
set_option linter.unusedVariables false

theorem split256 (t : Nat) : t / 256 * 256 + t % 256 = t := by omega
theorem pw_eq (l : List Nat) (i : Nat) (h : 2 * i + 3 ≤ l.length) : pw l i = l.getD (2 * i + 1) 0 * 256 + l.getD (2 * i + 2) 0 := by
  unfold pw pairs
  rw [List.getD_eq_getElem?_getD, List.getElem?_map, List.getElem?_range (by rw [List.length_drop]; omega)]
  simp only [Option.map_some, Option.getD_some, List.getD_eq_getElem?_getD, List.getElem?_drop]
  rw [show 1 + 2 * i = 2 * i + 1 by omega, show 1 + (2 * i + 1) = 2 * i + 2 by omega]
theorem pairs_nums (l : List Nat) : pairs (nums l) = l := by
  refine List.ext_getElem? fun i => ?_
  by_cases hi : i < l.length
  · have key : ∀ (l : List Nat) (i : Nat), i < l.length → (nums l).getD (2 * i) 0 = l.getD i 0 / 256 ∧ (nums l).getD (2 * i + 1) 0 = l.getD i 0 % 256 := by
      intro l
      induction l with
      | nil => intro i h; simp at h
      | cons x l ih =>
        intro i h
        cases i with
        | zero => simp [nums]
        | succ i =>
          have := ih i (by simpa using h)
          have e1 : nums (x :: l) = x / 256 :: x % 256 :: nums l := by simp [nums]
          rw [e1, show 2 * (i + 1) = 2 * i + 1 + 1 by omega]
          simpa [List.getD_cons_succ] using this
    obtain ⟨k1, k2⟩ := key l i hi
    unfold pairs
    rw [List.getElem?_map, List.getElem?_range (by rw [nums_length]; omega), Option.map_some, k1, k2, split256, List.getD_eq_getElem?_getD, List.getElem?_eq_getElem hi]
    rfl
  · rw [List.getElem?_eq_none (by rw [pairs_length, nums_length]; omega), List.getElem?_eq_none (by omega)]
theorem parseA_some {l : List Nat} {a : Ak} (h : parseA l = some a) : readA l = some a ∧ rightA a = true ∧ bytesA a = l := by
  unfold parseA at h
  rcases hr : readA l with _ | b
  · rw [hr] at h; cases h
  · rw [hr] at h
    simp only [Option.bind_some] at h
    split at h
    · rename_i hc
      injection h with h
      subst h
      rw [Bool.and_eq_true, sameB_iff] at hc
      have e : bytesN b = bytesA b := by unfold bytesN; rw [if_pos hc.1]
      exact ⟨rfl, hc.1, by rw [← e]; exact hc.2⟩
    · cases h

theorem nil_of {α : Type} {l : List α} (h : l.length = 0) : l = [] := List.length_eq_zero_iff.1 h
theorem read_reads (f t m : Nat) (hf : f = 1 ∨ f = 2 ∨ f = 3 ∨ f = 4) : readA (bytesA ⟨f, t, m, 0, [], []⟩) = some ⟨f, t, m, 0, [], []⟩ := by
  have e : bytesA ⟨f, t, m, 0, [], []⟩ = [f, t / 256, t % 256, m / 256, m % 256] := by
    rcases hf with rfl | rfl | rfl | rfl <;> simp [bytesA, midA, tailA, shp, nums]
  have p0 : pw [f, t / 256, t % 256, m / 256, m % 256] 0 = t := by rw [pw_eq _ _ (by simp)]; exact split256 t
  have p1 : pw [f, t / 256, t % 256, m / 256, m % 256] 1 = m := by rw [pw_eq _ _ (by simp)]; exact split256 m
  rw [e]
  unfold readA
  rw [p0, p1]
  rcases hf with rfl | rfl | rfl | rfl <;> simp [shp, isFn, writtenA]
theorem read_5 (t : Nat) (x : Bool) : readA (bytesA ⟨5, t, 0, 0, [], [x]⟩) = some ⟨5, t, 0, 0, [], [x]⟩ := by
  have e : bytesA ⟨5, t, 0, 0, [], [x]⟩ = [5, t / 256, t % 256, if x then 255 else 0, 0] := by
    cases x <;> simp [bytesA, midA, tailA, shp, nums]
  rw [e]
  have p0 : ∀ y, pw [5, t / 256, t % 256, y, 0] 0 = t := by intro y; rw [pw_eq _ _ (by simp)]; exact split256 t
  unfold readA
  rw [p0]
  cases x <;> simp [shp, isFn, writtenA]
theorem read_6 (t x : Nat) : readA (bytesA ⟨6, t, 0, 0, [x], []⟩) = some ⟨6, t, 0, 0, [x], []⟩ := by
  have e : bytesA ⟨6, t, 0, 0, [x], []⟩ = [6, t / 256, t % 256] ++ nums [x] := by
    simp [bytesA, midA, tailA, shp, nums]
  have p0 : pw ([6, t / 256, t % 256] ++ nums [x]) 0 = t := by rw [pw_eq _ _ (by simp)]; exact split256 t
  rw [e]
  unfold readA
  rw [p0]
  have e2 : ([6, t / 256, t % 256] ++ nums [x]).drop 3 = nums [x] := rfl
  rw [e2]
  have e3 : writtenA 6 t 0 0 (nums [x]) = some ⟨6, t, 0, 0, [x], []⟩ := by
    unfold writtenA
    rw [pairs_nums]
    simp [shp, nums]
  simp [shp, isFn, nums]
  exact e3
theorem pw_app (p s : List Nat) (i : Nat) (h : 2 * i + 3 ≤ p.length) : pw (p ++ s) i = p.getD (2 * i + 1) 0 * 256 + p.getD (2 * i + 2) 0 := by
  rw [pw_eq _ _ (by rw [List.length_append]; omega)]
  simp only [List.getD_eq_getElem?_getD]
  rw [List.getElem?_append_left (by omega), List.getElem?_append_left (by omega)]
theorem read_15 (t : Nat) (k : List Bool) (h1 : 1 ≤ k.length) (h2 : k.length ≤ 1968) : readA (bytesA ⟨15, t, k.length, 0, [], k⟩) = some ⟨15, t, k.length, 0, [], k⟩ := by
  obtain ⟨m, hm⟩ : ∃ m, k.length = m := ⟨_, rfl⟩
  rw [hm] at h1 h2 ⊢
  have e : bytesA ⟨15, t, m, 0, [], k⟩ = [15, t / 256, t % 256, m / 256, m % 256] ++ ((pk k).length :: pk k) := by
    simp [bytesA, midA, tailA, shp, nums]
  have hp : (pk k).length = (m + 7) / 8 := by rw [pk_length, hm]
  have p0 : pw ([15, t / 256, t % 256, m / 256, m % 256] ++ ((pk k).length :: pk k)) 0 = t := by rw [pw_app _ _ _ (by simp)]; exact split256 t
  have p1 : pw ([15, t / 256, t % 256, m / 256, m % 256] ++ ((pk k).length :: pk k)) 1 = m := by rw [pw_app _ _ _ (by simp)]; exact split256 m
  have hlen : ([15, t / 256, t % 256, m / 256, m % 256] ++ ((pk k).length :: pk k)).length = 6 + (m + 7) / 8 := by simp [hp]; omega
  have e2 : ([15, t / 256, t % 256, m / 256, m % 256] ++ ((pk k).length :: pk k)).drop 5 = (pk k).length :: pk k := rfl
  have e3 : writtenA 15 t m 0 ((pk k).length :: pk k) = some ⟨15, t, m, 0, [], k⟩ := by
    unfold writtenA
    rw [if_neg (by decide), if_neg (by rw [List.length_cons, hp]; omega), if_neg (by decide), if_neg (by decide), if_pos (by decide), if_neg (by rw [List.length_cons, hp]; omega)]
    have : (unpk (pk k)).take m = k := by
      rw [unpk_pk, ← hm]; simp
    simp only [List.drop_one, List.tail_cons, this]
  rw [e]
  unfold readA
  rw [hlen, p0, p1, e2, show ([15, t / 256, t % 256, m / 256, m % 256] ++ ((pk k).length :: pk k)).getD 0 0 = 15 from rfl, e3]
  rw [if_neg (by omega)]
  rfl
theorem read_16 (t : Nat) (l : List Nat) (h1 : 1 ≤ l.length) (h2 : l.length ≤ 123) : readA (bytesA ⟨16, t, l.length, 0, l, []⟩) = some ⟨16, t, l.length, 0, l, []⟩ := by
  obtain ⟨m, hm⟩ : ∃ m, l.length = m := ⟨_, rfl⟩
  have e : bytesA ⟨16, t, l.length, 0, l, []⟩ = [16, t / 256, t % 256, m / 256, m % 256] ++ (2 * m :: nums l) := by
    simp [bytesA, midA, tailA, shp, nums, hm]
  rw [e]
  rw [hm] at h1 h2 ⊢
  have p0 : pw ([16, t / 256, t % 256, m / 256, m % 256] ++ (2 * m :: nums l)) 0 = t := by rw [pw_app _ _ _ (by simp)]; exact split256 t
  have p1 : pw ([16, t / 256, t % 256, m / 256, m % 256] ++ (2 * m :: nums l)) 1 = m := by rw [pw_app _ _ _ (by simp)]; exact split256 m
  have hlen : ([16, t / 256, t % 256, m / 256, m % 256] ++ (2 * m :: nums l)).length = 6 + 2 * m := by simp [nums_length, hm]; omega
  have e2 : ([16, t / 256, t % 256, m / 256, m % 256] ++ (2 * m :: nums l)).drop 5 = 2 * m :: nums l := rfl
  have e3 : writtenA 16 t m 0 (2 * m :: nums l) = some ⟨16, t, m, 0, l, []⟩ := by
    unfold writtenA
    rw [if_neg (by decide), if_neg (by rw [List.length_cons, nums_length]; omega), if_neg (by decide), if_neg (by decide), if_neg (by decide)]
    simp only [List.drop_one, List.tail_cons, pairs_nums]
  unfold readA
  rw [hlen, p0, p1, e2, show ([16, t / 256, t % 256, m / 256, m % 256] ++ (2 * m :: nums l)).getD 0 0 = 16 from rfl, e3]
  rw [if_neg (by omega)]
  rfl
theorem read_23 (t m o : Nat) (l : List Nat) (h1 : 1 ≤ l.length) (h2 : l.length ≤ 121) : readA (bytesA ⟨23, t, m, o, l, []⟩) = some ⟨23, t, m, o, l, []⟩ := by
  obtain ⟨n, hn⟩ : ∃ n, l.length = n := ⟨_, rfl⟩
  have e : bytesA ⟨23, t, m, o, l, []⟩ = [23, t / 256, t % 256, m / 256, m % 256, o / 256, o % 256, n / 256, n % 256] ++ (2 * n :: nums l) := by
    simp [bytesA, midA, tailA, shp, nums, hn]
  rw [e]
  rw [hn] at h1 h2
  have p0 : pw ([23, t / 256, t % 256, m / 256, m % 256, o / 256, o % 256, n / 256, n % 256] ++ (2 * n :: nums l)) 0 = t := by rw [pw_app _ _ _ (by simp)]; exact split256 t
  have p1 : pw ([23, t / 256, t % 256, m / 256, m % 256, o / 256, o % 256, n / 256, n % 256] ++ (2 * n :: nums l)) 1 = m := by rw [pw_app _ _ _ (by simp)]; exact split256 m
  have p2 : pw ([23, t / 256, t % 256, m / 256, m % 256, o / 256, o % 256, n / 256, n % 256] ++ (2 * n :: nums l)) 2 = o := by rw [pw_app _ _ _ (by simp)]; exact split256 o
  have hlen : ([23, t / 256, t % 256, m / 256, m % 256, o / 256, o % 256, n / 256, n % 256] ++ (2 * n :: nums l)).length = 10 + 2 * n := by simp [nums_length, hn]; omega
  have e2 : ([23, t / 256, t % 256, m / 256, m % 256, o / 256, o % 256, n / 256, n % 256] ++ (2 * n :: nums l)).drop 9 = 2 * n :: nums l := rfl
  have e3 : writtenA 23 t m o (2 * n :: nums l) = some ⟨23, t, m, o, l, []⟩ := by
    unfold writtenA
    rw [if_neg (by decide), if_neg (by rw [List.length_cons, nums_length]; omega), if_neg (by decide), if_neg (by decide), if_neg (by decide)]
    simp only [List.drop_one, List.tail_cons, pairs_nums]
  unfold readA
  rw [hlen, p0, p1, p2, e2, show ([23, t / 256, t % 256, m / 256, m % 256, o / 256, o % 256, n / 256, n % 256] ++ (2 * n :: nums l)).getD 0 0 = 23 from rfl, e3]
  rw [if_neg (by omega), if_neg (by decide), if_pos (by decide), if_neg (by omega)]

/-- the kinds of right requests -/
theorem right_kinds {a : Ak} (h : rightA a = true) :
    (∃ f t m, (f = 1 ∨ f = 2 ∨ f = 3 ∨ f = 4) ∧ a = ⟨f, t, m, 0, [], []⟩) ∨ (∃ t x, a = ⟨5, t, 0, 0, [], [x]⟩) ∨ (∃ t x, a = ⟨6, t, 0, 0, [x], []⟩) ∨
    (∃ t k, 1 ≤ k.length ∧ k.length ≤ 1968 ∧ a = ⟨15, t, k.length, 0, [], k⟩) ∨ (∃ t l, 1 ≤ l.length ∧ l.length ≤ 123 ∧ a = ⟨16, t, l.length, 0, l, []⟩) ∨
    (∃ t m o l, 1 ≤ l.length ∧ l.length ≤ 121 ∧ a = ⟨23, t, m, o, l, []⟩) := by
  obtain ⟨f, t, m, o, l, k⟩ := a
  unfold rightA rightN at h
  simp only [Bool.and_eq_true] at h
  obtain ⟨⟨⟨⟨⟨h0, h1⟩, h2⟩, h3⟩, h4⟩, h5⟩ := h
  unfold isFn at h0
  rw [decide_eq_true_iff] at h0
  rcases h0 with rfl | rfl | rfl | rfl | rfl | rfl | rfl | rfl | rfl <;> simp [shp, wtn] at h1 h2 h3 h4 h5
  · left; exact ⟨1, t, m, .inl rfl, by simp [h1, h3, h4]⟩
  · left; exact ⟨2, t, m, .inr (.inl rfl), by simp [h1, h3, h4]⟩
  · left; exact ⟨3, t, m, .inr (.inr (.inl rfl)), by simp [h1, h3, h4]⟩
  · left; exact ⟨4, t, m, .inr (.inr (.inr rfl)), by simp [h1, h3, h4]⟩
  · right; left
    obtain ⟨x, rfl⟩ := List.length_eq_one_iff.1 (show k.length = 1 by omega)
    exact ⟨t, x, by simp [h1, h2, h4]⟩
  · right; right; left
    obtain ⟨x, rfl⟩ := List.length_eq_one_iff.1 (show l.length = 1 by omega)
    exact ⟨t, x, by simp [h1, h2, h3]⟩
  · right; right; right; left
    exact ⟨t, k, by omega, by omega, by simp [h1, h4]; simp [h4] at h5; omega⟩
  · right; right; right; right; left
    exact ⟨t, l, by omega, by omega, by simp [h1, h3]; simp [h3] at h5; omega⟩
  · right; right; right; right; right
    exact ⟨t, m, o, l, by omega, by omega, by simp [h3]⟩
theorem read_bytes {a : Ak} (h : rightA a = true) : readA (bytesA a) = some a := by
  rcases right_kinds h with ⟨f, t, m, hf, rfl⟩ | ⟨t, x, rfl⟩ | ⟨t, x, rfl⟩ | ⟨t, k, h1, h2, rfl⟩ | ⟨t, l, h1, h2, rfl⟩ | ⟨t, m, o, l, h1, h2, rfl⟩
  · exact read_reads f t m hf
  · exact read_5 t x
  · exact read_6 t x
  · exact read_15 t k h1 h2
  · exact read_16 t l h1 h2
  · exact read_23 t m o l h1 h2
theorem bytesN_of {a : Ak} (h : rightA a = true) : bytesN a = bytesA a := by unfold bytesN; rw [if_pos h]
theorem parse_bytes {a : Ak} (h : rightA a = true) : parseA (bytesA a) = some a := by
  unfold parseA
  rw [read_bytes h, Option.bind_some, bytesN_of h, h, sameB_self]
  rfl
theorem bytes_inj {a b : Ak} (ha : rightA a = true) (hb : rightA b = true) (h : bytesA a = bytesA b) : a = b := by
  have h1 := parse_bytes ha
  rw [h, parse_bytes hb] at h1
  injection h1 with h1
  exact h1.symm
theorem same_bytes {a b : Ak} (ha : rightA a = true) (hb : rightA b = true) : sameB (bytesA a) (bytesA b) = sameA a b := by
  rw [sameA_eq, sameB]
  by_cases h : a = b
  · simp [h]
  · rw [decide_eq_false h, decide_eq_false fun e => h (bytes_inj ha hb e)]
/-- how many bytes a request that begins so has -/
def totalA (l : List Nat) : Nat :=
  if l.getD 0 0 = 15 ∨ l.getD 0 0 = 16 then 6 + l.getD 5 0 else if l.getD 0 0 = 23 then 10 + l.getD 9 0 else 5
theorem total_app {a : Ak} (h : rightA a = true) (s : List Nat) : totalA (bytesA a ++ s) = (bytesA a).length ∧ 5 ≤ (bytesA a).length ∧ (bytesA a).length ≤ 253 ∧ (bytesA a).getD 0 0 = a.fn := by
  rcases right_kinds h with ⟨f, t, m, hf, rfl⟩ | ⟨t, x, rfl⟩ | ⟨t, x, rfl⟩ | ⟨t, k, h1, h2, rfl⟩ | ⟨t, l, h1, h2, rfl⟩ | ⟨t, m, o, l, h1, h2, rfl⟩
  · rcases hf with rfl | rfl | rfl | rfl <;> simp [bytesA, midA, tailA, shp, nums, totalA]
  · cases x <;> simp [bytesA, midA, tailA, shp, nums, totalA]
  · simp [bytesA, midA, tailA, shp, nums, totalA]
  · simp [bytesA, midA, tailA, shp, nums, totalA, pk_length]; omega
  · have e : bytesA ⟨16, t, l.length, 0, l, []⟩ = [16, t / 256, t % 256, l.length / 256, l.length % 256] ++ (2 * l.length :: nums l) := by simp [bytesA, midA, tailA, shp, nums]
    rw [e]
    simp [totalA, nums_length]; omega
  · have e : bytesA ⟨23, t, m, o, l, []⟩ = [23, t / 256, t % 256, m / 256, m % 256, o / 256, o % 256, l.length / 256, l.length % 256] ++ (2 * l.length :: nums l) := by simp [bytesA, midA, tailA, shp, nums]
    rw [e]
    simp [totalA, nums_length]; omega
theorem bytes_front {a b : Ak} (ha : rightA a = true) (hb : rightA b = true) {s : List Nat} (h : bytesA b = bytesA a ++ s) : s = [] := by
  have h1 := (total_app ha s).1
  have h2 := (total_app hb []).1
  rw [List.append_nil, h, h1] at h2
  rw [List.length_append] at h2
  exact nil_of (by omega)
theorem parse_less {a : Ak} (ha : rightA a = true) (k : Nat) (hk : k < (bytesA a).length) : parseA ((bytesA a).take k) = none := by
  rcases hp : parseA ((bytesA a).take k) with _ | b
  · rfl
  · obtain ⟨_, hb, he⟩ := parseA_some hp
    have h1 : bytesA a = bytesA b ++ (bytesA a).drop k := by rw [he, List.take_append_drop]
    have h2 := bytes_front hb ha h1
    have : ((bytesA a).drop k).length = 0 := by rw [h2]; rfl
    rw [List.length_drop] at this
    omega
theorem parse_more {a : Ak} (ha : rightA a = true) (s : List Nat) (hs : s ≠ []) : parseA (bytesA a ++ s) = none := by
  rcases hp : parseA (bytesA a ++ s) with _ | b
  · rfl
  · obtain ⟨_, hb, he⟩ := parseA_some hp
    exact absurd (bytes_front ha hb he) hs
theorem right_isFn {a : Ak} (h : rightA a = true) : isFn a.fn = true := by
  unfold rightA rightN at h
  simp only [Bool.and_eq_true] at h
  exact h.1.1.1.1.1
theorem parse_fn {l : List Nat} {a : Ak} (h : parseA l = some a) : a.fn = l.getD 0 0 ∧ isFn (l.getD 0 0) = true := by
  obtain ⟨_, hr, he⟩ := parseA_some h
  have h1 := (total_app hr []).2.2.2
  rw [he] at h1
  exact ⟨h1.symm, by rw [h1]; exact right_isFn hr⟩
theorem look_fn {l : List Nat} (h : l ≠ []) : ((lookA l).2 ≠ 1 ↔ isFn (l.getD 0 0) = true) ∧ (lookA l).1.fn = l.getD 0 0 := by
  unfold lookA
  rcases hp : parseA l with _ | a
  · simp only
    rw [if_neg h]
    refine ⟨?_, rfl⟩
    cases isFn (l.getD 0 0) <;> simp
  · obtain ⟨h1, h2⟩ := parse_fn hp
    simp only
    exact ⟨⟨fun _ => h2, fun _ => by decide⟩, h1⟩
end Go.Proofs.Ytechhidfgheejaa
