/- Frames of mbap, as plain lists. -/
import Derived.Test.YtheepgfafjinoaaWords
namespace Go.Proofs.Ytheepgfafjinoaa
set_option linter.unusedSimpArgs false
set_option linter.unusedVariables false

/-- a frame -/
structure Fr where
  tx : Nat
  unit : Nat
  pdu : List Nat
def Fr.zero : Fr := ⟨0, 0, []⟩
def Fr.ok (f : Fr) : Prop := f.tx < 65536 ∧ f.unit < 256 ∧ Bs f.pdu
def Fr.right (f : Fr) : Bool := decide (1 ≤ f.pdu.length ∧ f.pdu.length ≤ 253)
def packF (f : Fr) : List Nat := f.tx / 256 :: f.tx % 256 :: 0 :: 0 :: 0 :: (f.pdu.length + 1) :: f.unit :: f.pdu
theorem packF_length (f : Fr) : (packF f).length = f.pdu.length + 7 := by simp [packF]
theorem packF_Bs {f : Fr} (h : f.ok) (hr : f.right = true) : Bs (packF f) := by
  obtain ⟨h1, h2, h3⟩ := h
  simp only [Fr.right, decide_eq_true_eq] at hr
  intro x hx
  simp only [packF, List.mem_cons] at hx
  rcases hx with rfl | rfl | rfl | rfl | rfl | rfl | rfl | hx <;> first | omega | exact h3 x hx

/-- what is there of the noughts and the length is right -/
def okAt (l : List Nat) (i : Nat) : Bool := match l[i]? with
  | none => true
  | some x => if i = 5 then decide (2 ≤ x ∧ x ≤ 254) else decide (x = 0)
def begF (l : List Nat) : Bool := okAt l 2 && okAt l 3 && okAt l 4 && okAt l 5
/-- how many bytes the frame has that l begins with -/
def lenF (l : List Nat) : Nat := 6 + l.getD 5 0
def hasF (l : List Nat) : Bool := decide (7 < l.length) && begF l && decide (lenF l ≤ l.length)
def fstF (l : List Nat) : Fr := ⟨l.getD 0 0 * 256 + l.getD 1 0, l.getD 6 0, (l.take (lenF l)).drop 7⟩

theorem begF_len {l : List Nat} (h : begF l = true) (hl : 5 < l.length) : 8 ≤ lenF l ∧ lenF l ≤ 260 := by
  unfold begF at h
  simp only [Bool.and_eq_true] at h
  have h5 := h.2
  unfold okAt at h5
  rw [List.getElem?_eq_getElem hl] at h5
  simp only [if_true, decide_eq_true_eq] at h5
  unfold lenF
  rw [List.getD_eq_getElem?_getD, List.getElem?_eq_getElem hl]
  simp only [Option.getD_some]
  omega
theorem hasF_len {l : List Nat} (h : hasF l = true) : 8 ≤ lenF l ∧ lenF l ≤ 260 ∧ lenF l ≤ l.length ∧ begF l = true := by
  unfold hasF at h
  simp only [Bool.and_eq_true, decide_eq_true_eq] at h
  have := begF_len h.1.2 (by omega)
  exact ⟨this.1, this.2, h.2, h.1.2⟩
theorem fstF_pdu {l : List Nat} (h : hasF l = true) : (fstF l).pdu.length = lenF l - 7 := by
  have := hasF_len h
  simp only [fstF, List.length_drop, List.length_take]
  omega
theorem fstF_right {l : List Nat} (h : hasF l = true) : (fstF l).right = true := by
  have := hasF_len h
  simp only [Fr.right, fstF_pdu h, decide_eq_true_eq]
  omega
theorem getD_lt {l : List Nat} (h : Bs l) (i : Nat) : l.getD i 0 < 256 := by
  rw [List.getD_eq_getElem?_getD]
  rcases hx : l[i]? with _ | x
  · simp
  · exact h.get hx
theorem fstF_ok {l : List Nat} (h : Bs l) : (fstF l).ok := by
  have h0 := getD_lt h 0
  have h1 := getD_lt h 1
  have h6 := getD_lt h 6
  exact ⟨by simp only [fstF]; omega, h6, (h.take _).drop _⟩

/-- the frames that bytes begin with, and how many bytes they have -/
def cutN : Nat → List Nat → List Fr × Nat
  | 0, _ => ([], 0)
  | k + 1, l => if hasF l = true then (fstF l :: (cutN k (l.drop (lenF l))).1, lenF l + (cutN k (l.drop (lenF l))).2) else ([], 0)
def cutF (l : List Nat) : List Fr × Nat := cutN l.length l
theorem cutN_more : ∀ (k : Nat) (l : List Nat), l.length ≤ k → ∀ j, l.length ≤ j → cutN k l = cutN j l := by
  intro k
  induction k with
  | zero =>
    intro l hl j hj
    have h0 : hasF l = false := by
      unfold hasF
      rw [decide_eq_false (by omega)]; rfl
    cases j with
    | zero => rfl
    | succ j => simp [cutN, h0]
  | succ k ih =>
    intro l hl j hj
    by_cases h : hasF l = true
    · have hh := hasF_len h
      cases j with
      | zero => omega
      | succ j =>
        simp only [cutN, if_pos h]
        rw [ih (l.drop (lenF l)) (by simp; omega) j (by simp; omega)]
    · cases j with
      | zero => simp [cutN, h]
      | succ j => simp [cutN, h]
theorem cutF_yes {l : List Nat} (h : hasF l = true) : cutF l = (fstF l :: (cutF (l.drop (lenF l))).1, lenF l + (cutF (l.drop (lenF l))).2) := by
  have hh := hasF_len h
  unfold cutF
  obtain ⟨k, hk⟩ : ∃ k, l.length = k + 1 := ⟨l.length - 1, by omega⟩
  rw [hk]
  simp only [cutN, if_pos h]
  rw [cutN_more k (l.drop (lenF l)) (by simp; omega) (l.drop (lenF l)).length (Nat.le_refl _)]
theorem cutF_no {l : List Nat} (h : hasF l = false) : cutF l = ([], 0) := by
  unfold cutF
  cases l.length with
  | zero => rfl
  | succ k => simp [cutN, h]
theorem cutF_le : ∀ (k : Nat) (l : List Nat), l.length ≤ k → (cutF l).2 ≤ l.length := by
  intro k
  induction k with
  | zero =>
    intro l hl
    rw [cutF_no (by unfold hasF; rw [decide_eq_false (by omega)]; rfl)]
    simp
  | succ k ih =>
    intro l hl
    by_cases h : hasF l = true
    · have hh := hasF_len h
      rw [cutF_yes h]
      have := ih (l.drop (lenF l)) (by simp; omega)
      simp only [List.length_drop] at this
      simp only
      omega
    · rw [cutF_no (by simpa using h)]
      simp
theorem cutF_used (l : List Nat) : (cutF l).2 ≤ l.length := cutF_le _ l (Nat.le_refl _)
/-- what is behind the frames begins none -/
theorem cutF_rest : ∀ (k : Nat) (l : List Nat), l.length ≤ k → hasF (l.drop (cutF l).2) = false := by
  intro k
  induction k with
  | zero =>
    intro l hl
    unfold hasF; rw [decide_eq_false (by simp; omega)]; rfl
  | succ k ih =>
    intro l hl
    by_cases h : hasF l = true
    · have hh := hasF_len h
      rw [cutF_yes h]
      have := ih (l.drop (lenF l)) (by simp; omega)
      rw [List.drop_drop] at this
      exact this
    · rw [cutF_no (by simpa using h)]
      simpa using h

/-! ### what is packed -/
theorem hasF_pack (f : Fr) (r : List Nat) (hr : f.right = true) : hasF (packF f ++ r) = true ∧ lenF (packF f ++ r) = (packF f).length := by
  simp only [Fr.right, decide_eq_true_eq] at hr
  have e5 : lenF (packF f ++ r) = (packF f).length := by
    simp [lenF, packF]; omega
  refine ⟨?_, e5⟩
  unfold hasF begF
  rw [e5]
  have h7 : 7 < (packF f ++ r).length := by simp [packF_length]; omega
  have hle : (packF f).length ≤ (packF f ++ r).length := by simp
  rw [decide_eq_true h7, decide_eq_true hle]
  have a2 : okAt (packF f ++ r) 2 = true := by simp [okAt, packF]
  have a3 : okAt (packF f ++ r) 3 = true := by simp [okAt, packF]
  have a4 : okAt (packF f ++ r) 4 = true := by simp [okAt, packF]
  have a5 : okAt (packF f ++ r) 5 = true := by simp [okAt, packF]; omega
  simp [a2, a3, a4, a5]
theorem fstF_pack (f : Fr) (r : List Nat) (hr : f.right = true) (ht : f.tx < 65536) : fstF (packF f ++ r) = f := by
  obtain ⟨h1, h2⟩ := hasF_pack f r hr
  unfold fstF
  rw [h2, List.take_left' rfl]
  obtain ⟨t, u, p⟩ := f
  simp [packF]
  omega
theorem cutF_pack (f : Fr) (r : List Nat) (hr : f.right = true) (ht : f.tx < 65536) : cutF (packF f ++ r) = (f :: (cutF r).1, (packF f).length + (cutF r).2) := by
  obtain ⟨h1, h2⟩ := hasF_pack f r hr
  rw [cutF_yes h1, h2, fstF_pack f r hr ht, List.drop_left' rfl]
def flatF (l : List Fr) : List Nat := l.flatMap packF
def AllR (l : List Fr) : Prop := ∀ f ∈ l, f.right = true ∧ f.ok
theorem flatF_cons (f : Fr) (l : List Fr) : flatF (f :: l) = packF f ++ flatF l := by simp [flatF]
theorem flatF_append (a b : List Fr) : flatF (a ++ b) = flatF a ++ flatF b := by simp [flatF]
theorem flatF_Bs {l : List Fr} (h : AllR l) : Bs (flatF l) := by
  intro x hx
  obtain ⟨f, hf, hx⟩ := List.mem_flatMap.1 hx
  exact packF_Bs (h f hf).2 (h f hf).1 x hx
theorem cutF_flat : ∀ (l : List Fr) (r : List Nat), AllR l → cutF (flatF l ++ r) = (l ++ (cutF r).1, (flatF l).length + (cutF r).2)
  | [], r, _ => by simp [flatF]
  | f :: l, r, h => by
    have hf := h f (by simp)
    rw [flatF_cons, List.append_assoc, cutF_pack f _ hf.1 hf.2.1, cutF_flat l r (fun g hg => h g (by simp [hg]))]
    simp [Nat.add_assoc]

/-! ### the begin of a frame -/
theorem okAt_take (l : List Nat) (k i : Nat) (h : okAt l i = true) : okAt (l.take k) i = true := by
  unfold okAt at *
  rw [List.getElem?_take]
  split
  · rename_i h2
    split at h2
    · simp
    · simp
  · rename_i x h2
    split at h2
    · rw [h2] at h; exact h
    · cases h2
theorem begF_take {l : List Nat} (h : begF l = true) (k : Nat) : begF (l.take k) = true := by
  unfold begF at *
  simp only [Bool.and_eq_true] at *
  exact ⟨⟨⟨okAt_take l k 2 h.1.1.1, okAt_take l k 3 h.1.1.2⟩, okAt_take l k 4 h.1.2⟩, okAt_take l k 5 h.2⟩
theorem hasF_short (f : Fr) (k : Nat) (hr : f.right = true) (hk : k < (packF f).length) : hasF ((packF f).take k) = false ∧ begF ((packF f).take k) = true := by
  obtain ⟨h1, h2⟩ := hasF_pack f [] hr
  rw [List.append_nil] at h1 h2
  refine ⟨?_, begF_take (hasF_len h1).2.2.2 k⟩
  rcases Nat.lt_or_ge 7 k with h7 | h7
  · have e : lenF ((packF f).take k) = (packF f).length := by
      rw [← h2]
      unfold lenF
      rw [List.getD_eq_getElem?_getD, List.getElem?_take, if_pos (by omega), List.getD_eq_getElem?_getD]
    unfold hasF
    rw [e, decide_eq_false (p := (packF f).length ≤ _) (by simp; omega)]
    simp
  · unfold hasF
    rw [decide_eq_false (by simp; omega)]
    rfl
theorem begF_nil : begF [] = true := rfl
theorem hasF_nil : hasF [] = false := rfl
/-- a stream, as far as it has come: the frames that are whole, and the begin of one behind them -/
theorem flat_take : ∀ (l : List Fr) (k : Nat), AllR l → ∃ a b q, l = a ++ b ∧ (flatF l).take k = flatF a ++ q ∧ hasF q = false ∧ begF q = true ∧ (k < (flatF l).length ∨ b = [] ∧ q = [])
  | [], k, _ => ⟨[], [], [], rfl, by simp [flatF], rfl, rfl, .inr ⟨rfl, rfl⟩⟩
  | f :: l, k, h => by
    have hf := h f (by simp)
    rw [flatF_cons]
    rcases Nat.lt_or_ge k (packF f).length with hk | hk
    · have := hasF_short f k hf.1 hk
      refine ⟨[], f :: l, (packF f).take k, rfl, ?_, this.1, this.2, .inl (by simp; omega)⟩
      rw [List.take_append_of_le_length (by omega)]
      simp [flatF]
    · obtain ⟨a, b, q, h1, h2, h3, h4, h5⟩ := flat_take l (k - (packF f).length) (fun g hg => h g (by simp [hg]))
      refine ⟨f :: a, b, q, by rw [h1]; rfl, ?_, h3, h4, ?_⟩
      · rw [List.take_append, List.take_of_length_le hk, h2, flatF_cons, List.append_assoc]
      · rcases h5 with h5 | h5
        · left; simp; omega
        · exact .inr h5
/-- parsed is packed as it was -/
theorem pack_fstF {l : List Nat} (hl : Bs l) (h : hasF l = true) (hn : lenF l = l.length) : packF (fstF l) = l := by
  have hh := hasF_len h
  have hb := hh.2.2.2
  unfold begF at hb
  simp only [Bool.and_eq_true] at hb
  match l, hn with
  | [], hn => simp at hh; omega
  | [_], _ => simp at hh; omega
  | [_, _], _ => simp at hh; omega
  | [_, _, _], _ => simp at hh; omega
  | [_, _, _, _], _ => simp at hh; omega
  | [_, _, _, _, _], _ => simp at hh; omega
  | [_, _, _, _, _, _], _ => simp at hh; omega
  | x0 :: x1 :: x2 :: x3 :: x4 :: x5 :: x6 :: p, hn =>
    simp [okAt] at hb
    have b0 := hl x0 (by simp)
    have b1 := hl x1 (by simp)
    unfold packF fstF
    rw [hn, List.take_of_length_le (Nat.le_refl _)]
    simp [lenF] at hn ⊢
    omega
end Go.Proofs.Ytheepgfafjinoaa
