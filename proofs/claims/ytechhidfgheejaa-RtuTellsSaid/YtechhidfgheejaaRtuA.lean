/- Frames: plainly; the walks of rtu.isUnit, rtu.Bytes, rtu.Parse. With: Plain facts on frames: a frame is right just if its sum is 0; up to 16 bits beside one another that are turned about change it. No program in sight. -/
import Derived.Test.YtechhidfgheejaaCrcMath
import Derived.Test.YtechhidfgheejaaCrcB
import Derived.Test.YtechhidfgheejaaMore
import Derived.RegionTactic
import Derived.ChangeAlike
namespace Go.Proofs.Ytechhidfgheejaa.Crc
set_option linter.unusedSimpArgs false
set_option linter.unusedVariables false

/-- n shifts -/
def shM : Nat → Nat → Nat
  | 0, x => x
  | n + 1, x => shM n (sh x)
theorem shM_add (n m x : Nat) : shM (n + m) x = shM n (shM m x) := by
  induction m generalizing x with
  | zero => rfl
  | succ m ih => rw [Nat.add_succ]; exact ih (sh x)
theorem shM_xor (n a b : Nat) : shM n (a ^^^ b) = shM n a ^^^ shM n b := by
  induction n generalizing a b with
  | zero => rfl
  | succ n ih => simp only [shM, sh_xor, ih]
theorem shM_zero (n : Nat) : shM n 0 = 0 := by
  induction n with
  | zero => rfl
  | succ n ih => simp only [shM, sh_zero, ih]
theorem shM_lt (n : Nat) {x : Nat} (h : x < 65536) : shM n x < 65536 := by
  induction n generalizing x with
  | zero => exact h
  | succ n ih => exact ih (sh_lt h)
theorem shM_inj (n : Nat) {a b : Nat} (ha : a < 65536) (hb : b < 65536) (h : shM n a = shM n b) : a = b := by
  induction n generalizing a b with
  | zero => exact h
  | succ n ih => exact sh_inj ha hb (ih (sh_lt ha) (sh_lt hb) h)
theorem shM_pow (k : Nat) : shM k (2 ^ k) = 1 := by
  induction k with
  | zero => rfl
  | succ k ih =>
    simp only [shM]
    rw [Nat.pow_succ, Nat.mul_comm, sh_even]
    exact ih
theorem nxt_shM (s c : Nat) : nxt s c = shM 8 (s ^^^ c) := rfl
theorem nxt_move (s t c : Nat) : nxt (s ^^^ t) c = nxt s c ^^^ shM 8 t := by
  rw [nxt_shM, nxt_shM, ← shM_xor]
  congr 1
  ac_rfl
theorem fold_move (l : List Nat) (s t : Nat) : l.foldl nxt (s ^^^ t) = l.foldl nxt s ^^^ shM (8 * l.length) t := by
  induction l generalizing s t with
  | nil => rfl
  | cons c l ih =>
    simp only [List.foldl_cons]
    rw [nxt_move, ih, ← shM_add, List.length_cons]
    rfl
/-- a bit of a byte is turned -/
theorem sum_flip (l : List Nat) (b j x : Nat) (hx : l[b]? = some x) : sum (l.set b (x ^^^ 2 ^ j)) = sum l ^^^ shM (8 * (l.length - b)) (2 ^ j) := by
  have hb : b < l.length := (List.getElem?_eq_some_iff.1 hx).1
  have e1 : l = l.take b ++ x :: l.drop (b + 1) := by
    have := List.getElem?_eq_some_iff.1 hx
    obtain ⟨h, hv⟩ := this
    rw [← hv, ← List.drop_eq_getElem_cons h, List.take_append_drop]
  have e2 : l.set b (x ^^^ 2 ^ j) = l.take b ++ (x ^^^ 2 ^ j) :: l.drop (b + 1) := List.set_eq_take_append_cons_drop.trans (by rw [if_pos hb])
  have e3 : sum l = (l.drop (b + 1)).foldl nxt (nxt (sum (l.take b)) x) := by
    conv => lhs; rw [e1]
    simp [sum]
  rw [e2, e3]
  simp only [sum, List.foldl_append, List.foldl_cons]
  have : ∀ s, nxt s (x ^^^ 2 ^ j) = nxt s x ^^^ shM 8 (2 ^ j) := by
    intro s
    rw [nxt_shM, nxt_shM, ← shM_xor]
    congr 1
    ac_rfl
  rw [this, fold_move, ← shM_add, List.length_drop]
  congr 2
  omega
/-- bits from a place on are turned, those of a pattern: k of them are done -/
def spoilTo (l : List Nat) (at_ pat : Nat) : Nat → List Nat
  | 0 => l
  | k + 1 => if pat.testBit k && decide (at_ + k < 8 * l.length) then (spoilTo l at_ pat k).set ((at_ + k) / 8) ((spoilTo l at_ pat k).getD ((at_ + k) / 8) 0 ^^^ 2 ^ ((at_ + k) % 8)) else spoilTo l at_ pat k
def anyTo (l : List Nat) (at_ pat : Nat) : Nat → Bool
  | 0 => false
  | k + 1 => if pat.testBit k && decide (at_ + k < 8 * l.length) then true else anyTo l at_ pat k
theorem spoilTo_length (l : List Nat) (at_ pat k : Nat) : (spoilTo l at_ pat k).length = l.length := by
  induction k with
  | zero => rfl
  | succ k ih => simp only [spoilTo]; split <;> simp [ih]
theorem spoilTo_Bs {l : List Nat} (h : ∀ c ∈ l, c < 256) (at_ pat k : Nat) : ∀ c ∈ spoilTo l at_ pat k, c < 256 := by
  induction k with
  | zero => exact h
  | succ k ih =>
    simp only [spoilTo]
    split
    · intro c hc
      rcases List.mem_or_eq_of_mem_set hc with h1 | h1
      · exact ih c h1
      · rw [h1]
        refine Nat.xor_lt_two_pow (n := 8) ?_ (Nat.pow_lt_pow_right (by decide) (by omega))
        rw [List.getD_eq_getElem?_getD]
        rcases hx : (spoilTo l at_ pat k)[(at_ + k) / 8]? with _ | y
        · simp
        · exact ih y (List.mem_of_getElem? hx)
    · exact ih
theorem spoil_sum (l : List Nat) (at_ pat k : Nat) (hat : at_ < 8 * l.length) : ∃ p, p < 2 ^ k ∧ sum (spoilTo l at_ pat k) = sum l ^^^ shM (8 * l.length - at_) p ∧ (anyTo l at_ pat k = false → p = 0 ∧ spoilTo l at_ pat k = l) ∧ (anyTo l at_ pat k = true → p ≠ 0) := by
  induction k with
  | zero => exact ⟨0, by simp, by simp [spoilTo, shM_zero], fun _ => ⟨rfl, rfl⟩, by simp [anyTo]⟩
  | succ k ih =>
    obtain ⟨p, hp, h1, h2, h3⟩ := ih
    simp only [spoilTo, anyTo]
    split
    · rename_i hc
      simp only [Bool.and_eq_true, decide_eq_true_eq] at hc
      refine ⟨p ^^^ 2 ^ k, ?_, ?_, by simp, fun _ => ?_⟩
      · exact Nat.xor_lt_two_pow (Nat.lt_trans hp (Nat.pow_lt_pow_right (by decide) (by omega))) (Nat.pow_lt_pow_right (by decide) (by omega))
      · have hlt : (at_ + k) / 8 < (spoilTo l at_ pat k).length := by rw [spoilTo_length]; omega
        have hx : (spoilTo l at_ pat k)[(at_ + k) / 8]? = some ((spoilTo l at_ pat k).getD ((at_ + k) / 8) 0) := by
          rw [List.getD_eq_getElem?_getD, List.getElem?_eq_getElem hlt]; rfl
        rw [sum_flip _ _ _ _ hx, h1, spoilTo_length, shM_xor, Nat.xor_assoc]
        congr 2
        have e1 : shM (8 * (l.length - (at_ + k) / 8)) (2 ^ ((at_ + k) % 8)) = shM (8 * l.length - (at_ + k)) 1 := by
          rw [show 8 * (l.length - (at_ + k) / 8) = (8 * l.length - (at_ + k)) + (at_ + k) % 8 by omega, shM_add, shM_pow]
        have e2 : shM (8 * l.length - at_) (2 ^ k) = shM (8 * l.length - (at_ + k)) 1 := by
          rw [show 8 * l.length - at_ = (8 * l.length - (at_ + k)) + k by omega, shM_add, shM_pow]
        rw [e1, e2]
      · intro h0
        have h4 : (p ^^^ 2 ^ k).testBit k = true := by
          rw [Nat.testBit_xor, Nat.testBit_lt_two_pow hp, Nat.testBit_two_pow_self]; rfl
        rw [h0] at h4
        simp at h4
    · exact ⟨p, Nat.lt_trans hp (Nat.pow_lt_pow_right (by decide) (by omega)), h1, h2, h3⟩
theorem spoil_bad {l : List Nat} (at_ pat : Nat) (hat : at_ < 8 * l.length) (h0 : sum l = 0) (ha : anyTo l at_ pat 16 = true) : sum (spoilTo l at_ pat 16) ≠ 0 := by
  obtain ⟨p, hp, h1, -, h3⟩ := spoil_sum l at_ pat 16 hat
  rw [h1, h0, Nat.zero_xor]
  intro e
  exact h3 ha (shM_inj _ hp (by decide) (e.trans (shM_zero _).symm))
theorem spoil_same {l : List Nat} (at_ pat : Nat) (hat : at_ < 8 * l.length) (ha : anyTo l at_ pat 16 = false) : spoilTo l at_ pat 16 = l := by
  obtain ⟨p, -, -, h2, -⟩ := spoil_sum l at_ pat 16 hat
  exact (h2 ha).2
/-- its own sum stands behind just if the whole sum is 0 -/
theorem sum_own (l : List Nat) (x y : Nat) (hl : ∀ c ∈ l, c < 256) (hx : x < 256) (hy : y < 256) : sum (l ++ [x, y]) = 0 ↔ sum l = x + 256 * y := by
  have hs := sum_lt hl
  have e : l ++ [x, y] = (l ++ [x]) ++ [y] := by simp
  constructor
  · intro h
    rw [e, sum_snoc, sum_snoc] at h
    have hz : nxt (nxt (sum l) (sum l % 256)) (sum l / 256) = 0 := own_zero _
    have h1 := nxt_inj (nxt_lt hs (by omega)) (nxt_lt hs (by omega)) (by omega) (by omega) (h.trans hz.symm)
    -- nxt (sum l) x ^ y = nxt (sum l) (sum l % 256) ^ sum l / 256
    have k1 : ∀ c, c < 256 → nxt (sum l) c = shM 8 (sum l) ^^^ shM 8 c := by
      intro c _; rw [nxt_shM, shM_xor]
    rw [k1 x hx, k1 (sum l % 256) (by omega), Nat.xor_assoc, Nat.xor_assoc] at h1
    have h2 : shM 8 x ^^^ y = shM 8 (sum l % 256) ^^^ sum l / 256 := by
      have := congrArg (fun z => shM 8 (sum l) ^^^ z) h1
      simpa [← Nat.xor_assoc] using this
    -- shM 8 (256 * y) = y
    have k2 : ∀ z, shM 8 (256 * z) = z := fun z => sh8_256 z
    have h3 : shM 8 (x ^^^ 256 * y) = shM 8 (sum l % 256 ^^^ 256 * (sum l / 256)) := by
      rw [shM_xor, shM_xor, k2, k2]; exact h2
    have hxy : ∀ u v, u < 256 → v < 256 → u ^^^ 256 * v = u + 256 * v := by
      intro u v hu hv
      have : u ^^^ 256 * v = u ||| 256 * v := by
        apply Nat.eq_of_testBit_eq
        intro i
        rw [Nat.testBit_xor, Nat.testBit_or, show 256 * v = 2 ^ 8 * v from rfl, Nat.testBit_two_pow_mul]
        by_cases hi : 8 ≤ i
        · rw [Nat.testBit_lt_two_pow (Nat.lt_of_lt_of_le hu (Nat.pow_le_pow_right (by decide) hi : 2 ^ 8 ≤ 2 ^ i))]; simp
        · have : decide (i ≥ 8) = false := by simpa using hi
          rw [this]; simp
      rw [this, Nat.or_comm, show 256 * v = 2 ^ 8 * v from rfl, ← Nat.two_pow_add_eq_or_of_lt (i := 8) hu]
      omega
    have h4 := shM_inj 8 (by rw [hxy x y hx hy]; omega) (by rw [hxy _ _ (by omega) (by omega)]; omega) h3
    rw [hxy x y hx hy, hxy _ _ (by omega) (by omega)] at h4
    omega
  · intro h
    have := sum_put l
    rw [h] at this
    rw [show (x + 256 * y) % 256 = x by omega, show (x + 256 * y) / 256 = y by omega] at this
    exact this
end Go.Proofs.Ytechhidfgheejaa.Crc
namespace Go.Proofs.Ytechhidfgheejaa
open Go.RowKit
set_option linter.unusedSimpArgs false
set_option linter.unusedVariables false

theorem RdN.drewK {B : Nat} {w : World} {A : Option Addr} {xs : List Value} (h : RdN B w A xs) (n : Nat) : RdN B (w.drewN n) A xs := h
theorem RdN.shift {B : Nat} {w : World} {b off : Nat} {xs : List Value} (h : RdN B w (some ⟨b, off, none⟩) xs) (k : Nat) : RdN B w (some ⟨b, off + k, none⟩) (xs.drop k) := by
  rcases h with h | ⟨b', off', hA, hB, hc⟩
  · exact .inl (by rw [h]; simp)
  · injection hA with hA
    injection hA with h1 h2
    subst h1 h2
    refine .inr ⟨b, off + k, rfl, hB, fun j u hu => ?_⟩
    rw [Nat.add_assoc]
    exact hc _ u (by rw [← hu, List.getElem?_drop])
theorem Bs.cons {u : Nat} {p : List Nat} (hu : u < 256) (hp : Bs p) : Bs (u :: p) := by
  intro x hx
  rcases List.mem_cons.1 hx with h | h
  · rw [h]; exact hu
  · exact hp x h
def isUn (u : Nat) : Bool := decide (1 ≤ u) && decide (u ≤ 247)
/-- may these bytes be framed? -/
def mayF (u : Nat) (p : List Nat) : Bool := isUn u && decide (1 ≤ p.length) && decide (p.length ≤ 253)
def frmF (u : Nat) (p : List Nat) : List Nat := if mayF u p then putL (u :: p) else []
def frmE (u : Nat) (p : List Nat) : Nat := if mayF u p then 0 else 2
def errF (l : List Nat) : Nat := if l.length < 4 ∨ 256 < l.length then 10 else if Crc.sum l ≠ 0 then 11 else if isUn (l.getD 0 0) then 0 else 10
def unitF (l : List Nat) : Nat := if errF l = 0 then l.getD 0 0 else 0
def pduF (l : List Nat) : List Nat := if errF l = 0 then (l.take (l.length - 2)).drop 1 else []
theorem putL_length (l : List Nat) : (putL l).length = l.length + 2 := by simp [putL]
theorem putL_Bs {l : List Nat} (h : Bs l) : Bs (putL l) := by
  have hs := Crc.sum_lt h
  exact h.append (by intro x hx; simp at hx; omega)
theorem last_two {l : List Nat} (h : 2 ≤ l.length) : l = l.take (l.length - 2) ++ [l.getD (l.length - 2) 0, l.getD (l.length - 1) 0] := by
  have h1 : l.drop (l.length - 2) = [l.getD (l.length - 2) 0, l.getD (l.length - 1) 0] := by
    have e1 := List.drop_eq_getElem_cons (l := l) (i := l.length - 2) (by omega)
    have e2 := List.drop_eq_getElem_cons (l := l) (i := l.length - 2 + 1) (by omega)
    rw [e1, e2, List.drop_of_length_le (by omega), List.getD_eq_getElem?_getD, List.getD_eq_getElem?_getD, List.getElem?_eq_getElem (by omega), List.getElem?_eq_getElem (by omega)]
    have : l.length - 2 + 1 = l.length - 1 := by omega
    simp only [this, Option.getD_some]
  conv => lhs; rw [← List.take_append_drop (l.length - 2) l, h1]
theorem sum_zero_iff {l : List Nat} (hl : Bs l) (h : 2 ≤ l.length) : Crc.sum l = 0 ↔ Crc.sum (l.take (l.length - 2)) = l.getD (l.length - 2) 0 + 256 * l.getD (l.length - 1) 0 := by
  conv => lhs; rw [last_two h]
  exact Crc.sum_own _ _ _ (hl.take _) (getD_lt hl _) (getD_lt hl _)

/-- what crc.Cut tells -/
def CutT (w : World) (l : List Nat) (n : Nat) (e : Ending) (w' : World) : Prop :=
  (Crc.sum l = 0 ∧ ∃ A' c', e = .returned (.tuple #[.slice A' (n - 2) c', .int .i64 0]) ∧ Ow w' w.heap.size 5 A' c' (bs (l.take (n - 2))) ∧ Below w.heap.size w w') ∨
  (Crc.sum l ≠ 0 ∧ e = .returned (.tuple #[.slice none 0 0, .int .i64 11]) ∧ Below w.heap.size w w')
theorem crc_Cut_any (b off n c : Nat) (l : List Nat) (w : World) (hA : Rd w (some ⟨b, off, none⟩) (bs l)) (hn : l.length = n) (hl : Bs l) (hm : n ≤ 1000000000) (h2 : 2 ≤ n) (hc : n ≤ c) :
    Calls Try.prog 88 #[.slice (some ⟨b, off, none⟩) n c] w fun e w' => CutT w l n e w' := by
  obtain ⟨m, rfl⟩ : ∃ m, n = m + 2 := ⟨n - 2, by omega⟩
  have k1 := hA.byteAt m (by omega)
  have k2 := hA.byteAt (m + 1) (by omega)
  have hx := getD_lt hl m
  have hy := getD_lt hl (m + 1)
  have hz := sum_zero_iff hl (by omega)
  rw [hn, show m + 2 - 2 = m by omega, show m + 2 - 1 = m + 1 by omega] at hz
  have ht : Rd w (some ⟨b, off, none⟩) (bs (l.take m)) := hA.btake m
  by_cases h0 : Crc.sum l = 0
  · refine (crc_Cut_ok b off m c _ _ (l.take m) l w ht (by rw [List.length_take]; omega) (hl.take m) (by omega) hx hy k1 k2 (by omega) hn rfl hA (hz.1 h0)).mono ?_
    rintro e w' ⟨A', c', h1, h2, h3⟩
    exact .inl ⟨h0, A', c', h1, h2, h3⟩
  · refine (crc_Cut_bad b off m c _ _ (l.take m) w ht (by rw [List.length_take]; omega) (hl.take m) (by omega) hx hy k1 k2 (by omega) (fun h => h0 (hz.2 h))).mono ?_
    rintro e w' ⟨h1, h2⟩
    exact .inr ⟨h0, h1, h2⟩

set_option maxHeartbeats 400000 in
theorem rtu_isUnit (u : Nat) (w : World) (hu : u < 256) : Calls Try.prog 85 #[.int .u8 (u : Int)] w fun e w' => e = .returned (.bool (isUn u)) ∧ w = w' := by
  by_cases h1 : 1 ≤ u
  · have v1 : decide ((1 : Int) ≤ (u : Int)) = true := decide_eq_true (by omega)
    have HV : Hid (isUn u = decide ((u : Int) ≤ 247)) := by
      (show _ = _); unfold isUn; rw [decide_eq_true h1]
      by_cases h : u ≤ 247
      · rw [decide_eq_true h, decide_eq_true (by omega)]; rfl
      · rw [decide_eq_false h, decide_eq_false (by omega)]; rfl
    go_enter Try.func85, Try.ntmps85
    go_wp2_with fail
    go_ret
    exact ⟨ret_bool HV.out.symm, rfl⟩
  · have v1 : decide ((1 : Int) ≤ (u : Int)) = false := decide_eq_false (by omega)
    have HV : Hid (isUn u = false) := by (show _ = _); unfold isUn; rw [decide_eq_false h1]; rfl
    go_enter Try.func85, Try.ntmps85
    go_wp2_with fail
    go_ret
    exact ⟨ret_bool HV.out.symm, rfl⟩

set_option maxRecDepth 100000 in
set_option maxHeartbeats 1000000 in
theorem rtu_Bytes (u : Nat) (A : Option Addr) (n c : Nat) (p : List Nat) (w : World) (hu : u < 256) (hA : Rd w A (bs p)) (hn : p.length = n) (hp : Bs p) (hbig : n ≤ 1000000) :
    Calls Try.prog 51 #[.int .u8 (u : Int), .slice A n c] w fun e w' => ∃ A' c', e = .returned (.tuple #[.slice A' (frmF u p).length c', .int .i64 (frmE u p : Nat)]) ∧ Ow w' w.heap.size 5 A' c' (bs (frmF u p)) ∧ Below w.heap.size w w' := by
  have HN := Lib.hid hn
  have hmay : mayF u p = (isUn u && decide (1 ≤ n) && decide (n ≤ 253)) := by unfold mayF; rw [hn]
  have HM := Lib.hid hmay
  have E1 := Lib.hid (fun W => rtu_isUnit u W hu)
  obtain ⟨y, hy⟩ : ∃ y, isUn u = y := ⟨_, rfl⟩
  rw [hy] at E1 HM
  clear hn hmay hy
  have bad : mayF u p = false → Hid (frmF u p = [] ∧ frmE u p = 2) := fun h => ⟨by unfold frmF; rw [if_neg (by simp [h])], by unfold frmE; rw [if_neg (by simp [h])]⟩
  have BAD := Lib.hid bad
  have hb := Below.refl w.heap.size w
  clear bad
  cases y with
  | false =>
    have HV := BAD.out (by rw [HM.out]; rfl)
    go_enter Try.func51, Try.ntmps51
    go_wp2_with fail
    refine (E1.out _).mono ?_
    rintro e w2 ⟨rfl, rfl⟩
    go_wp2_with fail
    go_ret2
    exact ⟨none, 0, by rw [HV.out.1, HV.out.2]; rfl, by rw [HV.out.1]; exact Ow.nil, hb⟩
  | true =>
    by_cases h1 : n < 1
    · have v1 : decide ((n : Int) < 1) = true := decide_eq_true (by omega)
      have HV := BAD.out (by rw [HM.out, decide_eq_false (by omega)]; rfl)
      go_enter Try.func51, Try.ntmps51
      go_wp2_with fail
      refine (E1.out _).mono ?_
      rintro e w2 ⟨rfl, rfl⟩
      go_wp2_with fail
      go_ret2
      exact ⟨none, 0, by rw [HV.out.1, HV.out.2]; rfl, by rw [HV.out.1]; exact Ow.nil, hb⟩
    · have v1 : decide ((n : Int) < 1) = false := decide_eq_false (by omega)
      by_cases h2 : 253 < n
      · have v2 : decide ((253 : Int) < (n : Int)) = true := decide_eq_true (by omega)
        have HV := BAD.out (by rw [HM.out, decide_eq_false (show ¬ n ≤ 253 by omega)]; simp)
        go_enter Try.func51, Try.ntmps51
        go_wp2_with fail
        refine (E1.out _).mono ?_
        rintro e w2 ⟨rfl, rfl⟩
        go_wp2_with fail
        go_ret2
        exact ⟨none, 0, by rw [HV.out.1, HV.out.2]; rfl, by rw [HV.out.1]; exact Ow.nil, hb⟩
      · have v2 : decide ((253 : Int) < (n : Int)) = false := decide_eq_false (by omega)
        have hm : mayF u p = true := by rw [HM.out, decide_eq_true (show 1 ≤ n by omega), decide_eq_true (show n ≤ 253 by omega)]; rfl
        have HV : Hid (frmF u p = putL (u :: p) ∧ frmE u p = 0) := ⟨by unfold frmF; rw [if_pos hm], by unfold frmE; rw [if_pos hm]⟩
        have H1 : Hid (bs [u] = [.int .u8 (u : Int)]) := rfl
        clear hm h1 h2
        go_enter Try.func51, Try.ntmps51
        go_wp2_with fail
        refine (E1.out _).mono ?_
        rintro e w2 ⟨rfl, rfl⟩
        go_wp2_with (at_builtin; refine app_b rfl _ _ rfl w (hb.alloc (Nat.le_refl _) _) _ _ _ [u] rfl (Ow.lit _ _ _ [.int .u8 (u : Int)] (Nat.le_refl _) (by simp [maxLen]) H1.out rfl) rfl A n c p rfl (hA.alloc _) HN.out (by omega) ?_)
        intro A3 c3 w3 o3 hb3 _
        have HL : Hid (([u] ++ p).length = 1 + n) := by (show _ = _); rw [List.length_append, HN.out]; rfl
        go_wp2_with fail
        refine (crc_Put A3 (1 + n) c3 ([u] ++ p) w3 o3.rd HL.out (Bs.cons hu hp) (by omega)).mono ?_
        rintro e w4 ⟨A4, c4, rfl, o4, hs⟩
        go_wp2_with fail
        go_ret2
        exact ⟨A4, c4, by rw [HV.out.1, HV.out.2, putL_length]; simp only [List.length_cons, HN.out]; rw [show n + 1 + 2 = 1 + n + 2 by omega]; rfl, by rw [HV.out.1]; exact o4.base hb3.size, bthen hb3 hs⟩

theorem slice_all_b (g m c : Nat) (h2 : 2 ≤ m) (hmc : m ≤ c) (W : World) : (Instr.slice 29 (.slice (some ⟨g, 0, none⟩) m c) (some (.int .i64 1)) (some (.int .i64 (m : Int))) (some (.int .i64 (m : Int)))).run Try.prog W = .ok (.slice (some ⟨g, 1, none⟩) (m - 1) (m - 1)) W := by
  rw [run_slice_lhm W 29 _ m c (by kernel_rfl) .i64 .i64 .i64 1 m m (by omega) (by omega) (by omega) (by omega), size_b]
  have hadd : (⟨g, 0, none⟩ : Addr).add 1 = ⟨g, 1, none⟩ := by unfold Addr.add; split <;> simp_all
  simp [Go.sliced, hadd]
  omega

set_option maxRecDepth 100000 in
set_option maxHeartbeats 1000000 in
theorem rtu_Parse (A : Option Addr) (n c : Nat) (l : List Nat) (w : World) (hA : Rd w A (bs l)) (hn : l.length = n) (hl : Bs l) (hnc : n ≤ c) (hbig : n ≤ 1000000) :
    Calls Try.prog 53 #[.slice A n c] w fun e w' => ∃ A' c', e = .returned (.tuple #[.int .u8 (unitF l : Nat), .slice A' (pduF l).length c', .int .i64 (errF l : Nat)]) ∧ RdN w.heap.size w' A' (bs (pduF l)) ∧ (pduF l).length ≤ c' ∧ Below w.heap.size w w' := by
  have HN := Lib.hid hn
  have HE : Hid (errF l = if n < 4 ∨ 256 < n then 10 else if Crc.sum l ≠ 0 then 11 else if isUn (l.getD 0 0) then 0 else 10) := by (show _ = _); unfold errF; rw [hn]
  have bad : ∀ x, errF l = x → x ≠ 0 → unitF l = 0 ∧ pduF l = [] := fun x h hx => ⟨by unfold unitF; rw [if_neg (by omega)], by unfold pduF; rw [if_neg (by omega)]⟩
  have BAD := Lib.hid bad
  have hb := Below.refl w.heap.size w
  clear hn bad
  by_cases h1 : n < 4
  · have v1 : decide ((n : Int) < 4) = true := decide_eq_true (by omega)
    have HV : Hid (errF l = 10) := by (show _ = _); rw [HE.out, if_pos (by omega)]
    go_enter Try.func53, Try.ntmps53
    go_wp2_with fail
    go_ret3
    obtain ⟨b1, b2⟩ := BAD.out 10 HV.out (by decide)
    rw [HV.out, b1, b2]
    exact ⟨none, 0, rfl, RdN.nil, Nat.le_refl _, hb⟩
  have v1 : decide ((n : Int) < 4) = false := decide_eq_false (by omega)
  by_cases h2 : 256 < n
  · have v2 : decide ((256 : Int) < (n : Int)) = true := decide_eq_true (by omega)
    have HV : Hid (errF l = 10) := by (show _ = _); rw [HE.out, if_pos (by omega)]
    go_enter Try.func53, Try.ntmps53
    go_wp2_with fail
    go_ret3
    obtain ⟨b1, b2⟩ := BAD.out 10 HV.out (by decide)
    rw [HV.out, b1, b2]
    exact ⟨none, 0, rfl, RdN.nil, Nat.le_refl _, hb⟩
  have v2 : decide ((256 : Int) < (n : Int)) = false := decide_eq_false (by omega)
  have HE2 : Hid (errF l = if Crc.sum l ≠ 0 then 11 else if isUn (l.getD 0 0) then 0 else 10) := by (show _ = _); rw [HE.out, if_neg (by omega)]
  obtain ⟨bb, off, f, rfl, hx, cx⟩ := hA.byte (k := 0) (by rw [HN.out]; omega)
  have hf := hl.get hx
  have HX : Hid (l.getD 0 0 = f) := getD_of hx
  have HX1 := Lib.hid hx
  have E1 := Lib.hid (crc_Cut_any bb off n c l w hA HN.out hl (by omega) (by omega) hnc)
  obtain ⟨m, hm⟩ : ∃ m, n - 2 = m := ⟨_, rfl⟩
  have hm2 : 2 ≤ m := by omega
  have hm3 : m ≤ 254 := by omega
  have HMN := Lib.hid hm
  clear hm hx cx HE
  go_enter Try.func53, Try.ntmps53
  go_wp2_with fail
  refine E1.out.mono ?_
  rintro e w2 hT
  unfold CutT at hT
  rw [HMN.out] at hT
  rcases hT with ⟨hs0, A2, c2, rfl, o2, hs⟩ | ⟨hs0, rfl, hs⟩
  · have HS : Hid (Crc.sum l = 0) := hs0
    have HE3 : Hid (errF l = if isUn f then 0 else 10) := by (show _ = _); rw [HE2.out, if_neg (by simp [hs0]), HX.out]
    clear hs0
    have HLM : Hid ((l.take m).length = m) := by (show _ = _); rw [List.length_take, HN.out]; have := HMN.out; omega
    obtain ⟨g2, rfl, hg2, hg2w, hc, -⟩ := o2.head (by rw [bs_length, HLM.out]; omega)
    have hc2 := o2.le.1
    rw [bs_length, HLM.out] at hc2
    have k0 := hc 0 (.int .u8 (f : Int)) (by simp only [bs, List.getElem?_map, List.getElem?_take, if_pos (show 0 < m by omega), HX1.out, Option.map_some])
    have E2 := Lib.hid (fun W => rtu_isUnit f W hf)
    obtain ⟨y, hy⟩ : ∃ y, isUn f = y := ⟨_, rfl⟩
    rw [hy] at E2 HE3
    have hm0 : 0 < m := by omega
    have hm0i : (0 : Int) < (m : Int) := by omega
    clear hc hy hg2w
    cases y with
    | false =>
      go_wp2_with fail
      refine (E2.out _).mono ?_
      rintro e w3 ⟨rfl, rfl⟩
      go_wp2_with fail
      go_ret3
      have HV : errF l = 10 := HE3.out
      obtain ⟨b1, b2⟩ := BAD.out 10 HV (by decide)
      rw [HV, b1, b2]
      exact ⟨none, 0, rfl, RdN.nil, Nat.le_refl _, hs⟩
    | true =>
      have hsl := slice_all_b g2 m c2 hm2 hc2
      go_wp2_with fail
      refine (E2.out _).mono ?_
      rintro e w3 ⟨rfl, rfl⟩
      go_upto_region 8 with fail
      go_region
      all_goals
        go_wp2_with fail
        go_ret3
        have HV : errF l = 0 := HE3.out
        have h1 : unitF l = f := by unfold unitF; rw [if_pos HV, HX.out]
        have h2 : pduF l = (l.take m).drop 1 := by unfold pduF; rw [if_pos HV, HN.out, HMN.out]
        have h3 : ((l.take m).drop 1).length = m - 1 := by rw [List.length_drop, HLM.out]
        rw [HV, h1, h2, h3]
        have hr := RdN.drewK o2.rdN 1
        refine ⟨_, m - 1, rfl, ?_, Nat.le_refl _, below_drewN hs 1⟩
        rw [bs_drop]
        exact RdN.shift hr 1
  · have HV : Hid (errF l = 11) := by (show _ = _); rw [HE2.out, if_pos hs0]
    clear hs0
    go_wp2_with fail
    go_ret3
    obtain ⟨b1, b2⟩ := BAD.out 11 HV.out (by decide)
    rw [HV.out, b1, b2]
    exact ⟨none, 0, rfl, RdN.nil, Nat.le_refl _, hs⟩
end Go.Proofs.Ytechhidfgheejaa
