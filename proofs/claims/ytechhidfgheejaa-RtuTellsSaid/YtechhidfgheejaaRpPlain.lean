/- Replies, plainly: which are right, their bytes, and what bytes say. -/
import Derived.Test.YtechhidfgheejaaAskLaw
namespace Go.Proofs.Ytechhidfgheejaa
set_option linter.unusedSimpArgs false
set_option linter.unusedVariables false

/-- a reply -/
structure Rp where
  fn : Nat
  ex : Nat
  bits : List Bool
  words : List Nat
  at_ : Nat
  many : Nat
deriving DecidableEq
def Rp.zero : Rp := ⟨0, 0, [], [], 0, 0⟩
structure Rp.ok (r : Rp) : Prop where
  fn : r.fn < 256
  ex : r.ex < 256
  words : Ws r.words
  at_ : r.at_ < 65536
  many : r.many < 65536
def sameR (a b : Rp) : Bool := decide (a.fn = b.fn) && decide (a.ex = b.ex) && decide (a.at_ = b.at_) && decide (a.many = b.many) && sameO a.bits b.bits && sameB a.words b.words
theorem sameR_iff {a b : Rp} : sameR a b = true ↔ a = b := by
  obtain ⟨a0, a1, a2, a3, a4, a5⟩ := a
  obtain ⟨b0, b1, b2, b3, b4, b5⟩ := b
  simp only [sameR, Bool.and_eq_true, decide_eq_true_eq, sameB_iff, sameO_iff, Rp.mk.injEq]
  constructor
  · rintro ⟨⟨⟨⟨⟨h0, h1⟩, h2⟩, h3⟩, h4⟩, h5⟩; exact ⟨h0, h1, h4, h5, h2, h3⟩
  · rintro ⟨h0, h1, h2, h3, h4, h5⟩; exact ⟨⟨⟨⟨⟨h0, h1⟩, h4⟩, h5⟩, h2⟩, h3⟩
theorem sameR_eq (a b : Rp) : sameR a b = decide (a = b) := by rw [Bool.eq_iff_iff, sameR_iff]; simp
theorem sameR_self (a : Rp) : sameR a a = true := sameR_iff.2 rfl

/-- kinds of replies -/
inductive Kd where
  | exc | bl | wl | ob | ow | ct (most : Nat)
deriving DecidableEq
def findK (f : Nat) : Option Kd :=
  if f = 1 ∨ f = 2 then some .bl else if f = 3 ∨ f = 4 ∨ f = 23 then some .wl else if f = 5 then some .ob else if f = 6 then some .ow
  else if f = 15 then some (.ct 1968) else if f = 16 then some (.ct 123) else none
def kindR (r : Rp) : Option Kd := if r.ex ≠ 0 then some .exc else findK r.fn
def wrongR (f x : Nat) : Rp := ⟨f % 128, x, [], [], 0, 0⟩
def rightK (k : Kd) (r : Rp) : Bool :=
  match k with
  | .exc => decide (r.fn < 128) && decide (1 ≤ r.ex) && decide (r.ex ≤ 4) && sameR r (wrongR r.fn r.ex)
  | .bl => decide (8 ≤ r.bits.length) && decide (r.bits.length ≤ 2000) && decide (r.bits.length % 8 = 0) && sameR r ⟨r.fn, 0, r.bits, [], 0, 0⟩
  | .wl => decide (1 ≤ r.words.length) && decide (r.words.length ≤ 125) && sameR r ⟨r.fn, 0, [], r.words, 0, 0⟩
  | .ob => decide (r.bits.length = 1) && sameR r ⟨r.fn, 0, r.bits, [], r.at_, 0⟩
  | .ow => decide (r.words.length = 1) && sameR r ⟨r.fn, 0, [], r.words, r.at_, 0⟩
  | .ct m => decide (1 ≤ r.many) && decide (r.many ≤ m) && sameR r ⟨r.fn, 0, [], [], r.at_, r.many⟩
def writeK (k : Kd) (r : Rp) : List Nat :=
  match k with
  | .exc => [(r.fn + 128) % 256, r.ex]
  | .bl => [r.fn, (pk r.bits).length] ++ pk r.bits
  | .wl => [r.fn, 2 * r.words.length] ++ nums r.words
  | .ob => [r.fn] ++ nums [r.at_, if r.bits.getD 0 false then 65280 else 0]
  | .ow => [r.fn] ++ nums [r.at_, r.words.getD 0 0]
  | .ct _ => [r.fn] ++ nums [r.at_, r.many]
def readK (k : Kd) (l : List Nat) : Rp :=
  match k with
  | .exc => wrongR (l.getD 0 0) (l.getD 1 0)
  | .bl => ⟨l.getD 0 0, 0, unpk (l.drop 2), [], 0, 0⟩
  | .wl => ⟨l.getD 0 0, 0, [], pairs (l.drop 2), 0, 0⟩
  | .ob => if l.length < 5 then Rp.zero else ⟨l.getD 0 0, 0, [decide (pw l 1 = 65280)], [], pw l 0, 0⟩
  | .ow => if l.length < 5 then Rp.zero else ⟨l.getD 0 0, 0, [], [pw l 1], pw l 0, 0⟩
  | .ct _ => if l.length < 5 then Rp.zero else ⟨l.getD 0 0, 0, [], [], pw l 0, pw l 1⟩
def rightR (r : Rp) : Bool := match kindR r with
  | some k => rightK k r
  | none => false
def bytesR (r : Rp) : List Nat := match kindR r with
  | some k => if rightK k r then writeK k r else []
  | none => []
def errR (r : Rp) : Nat := if rightR r then 0 else 13
/-- the kind of the replies that begin so -/
def kindL (f : Nat) : Option Kd := if f < 128 then findK f else some .exc
def parseR (l : List Nat) : Option Rp :=
  if l.length < 2 ∨ 253 < l.length then none
  else (kindL (l.getD 0 0)).bind fun k => if rightK k (readK k l) && sameB (writeK k (readK k l)) l then some (readK k l) else none

theorem bytesR_of {r : Rp} {k : Kd} (hk : kindR r = some k) (hr : rightK k r = true) : bytesR r = writeK k r := by
  unfold bytesR; rw [hk]; simp only; rw [if_pos hr]
theorem rightR_of {r : Rp} {k : Kd} (hk : kindR r = some k) : rightR r = rightK k r := by unfold rightR; rw [hk]
theorem rightR_some {r : Rp} (h : rightR r = true) : ∃ k, kindR r = some k ∧ rightK k r = true := by
  unfold rightR at h
  split at h
  · rename_i k hk; exact ⟨k, hk, h⟩
  · cases h
theorem bytesR_not {r : Rp} (h : rightR r = false) : bytesR r = [] := by
  unfold bytesR
  rcases hk : kindR r with _ | k
  · rfl
  · rw [rightR_of hk] at h
    simp only
    rw [if_neg (by simp [h])]
/-- kinds of right replies -/
theorem rightR_kinds {r : Rp} (h : rightR r = true) :
    (∃ f x, f < 128 ∧ 1 ≤ x ∧ x ≤ 4 ∧ r = ⟨f, x, [], [], 0, 0⟩) ∨ (∃ f l, (f = 1 ∨ f = 2) ∧ 8 ≤ l.length ∧ l.length ≤ 2000 ∧ l.length % 8 = 0 ∧ r = ⟨f, 0, l, [], 0, 0⟩) ∨
    (∃ f l, (f = 3 ∨ f = 4 ∨ f = 23) ∧ 1 ≤ l.length ∧ l.length ≤ 125 ∧ r = ⟨f, 0, [], l, 0, 0⟩) ∨ (∃ t x, r = ⟨5, 0, [x], [], t, 0⟩) ∨ (∃ t x, r = ⟨6, 0, [], [x], t, 0⟩) ∨
    (∃ t m, 1 ≤ m ∧ m ≤ 1968 ∧ r = ⟨15, 0, [], [], t, m⟩) ∨ (∃ t m, 1 ≤ m ∧ m ≤ 123 ∧ r = ⟨16, 0, [], [], t, m⟩) := by
  obtain ⟨k, hk, hr⟩ := rightR_some h
  obtain ⟨f, x, b, w, t, m⟩ := r
  unfold kindR at hk
  simp only at hk
  by_cases hx : x ≠ 0
  · rw [if_pos hx] at hk
    injection hk with hk
    subst hk
    simp only [rightK, Bool.and_eq_true, decide_eq_true_eq, sameR_iff, wrongR] at hr
    obtain ⟨⟨⟨h1, h2⟩, h3⟩, h4⟩ := hr
    injection h4 with _ _ e1 e2 e3 e4
    subst e1 e2 e3 e4
    left
    exact ⟨f, x, h1, h2, h3, rfl⟩
  · rw [if_neg hx] at hk
    have hx0 : x = 0 := by omega
    subst hx0
    right
    unfold findK at hk
    split at hk
    · injection hk with hk; subst hk
      simp only [rightK, Bool.and_eq_true, decide_eq_true_eq, sameR_iff, Rp.mk.injEq] at hr
      left; exact ⟨f, b, by assumption, hr.1.1.1, hr.1.1.2, hr.1.2, by simp [hr]⟩
    · split at hk
      · injection hk with hk; subst hk
        simp only [rightK, Bool.and_eq_true, decide_eq_true_eq, sameR_iff, Rp.mk.injEq] at hr
        right; left; exact ⟨f, w, by assumption, hr.1.1, hr.1.2, by simp [hr]⟩
      · split at hk
        · injection hk with hk; subst hk
          simp only [rightK, Bool.and_eq_true, decide_eq_true_eq, sameR_iff, Rp.mk.injEq] at hr
          obtain ⟨x, rfl⟩ := List.length_eq_one_iff.1 hr.1
          right; right; left; exact ⟨t, x, by simp [*]⟩
        · split at hk
          · injection hk with hk; subst hk
            simp only [rightK, Bool.and_eq_true, decide_eq_true_eq, sameR_iff, Rp.mk.injEq] at hr
            obtain ⟨x, rfl⟩ := List.length_eq_one_iff.1 hr.1
            right; right; right; left; exact ⟨t, x, by simp [*]⟩
          · split at hk
            · injection hk with hk; subst hk
              simp only [rightK, Bool.and_eq_true, decide_eq_true_eq, sameR_iff, Rp.mk.injEq] at hr
              right; right; right; right; left; exact ⟨t, m, hr.1.1, hr.1.2, by simp [*]⟩
            · split at hk
              · injection hk with hk; subst hk
                simp only [rightK, Bool.and_eq_true, decide_eq_true_eq, sameR_iff, Rp.mk.injEq] at hr
                right; right; right; right; right; exact ⟨t, m, hr.1.1, hr.1.2, by simp [*]⟩
              · cases hk
theorem pw_two (f x y : Nat) : pw ([f] ++ nums [x, y]) 0 = x ∧ pw ([f] ++ nums [x, y]) 1 = y := by
  have e : [f] ++ nums [x, y] = [f, x / 256, x % 256, y / 256, y % 256] := by simp [nums]
  rw [e]
  exact ⟨by rw [pw_eq _ _ (by simp)]; exact split256 x, by rw [pw_eq _ _ (by simp)]; exact split256 y⟩
/-- how many bytes a reply that begins so has -/
def totalR (l : List Nat) : Nat :=
  if 128 ≤ l.getD 0 0 then 2 else if l.getD 0 0 = 5 ∨ l.getD 0 0 = 6 ∨ l.getD 0 0 = 15 ∨ l.getD 0 0 = 16 then 5 else 2 + l.getD 1 0
theorem parse_bytesR {r : Rp} (h : rightR r = true) : parseR (bytesR r) = some r ∧ (∀ s, totalR (bytesR r ++ s) = (bytesR r).length) ∧ 2 ≤ (bytesR r).length ∧ (bytesR r).length ≤ 253 := by
  obtain ⟨k, hk, hr⟩ := rightR_some h
  have hB := bytesR_of hk hr
  have key : ∀ l, writeK k r = l → kindL (l.getD 0 0) = some k → readK k l = r → 2 ≤ l.length → l.length ≤ 253 → parseR l = some r := by
    intro l hl h1 h2 h3 h4
    unfold parseR
    rw [if_neg (by omega), h1, Option.bind_some, h2, hr, hl, sameB_self]
    rfl
  rcases rightR_kinds h with ⟨f, x, h1, h2, h3, rfl⟩ | ⟨f, l, hf, h1, h2, h3, rfl⟩ | ⟨f, l, hf, h1, h2, rfl⟩ | ⟨t, x, rfl⟩ | ⟨t, x, rfl⟩ | ⟨t, m, h1, h2, rfl⟩ | ⟨t, m, h1, h2, rfl⟩
  · obtain rfl : k = .exc := by
      have : kindR ⟨f, x, [], [], 0, 0⟩ = some Kd.exc := by unfold kindR; rw [if_pos (by simp only; omega)]
      rw [this] at hk; injection hk with hk; exact hk.symm
    have e : writeK .exc ⟨f, x, [], [], 0, 0⟩ = [f + 128, x] := by simp only [writeK]; rw [Nat.mod_eq_of_lt (by omega)]
    rw [hB, e]
    refine ⟨key _ e ?_ ?_ (by simp) (by simp), fun s => ?_, by simp, by simp⟩
    · unfold kindL; rw [if_neg (by simp)]
    · simp only [readK, wrongR, List.getD_cons_zero, List.getD_cons_succ]
      rw [show (f + 128) % 128 = f by omega]
    · simp [totalR]
  · obtain rfl : k = .bl := by
      have : kindR ⟨f, 0, l, [], 0, 0⟩ = some Kd.bl := by unfold kindR findK; rw [if_neg (by simp), if_pos hf]
      rw [this] at hk; injection hk with hk; exact hk.symm
    have e : writeK .bl ⟨f, 0, l, [], 0, 0⟩ = f :: (pk l).length :: pk l := rfl
    have hp := pk_length l
    have hlen : (f :: (pk l).length :: pk l).length ≤ 253 := by simp only [List.length_cons]; omega
    rw [hB, e]
    refine ⟨key _ e ?_ ?_ (by simp) hlen, fun s => ?_, by simp, hlen⟩
    · unfold kindL findK
      rw [List.getD_cons_zero, if_pos (by omega), if_pos hf]
    · simp only [readK, List.getD_cons_zero, List.drop_succ_cons, List.drop_zero]
      have : unpk (pk l) = l := by
        rw [unpk_pk]
        have : 8 * ((l.length + 7) / 8) - l.length = 0 := by omega
        rw [this]; simp
      rw [this]
    · rcases hf with rfl | rfl <;> simp [totalR] <;> omega
  · obtain rfl : k = .wl := by
      have : kindR ⟨f, 0, [], l, 0, 0⟩ = some Kd.wl := by unfold kindR findK; rw [if_neg (by simp), if_neg (by simp only; omega), if_pos hf]
      rw [this] at hk; injection hk with hk; exact hk.symm
    have e : writeK .wl ⟨f, 0, [], l, 0, 0⟩ = f :: 2 * l.length :: nums l := rfl
    have hp := nums_length l
    have hlen : (f :: 2 * l.length :: nums l).length ≤ 253 := by simp only [List.length_cons]; omega
    rw [hB, e]
    refine ⟨key _ e ?_ ?_ (by simp) hlen, fun s => ?_, by simp, hlen⟩
    · unfold kindL findK
      rw [List.getD_cons_zero, if_pos (by omega), if_neg (by omega), if_pos hf]
    · simp only [readK, List.getD_cons_zero, List.drop_succ_cons, List.drop_zero, pairs_nums]
    · rcases hf with rfl | rfl | rfl <;> simp [totalR, hp] <;> omega
  · obtain rfl : k = .ob := by injection hk with hk; exact hk.symm
    have e : writeK .ob ⟨5, 0, [x], [], t, 0⟩ = [5] ++ nums [t, if x then 65280 else 0] := rfl
    obtain ⟨p0, p1⟩ := pw_two 5 t (if x then 65280 else 0)
    rw [hB, e]
    refine ⟨key _ e rfl ?_ (by simp [nums]) (by simp [nums]), fun s => ?_, by simp [nums], by simp [nums]⟩
    · simp only [readK, p0, p1]
      rw [if_neg (by simp [nums])]
      cases x <;> rfl
    · simp [totalR, nums]
  · obtain rfl : k = .ow := by injection hk with hk; exact hk.symm
    have e : writeK .ow ⟨6, 0, [], [x], t, 0⟩ = [6] ++ nums [t, x] := rfl
    obtain ⟨p0, p1⟩ := pw_two 6 t x
    rw [hB, e]
    refine ⟨key _ e rfl ?_ (by simp [nums]) (by simp [nums]), fun s => ?_, by simp [nums], by simp [nums]⟩
    · simp only [readK, p0, p1]
      rw [if_neg (by simp [nums])]
      rfl
    · simp [totalR, nums]
  · obtain rfl : k = .ct 1968 := by injection hk with hk; exact hk.symm
    have e : writeK (.ct 1968) ⟨15, 0, [], [], t, m⟩ = [15] ++ nums [t, m] := rfl
    obtain ⟨p0, p1⟩ := pw_two 15 t m
    rw [hB, e]
    refine ⟨key _ e rfl ?_ (by simp [nums]) (by simp [nums]), fun s => ?_, by simp [nums], by simp [nums]⟩
    · simp only [readK, p0, p1]
      rw [if_neg (by simp [nums])]
      rfl
    · simp [totalR, nums]
  · obtain rfl : k = .ct 123 := by injection hk with hk; exact hk.symm
    have e : writeK (.ct 123) ⟨16, 0, [], [], t, m⟩ = [16] ++ nums [t, m] := rfl
    obtain ⟨p0, p1⟩ := pw_two 16 t m
    rw [hB, e]
    refine ⟨key _ e rfl ?_ (by simp [nums]) (by simp [nums]), fun s => ?_, by simp [nums], by simp [nums]⟩
    · simp only [readK, p0, p1]
      rw [if_neg (by simp [nums])]
      rfl
    · simp [totalR, nums]
end Go.Proofs.Ytechhidfgheejaa
