/- The reference of chapter 3, plainly: what Parse makes of bytes, and that it says just what parseR says. -/
import Derived.Test.YtechhidfgheejaaRefW
import Derived.Test.YtechhidfgheejaaRpLaw
import Derived.Test.YtechhidfgheejaaRpF
namespace Go.Proofs.Ytechhidfgheejaa
open Go.RowKit
set_option linter.unusedSimpArgs false
set_option linter.unusedVariables false

/-- the one reply that bytes may be of -/
def refR (l : List Nat) : Rp :=
  ⟨if 127 < l.getD 0 0 then l.getD 0 0 - 128 else l.getD 0 0, if 127 < l.getD 0 0 then l.getD 1 0 else 0,
    if l.getD 0 0 = 1 ∨ l.getD 0 0 = 2 then unpk (l.drop 2) else if l.getD 0 0 = 5 then [decide (atR l 3 = 65280)] else [],
    if l.getD 0 0 = 3 ∨ l.getD 0 0 = 4 ∨ l.getD 0 0 = 23 then wordsR l 2 else if l.getD 0 0 = 6 then [atR l 3] else [],
    if l.getD 0 0 = 5 ∨ l.getD 0 0 = 6 ∨ l.getD 0 0 = 15 ∨ l.getD 0 0 = 16 then atR l 1 else 0,
    if l.getD 0 0 = 15 ∨ l.getD 0 0 = 16 then atR l 3 else 0⟩
theorem five_R (f x y : Nat) : atR ([f] ++ nums [x, y]) 1 = x ∧ atR ([f] ++ nums [x, y]) 3 = y ∧ ([f] ++ nums [x, y]).getD 0 0 = f := by
  have e : [f] ++ nums [x, y] = [f, x / 256, x % 256, y / 256, y % 256] := by simp [nums]
  rw [e]
  refine ⟨?_, ?_, rfl⟩ <;> simp [atR, split256]
theorem rref_bytes {r : Rp} (h : rightR r = true) : refR (bytesR r) = r := by
  obtain ⟨k, hk, hr⟩ := rightR_some h
  have hB := bytesR_of hk hr
  rw [hB]
  rcases rightR_kinds h with ⟨f, x, h1, h2, h3, rfl⟩ | ⟨f, l, hf, h1, h2, h3, rfl⟩ | ⟨f, l, hf, h1, h2, rfl⟩ | ⟨t, x, rfl⟩ | ⟨t, x, rfl⟩ | ⟨t, m, h1, h2, rfl⟩ | ⟨t, m, h1, h2, rfl⟩
  · obtain rfl : k = .exc := by
      have : kindR ⟨f, x, [], [], 0, 0⟩ = some Kd.exc := by unfold kindR; rw [if_pos (by simp only; omega)]
      rw [this] at hk; injection hk with hk; exact hk.symm
    have e : writeK .exc ⟨f, x, [], [], 0, 0⟩ = [f + 128, x] := by simp only [writeK]; rw [Nat.mod_eq_of_lt (by omega)]
    rw [e]
    unfold refR
    simp only [List.getD_cons_zero, List.getD_cons_succ]
    rw [if_pos (by omega), if_pos (by omega), if_neg (by omega), if_neg (by omega), if_neg (by omega), if_neg (by omega), if_neg (by omega), if_neg (by omega), Nat.add_sub_cancel]
  · obtain rfl : k = .bl := by
      have : kindR ⟨f, 0, l, [], 0, 0⟩ = some Kd.bl := by unfold kindR findK; rw [if_neg (by simp), if_pos hf]
      rw [this] at hk; injection hk with hk; exact hk.symm
    have e : writeK .bl ⟨f, 0, l, [], 0, 0⟩ = f :: (pk l).length :: pk l := rfl
    rw [e]
    unfold refR
    have hu : unpk (pk l) = l := by
      rw [unpk_pk]
      have : 8 * ((l.length + 7) / 8) - l.length = 0 := by omega
      rw [this]; simp
    simp only [List.getD_cons_zero, List.drop_succ_cons, List.drop_zero]
    rw [if_neg (by omega), if_neg (by omega), if_pos hf, if_neg (by omega), if_neg (by omega), if_neg (by omega), if_neg (by omega), hu]
  · obtain rfl : k = .wl := by
      have : kindR ⟨f, 0, [], l, 0, 0⟩ = some Kd.wl := by unfold kindR findK; rw [if_neg (by simp), if_neg (by simp only; omega), if_pos hf]
      rw [this] at hk; injection hk with hk; exact hk.symm
    have e : writeK .wl ⟨f, 0, [], l, 0, 0⟩ = f :: 2 * l.length :: nums l := rfl
    rw [e]
    unfold refR wordsR
    simp only [List.getD_cons_zero, List.drop_succ_cons, List.drop_zero]
    rw [if_neg (by omega), if_neg (by omega), if_neg (by omega), if_neg (by omega), if_pos hf, if_neg (by omega), if_neg (by omega), pairs_nums]
  · obtain rfl : k = .ob := by injection hk with hk; exact hk.symm
    have e : writeK .ob ⟨5, 0, [x], [], t, 0⟩ = [5] ++ nums [t, if x then 65280 else 0] := rfl
    obtain ⟨p0, p1, p2⟩ := five_R 5 t (if x then 65280 else 0)
    rw [e]
    unfold refR
    rw [p0, p1, p2]
    cases x <;> simp
  · obtain rfl : k = .ow := by injection hk with hk; exact hk.symm
    have e : writeK .ow ⟨6, 0, [], [x], t, 0⟩ = [6] ++ nums [t, x] := rfl
    obtain ⟨p0, p1, p2⟩ := five_R 6 t x
    rw [e]
    unfold refR
    rw [p0, p1, p2]
    simp
  · obtain rfl : k = .ct 1968 := by injection hk with hk; exact hk.symm
    have e : writeK (.ct 1968) ⟨15, 0, [], [], t, m⟩ = [15] ++ nums [t, m] := rfl
    obtain ⟨p0, p1, p2⟩ := five_R 15 t m
    rw [e]
    unfold refR
    rw [p0, p1, p2]
    simp
  · obtain rfl : k = .ct 123 := by injection hk with hk; exact hk.symm
    have e : writeK (.ct 123) ⟨16, 0, [], [], t, m⟩ = [16] ++ nums [t, m] := rfl
    obtain ⟨p0, p1, p2⟩ := five_R 16 t m
    rw [e]
    unfold refR
    rw [p0, p1, p2]
    simp
theorem parse_rref (l : List Nat) : parseR l = if l.length < 2 then none else if rightR (refR l) && sameB (bytesR (refR l)) l then some (refR l) else none := by
  by_cases hc : (rightR (refR l) && sameB (bytesR (refR l)) l) = true
  · rw [if_pos hc]
    simp only [Bool.and_eq_true] at hc
    obtain ⟨hr, hs⟩ := hc
    have hs := sameB_iff.1 hs
    obtain ⟨hp, -, h2, -⟩ := parse_bytesR hr
    rw [hs] at hp h2
    rw [if_neg (by omega)]
    exact hp
  · rw [if_neg hc]
    have hn : parseR l = none := by
      rcases hp : parseR l with _ | a
      · rfl
      · exfalso
        apply hc
        obtain ⟨hr, hs⟩ := parseR_some hp
        have e : refR l = a := by rw [← hs]; exact rref_bytes hr
        rw [e, hs, hr]
        simp [sameB_iff]
    rw [hn]
    simp
theorem refR_ok {l : List Nat} (h : Bs l) : (refR l).ok := by
  have a0 := getD_lt h 0
  have a00 := getD_lt h 1
  have a1 := atR_lt h 1
  have a3 := atR_lt h 3
  refine ⟨?_, ?_, ?_, ?_, ?_⟩
  · unfold refR; simp only; split <;> omega
  · unfold refR; simp only; split <;> omega
  · unfold refR
    simp only
    split
    · exact wordsR_Ws h 2
    split
    · exact Ws.one a3
    · intro x hx; cases hx
  · unfold refR; simp only; split <;> omega
  · unfold refR; simp only; split <;> omega
theorem refR_words (l : List Nat) (h : l.length ≤ 300) : (refR l).words.length ≤ 300 := by
  unfold refR
  simp only
  split
  · rw [wordsR_len]; omega
  split
  · simp
  · simp
theorem refR_bits (l : List Nat) (h : l.length ≤ 300) : (refR l).bits.length ≤ 3000 := by
  unfold refR
  simp only
  split
  · rw [unpk_length, List.length_drop]; omega
  split
  · simp
  · simp
theorem refR_st {l : List Nat} {f y t m : Nat} (hf : l.getD 0 0 = f) (hy : l.getD 1 0 = y) (ht : atR l 1 = t) (hm : atR l 3 = m) :
    refR l = ⟨if 127 < f then f - 128 else f, if 127 < f then y else 0, if f = 1 ∨ f = 2 then unpk (l.drop 2) else if f = 5 then [decide (m = 65280)] else [],
      if f = 3 ∨ f = 4 ∨ f = 23 then wordsR l 2 else if f = 6 then [m] else [], if f = 5 ∨ f = 6 ∨ f = 15 ∨ f = 16 then t else 0, if f = 15 ∨ f = 16 then m else 0⟩ := by
  unfold refR; rw [hf, hy, ht, hm]
/-- a reply's cells -/
def rpc (k : Rp) (A : Option Addr) (c : Nat) (B : Option Addr) (d : Nat) : Array Value := #[.int .u8 (k.fn : Int), .int .u8 (k.ex : Int), .slice B k.bits.length d, .slice A k.words.length c, .int .u16 (k.at_ : Int), .int .u16 (k.many : Int)]
/-- the reply k stands in box g, its rows in memory of the call's own -/
def StR (w1 W : World) (g : Nat) (k : Rp) : Prop := ∃ A c B d, Blk W g 36 (rpc k A c B d) ∧ Ow W w1.heap.size 34 A c (ws k.words) ∧ Ow W w1.heap.size 4 B d (os k.bits) ∧ Below w1.heap.size w1 W
theorem StR.below {w1 W : World} {g : Nat} {k : Rp} (h : StR w1 W g k) : Below w1.heap.size w1 W := by
  obtain ⟨A, c, B, d, -, -, -, hb⟩ := h
  exact hb
end Go.Proofs.Ytechhidfgheejaa
