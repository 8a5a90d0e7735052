/- The walks of ask.Parse and ask.Look (written by gen_askh.py). -/
import Derived.Test.YtechhidfgheejaaAskG
namespace Go.Proofs.Ytechhidfgheejaa
open Go.RowKit
set_option linter.unusedSimpArgs false
set_option linter.unusedVariables false

structure Ak.small (a : Ak) : Prop where
  ok : a.ok
  words : a.words.length ≤ 70000
  bits : a.bits.length ≤ 70000
theorem writtenA_small {f t m o : Nat} {r : List Nat} {a : Ak} (h : writtenA f t m o r = some a) (hf : f < 256) (ht : t < 65536) (hm : m < 65536) (ho : o < 65536) (hr : Bs r) (hl : r.length ≤ 300) : a.small := by
  unfold writtenA at h
  split at h
  · injection h with h; subst h
    exact ⟨⟨hf, ht, hm, ho, by intro x hx; cases hx⟩, by simp, by simp⟩
  split at h
  · cases h
  split at h
  · injection h with h; subst h
    exact ⟨⟨hf, ht, hm, ho, by intro x hx; cases hx⟩, by simp, by simp⟩
  split at h
  · injection h with h; subst h
    exact ⟨⟨hf, ht, hm, ho, pairs_Ws hr⟩, by simp only [pairs_length]; omega, by simp⟩
  split at h
  · split at h
    · cases h
    · injection h with h; subst h
      exact ⟨⟨hf, ht, hm, ho, by intro x hx; cases hx⟩, by simp, by simp only [List.length_take]; omega⟩
  · injection h with h; subst h
    exact ⟨⟨hf, ht, hm, ho, pairs_Ws (hr.drop 1)⟩, by simp only [pairs_length, List.length_drop]; omega, by simp⟩
theorem readA_small {l : List Nat} {a : Ak} (h : readA l = some a) (hl : Bs l) : a.small := by
  unfold readA at h
  split at h
  · cases h
  rename_i h5
  split at h
  · cases h
  have e0 := getD_lt hl 0
  have e1 := pw_lt hl 0
  have e2 := pw_lt hl 1
  have e3 := pw_lt hl 2
  split at h
  · split at h
    · cases h
    · exact writtenA_small h e0 e1 e2 e3 (hl.drop 9) (by rw [List.length_drop]; omega)
  split at h
  · exact writtenA_small h e0 e1 e2 (by omega) (hl.drop 5) (by rw [List.length_drop]; omega)
  · exact writtenA_small h e0 e1 (by omega) (by omega) (hl.drop 3) (by rw [List.length_drop]; omega)
theorem right_len {f m o n b : Nat} (hr : rightN f m o n b = true) : n ≤ 123 ∧ b ≤ 1968 := by
  unfold rightN at hr
  simp only [Bool.and_eq_true] at hr
  obtain ⟨⟨⟨_, q1⟩, q2⟩, _⟩ := hr
  unfold wtn at q1 q2
  unfold shp at q1 q2
  constructor
  · repeat' split at q2
    all_goals simp at q2 <;> omega
  · repeat' split at q1
    all_goals simp at q1 <;> omega
theorem Ws.two {x y : Nat} (hx : x < 65536) (hy : y < 65536) : Ws [x, y] := by intro z hz; simp at hz; omega
theorem Ws.one {x : Nat} (hx : x < 65536) : Ws [x] := by intro z hz; simp at hz; omega
theorem bytesA_Bs {a : Ak} (h : a.ok) (hr : rightA a = true) : Bs (bytesN a) := by
  obtain ⟨h1, h2, h3, h4, h5⟩ := h
  have hle := right_len hr
  have e : bytesN a = bytesA a := by unfold bytesN; rw [if_pos hr]
  rw [e]
  unfold bytesA
  refine Bs.append (Bs.append (by intro x hx; simp at hx; omega) ?_) ?_
  · unfold midA
    refine Bs.append ?_ ?_
    · split
      · exact nums_Bs (Ws.one h3)
      · intro x hx; cases hx
    · split
      · exact nums_Bs (Ws.two h4 (by omega))
      · intro x hx; cases hx
  · unfold tailA
    split
    · refine nums_Bs (Ws.one ?_)
      split <;> omega
    split
    · exact nums_Bs h5
    split
    · intro x hx
      rcases List.mem_cons.1 hx with hx | hx
      · rw [hx, pk_length]; omega
      · exact pk_Bs _ x hx
    split
    · intro x hx
      rcases List.mem_cons.1 hx with hx | hx
      · omega
      · exact nums_Bs h5 x hx
    · intro x hx; cases hx
/-- what bytes say -/
def parseA (l : List Nat) : Option Ak := (readA l).bind fun a => if rightA a && sameB (bytesN a) l then some a else none
/-- what is wrong with bytes -/
def lookA (l : List Nat) : Ak × Nat :=
  match parseA l with
  | some a => (a, 0)
  | none => if l = [] then (Ak.zero, 1) else (⟨l.getD 0 0, 0, 0, 0, [], []⟩, if isFn (l.getD 0 0) then 3 else 1)

set_option maxRecDepth 100000 in
set_option maxHeartbeats 2000000 in
theorem ask_Parse (A : Option Addr) (n c : Nat) (l : List Nat) (w : World) (hA : Rd w A (bs l)) (hn : l.length = n) (hl : Bs l) (hnc : n ≤ c) (hbig : n ≤ 1000000000) :
    Calls Try.prog 29 #[.slice A n c] w fun e w' => Told w (parseA l) (.int .i64 0) (.int .i64 12) e w' := by
  have HW : Hid (parseA l = (readA l).bind fun a => if rightA a && sameB (bytesN a) l then some a else none) := rfl
  generalize parseA l = r at *
  have HN := Lib.hid hn
  have hb1 := (Below.refl _ w).alloc (Nat.le_refl _) (.cells #[.int .u8 0, .int .u16 0, .int .u16 0, .int .u16 0, .slice none 0 0, .slice none 0 0] 41)
  have bz := Blk.new w 41 #[.int .u8 0, .int .u16 0, .int .u16 0, .int .u16 0, .slice none 0 0, .slice none 0 0]
  obtain ⟨g, hg⟩ : ∃ g, w.heap.size = g := ⟨_, rfl⟩
  have hwg : w.heap.size ≤ g := by omega
  clear hn
  go_enter Try.func29, Try.ntmps29
  go_upto_region 1 with fail
  rw [hg] at bz
  (try rw [hg])
  clear hg
  generalize w.alloc (.cells #[.int .u8 0, .int .u16 0, .int .u16 0, .int .u16 0, .slice none 0 0, .slice none 0 0] 41) = w1 at *
  have hA1 := hA.below hb1
  have E1 := Lib.hid (ask_read A n c l w1 hA1 HN.out hl hnc hbig)
  obtain ⟨rr, hrr⟩ : ∃ rr, readA l = rr := ⟨_, rfl⟩
  have HRR := Lib.hid hrr
  rw [hrr] at E1 HW
  clear hrr
  go_wp2_with fail
  refine E1.out.mono ?_
  rintro e w2 hT
  cases rr with
  | none =>
    have HR : Hid (r = none) := HW.out
    obtain ⟨he, hb2⟩ := hT
    rw [show Ak.zero.v none 0 none 0 = .agg #[.int .u8 0, .int .u16 0, .int .u16 0, .int .u16 0, .slice none 0 0, .slice none 0 0] from rfl] at he
    subst he
    have hb2' := bthen hb1 hb2
    have hb3 := hb2'.alloc hb2'.size (.cells #[.int .u8 0, .int .u16 0, .int .u16 0, .int .u16 0, .slice none 0 0, .slice none 0 0] 41)
    have bz3 := (bz.all hb2).alloc (.cells #[.int .u8 0, .int .u16 0, .int .u16 0, .int .u16 0, .slice none 0 0, .slice none 0 0] 41)
    go_upto_region 2 with fail
    generalize w2.alloc (.cells #[.int .u8 0, .int .u16 0, .int .u16 0, .int .u16 0, .slice none 0 0, .slice none 0 0] 41) = w3 at *
    obtain ⟨z0, z1, z2, z3, z4, z5⟩ := bz3.c6
    have q0 := bz3.frozen 0
    have q1 := bz3.frozen 1
    have q2 := bz3.frozen 2
    have q3 := bz3.frozen 3
    have q4 := bz3.frozen 4
    have q5 := bz3.frozen 5
    go_wp2_with fail
    refine bodyPost_ret (v := .tuple #[.agg #[.int .u8 0, .int .u16 0, .int .u16 0, .int .u16 0, .slice none 0 0, .slice none 0 0], .int .i64 12]) (by simp [results, Try.results29, go_sem, z0, z1, z2, z3, z4, z5]) rfl ?_
    rw [HR.out]
    exact ⟨rfl, bset6 hb3 hwg _ _ _ _ _ _⟩
  | some a =>
    have HR : Hid (r = if rightA a && sameB (bytesN a) l then some a else none) := HW.out
    have hsm := readA_small HRR.out hl
    obtain ⟨Ax, cx, Bx, dx, he, rw2, rb2, hb2⟩ := hT
    rw [show a.v Ax cx Bx dx = .agg #[.int .u8 (a.fn : Int), .int .u16 (a.at_ : Int), .int .u16 (a.many : Int), .int .u16 (a.to_ : Int), .slice Ax a.words.length cx, .slice Bx a.bits.length dx] from rfl] at he
    subst he
    have hb2' := bthen hb1 hb2
    have hb3 := hb2'.alloc hb2'.size (.cells #[.int .u8 (a.fn : Int), .int .u16 (a.at_ : Int), .int .u16 (a.many : Int), .int .u16 (a.to_ : Int), .slice Ax a.words.length cx, .slice Bx a.bits.length dx] 41)
    have bz3 := (bz.all hb2).alloc (.cells #[.int .u8 (a.fn : Int), .int .u16 (a.at_ : Int), .int .u16 (a.many : Int), .int .u16 (a.to_ : Int), .slice Ax a.words.length cx, .slice Bx a.bits.length dx] 41)
    have bx3 := Blk.new w2 41 #[.int .u8 (a.fn : Int), .int .u16 (a.at_ : Int), .int .u16 (a.many : Int), .int .u16 (a.to_ : Int), .slice Ax a.words.length cx, .slice Bx a.bits.length dx]
    have hb23 := (Below.refl _ w2).alloc (Nat.le_refl _) (.cells #[.int .u8 (a.fn : Int), .int .u16 (a.at_ : Int), .int .u16 (a.many : Int), .int .u16 (a.to_ : Int), .slice Ax a.words.length cx, .slice Bx a.bits.length dx] 41)
    have rw3 := rw2.below hb23
    have rb3 := rb2.below hb23
    have hg1 : g < w1.heap.size := bz.lt
    have hww : w.heap.size ≤ w1.heap.size := hb1.size
    go_upto_region 2 with fail
    generalize w2.alloc (.cells #[.int .u8 (a.fn : Int), .int .u16 (a.at_ : Int), .int .u16 (a.many : Int), .int .u16 (a.to_ : Int), .slice Ax a.words.length cx, .slice Bx a.bits.length dx] 41) = w3 at *
    obtain ⟨g2, hg2⟩ : ∃ g, w2.heap.size = g := ⟨_, rfl⟩
    rw [hg2] at bx3 ⊢
    clear hg2 hb2 hb2' rw2 rb2 hb23
    obtain ⟨d0, d1, d2, d3, d4, d5⟩ := bx3.c6
    have E2 := Lib.hid (ask_Bytes a Ax cx Bx dx w3 ⟨rw3.rd, rb3.rd⟩ hsm.ok (by have := hsm.words; omega) (by have := hsm.bits; omega))
    rw [show a.v Ax cx Bx dx = .agg #[.int .u8 (a.fn : Int), .int .u16 (a.at_ : Int), .int .u16 (a.many : Int), .int .u16 (a.to_ : Int), .slice Ax a.words.length cx, .slice Bx a.bits.length dx] from rfl] at E2
    go_wp2_with fail
    refine E2.out.mono ?_
    rintro e w4 ⟨A4, c4, rfl, o4, hb4⟩
    have hb4' := bthen hb3 hb4
    have bz4 := bz3.all hb4
    have bx4 := bx3.all hb4
    have rw4 := rw3.below hb4
    have rb4 := rb3.below hb4
    have hA4 := hA.below hb4'
    clear d0 d1 d2 d3 d4 d5 hb3 bz3 bx3 rw3 rb3 hb4
    obtain ⟨d0, d1, d2, d3, d4, d5⟩ := bx4.c6
    obtain ⟨z0, z1, z2, z3, z4, z5⟩ := bz4.c6
    have q0 := bz4.frozen 0
    have q1 := bz4.frozen 1
    have q2 := bz4.frozen 2
    have q3 := bz4.frozen 3
    have q4 := bz4.frozen 4
    have q5 := bz4.frozen 5
    by_cases hr : rightA a = true
    · have e0 : errN a = 0 := by unfold errN; rw [if_pos hr]
      have HR2 : Hid (r = if sameB (bytesN a) l then some a else none) := by (show _ = _); rw [HR.out, hr]; rfl
      rw [e0]
      clear e0
      have E3 := Lib.hid (bytes_Equal A4 A (bytesN a).length c4 n c (bytesN a) l w4 o4.rd hA4 (bytesA_Bs hsm.ok hr) hl rfl HN.out)
      obtain ⟨y, hy⟩ : ∃ y, sameB (bytesN a) l = y := ⟨_, rfl⟩
      rw [hy] at E3 HR2
      clear hy
      go_wp2_with fail
      refine E3.out.mono ?_
      rintro e w5 ⟨rfl, rfl⟩
      cases y with
      | false =>
        go_wp2_with fail
        refine bodyPost_ret (v := .tuple #[.agg #[.int .u8 0, .int .u16 0, .int .u16 0, .int .u16 0, .slice none 0 0, .slice none 0 0], .int .i64 12]) (by simp [results, Try.results29, go_sem, z0, z1, z2, z3, z4, z5]) rfl ?_
        rw [HR2.out]
        exact ⟨rfl, bset6 hb4' hwg _ _ _ _ _ _⟩
      | true =>
        go_wp2_with fail
        refine bodyPost_ret (v := .tuple #[.agg #[.int .u8 (a.fn : Int), .int .u16 (a.at_ : Int), .int .u16 (a.many : Int), .int .u16 (a.to_ : Int), .slice Ax a.words.length cx, .slice Bx a.bits.length dx], .int .i64 0]) (by simp [results, Try.results29, go_sem, z0, z1, z2, z3, z4, z5]) rfl ?_
        rw [HR2.out]
        exact ⟨Ax, cx, Bx, dx, rfl, RdN.set6 ⟨rw4, hww⟩ hg1, RdN.set6 ⟨rb4, hww⟩ hg1, bset6 hb4' hwg _ _ _ _ _ _⟩
    · have e0 : errN a = 12 := by unfold errN; rw [if_neg hr]
      have HR2 : Hid (r = none) := by
        (show _ = _); rw [HR.out]
        have : rightA a = false := by simpa using hr
        rw [this]; rfl
      rw [e0]
      clear e0
      go_wp2_with fail
      refine bodyPost_ret (v := .tuple #[.agg #[.int .u8 0, .int .u16 0, .int .u16 0, .int .u16 0, .slice none 0 0, .slice none 0 0], .int .i64 12]) (by simp [results, Try.results29, go_sem, z0, z1, z2, z3, z4, z5]) rfl ?_
      rw [HR2.out]
      exact ⟨rfl, bset6 hb4' hwg _ _ _ _ _ _⟩

set_option maxRecDepth 100000 in
set_option maxHeartbeats 2000000 in
theorem ask_Look (A : Option Addr) (n c : Nat) (l : List Nat) (w : World) (hA : Rd w A (bs l)) (hn : l.length = n) (hl : Bs l) (hnc : n ≤ c) (hbig : n ≤ 1000000000) :
    Calls Try.prog 15 #[.slice A n c] w fun e w' => Told w (some (lookA l).1) (.int .u8 ((lookA l).2 : Nat)) undef e w' := by
  have HW : Hid (lookA l = match parseA l with
    | some a => (a, 0)
    | none => if l = [] then (Ak.zero, 1) else (⟨l.getD 0 0, 0, 0, 0, [], []⟩, if isFn (l.getD 0 0) then 3 else 1)) := rfl
  generalize lookA l = r at *
  have HN := Lib.hid hn
  have hb1 := (Below.refl _ w).alloc (Nat.le_refl _) (.cells #[.int .u8 0, .int .u16 0, .int .u16 0, .int .u16 0, .slice none 0 0, .slice none 0 0] 41)
  have bz := Blk.new w 41 #[.int .u8 0, .int .u16 0, .int .u16 0, .int .u16 0, .slice none 0 0, .slice none 0 0]
  obtain ⟨g, hg⟩ : ∃ g, w.heap.size = g := ⟨_, rfl⟩
  have hwg : w.heap.size ≤ g := by omega
  clear hn
  go_enter Try.func15, Try.ntmps15
  go_upto_region 1 with fail
  rw [hg] at bz
  (try rw [hg])
  clear hg
  generalize w.alloc (.cells #[.int .u8 0, .int .u16 0, .int .u16 0, .int .u16 0, .slice none 0 0, .slice none 0 0] 41) = w1 at *
  have hA1 := hA.below hb1
  have hg1 : g < w1.heap.size := bz.lt
  have hww : w.heap.size ≤ w1.heap.size := hb1.size
  by_cases h0 : n = 0
  · have HR : Hid (r = (Ak.zero, 1)) := by
      have hl0 : l = [] := List.length_eq_zero_iff.1 (by rw [HN.out]; exact h0)
      (show _ = _); rw [HW.out, hl0]; rfl
    subst h0
    obtain ⟨z0, z1, z2, z3, z4, z5⟩ := bz.c6
    have q0 := bz.frozen 0
    have q1 := bz.frozen 1
    have q2 := bz.frozen 2
    have q3 := bz.frozen 3
    have q4 := bz.frozen 4
    have q5 := bz.frozen 5
    go_wp2_with fail
    refine bodyPost_ret (v := .tuple #[.agg #[.int .u8 0, .int .u16 0, .int .u16 0, .int .u16 0, .slice none 0 0, .slice none 0 0], .int .u8 1]) (by simp [results, Try.results15, go_sem, z0, z1, z2, z3, z4, z5]) rfl ?_
    rw [HR.out]
    exact ⟨none, 0, none, 0, rfl, RdN.nil, RdN.nil, bset6 hb1 hwg _ _ _ _ _ _⟩
  · have v0 : ((n : Int) == 0) = false := by simp; omega
    have hne : l ≠ [] := by intro e; apply h0; rw [← HN.out, e]; rfl
    have E1 := Lib.hid (ask_Parse A n c l w1 hA1 HN.out hl hnc hbig)
    obtain ⟨rr, hrr⟩ : ∃ rr, parseA l = rr := ⟨_, rfl⟩
    rw [hrr] at E1 HW
    clear hrr
    go_wp2_with fail
    refine E1.out.mono ?_
    rintro e w2 hT
    cases rr with
    | some a =>
      have HR : Hid (r = (a, 0)) := HW.out
      obtain ⟨Ax, cx, Bx, dx, he, rw2, rb2, hb2⟩ := hT
      rw [show a.v Ax cx Bx dx = .agg #[.int .u8 (a.fn : Int), .int .u16 (a.at_ : Int), .int .u16 (a.many : Int), .int .u16 (a.to_ : Int), .slice Ax a.words.length cx, .slice Bx a.bits.length dx] from rfl] at he
      subst he
      have hb2' := bthen hb1 hb2
      have hb3 := hb2'.alloc hb2'.size (.cells #[.int .u8 (a.fn : Int), .int .u16 (a.at_ : Int), .int .u16 (a.many : Int), .int .u16 (a.to_ : Int), .slice Ax a.words.length cx, .slice Bx a.bits.length dx] 41)
      have bz3 := (bz.all hb2).alloc (.cells #[.int .u8 (a.fn : Int), .int .u16 (a.at_ : Int), .int .u16 (a.many : Int), .int .u16 (a.to_ : Int), .slice Ax a.words.length cx, .slice Bx a.bits.length dx] 41)
      have bx3 := Blk.new w2 41 #[.int .u8 (a.fn : Int), .int .u16 (a.at_ : Int), .int .u16 (a.many : Int), .int .u16 (a.to_ : Int), .slice Ax a.words.length cx, .slice Bx a.bits.length dx]
      have hb23 := (Below.refl _ w2).alloc (Nat.le_refl _) (.cells #[.int .u8 (a.fn : Int), .int .u16 (a.at_ : Int), .int .u16 (a.many : Int), .int .u16 (a.to_ : Int), .slice Ax a.words.length cx, .slice Bx a.bits.length dx] 41)
      have rw3 := rw2.below hb23
      have rb3 := rb2.below hb23
      go_upto_region 4 with fail
      generalize w2.alloc (.cells #[.int .u8 (a.fn : Int), .int .u16 (a.at_ : Int), .int .u16 (a.many : Int), .int .u16 (a.to_ : Int), .slice Ax a.words.length cx, .slice Bx a.bits.length dx] 41) = w3 at *
      obtain ⟨g2, hg2⟩ : ∃ g, w2.heap.size = g := ⟨_, rfl⟩
      rw [hg2] at bx3 ⊢
      clear hg2 hb2 hb2' rw2 rb2 hb23
      obtain ⟨d0, d1, d2, d3, d4, d5⟩ := bx3.c6
      obtain ⟨z0, z1, z2, z3, z4, z5⟩ := bz3.c6
      have q0 := bz3.frozen 0
      have q1 := bz3.frozen 1
      have q2 := bz3.frozen 2
      have q3 := bz3.frozen 3
      have q4 := bz3.frozen 4
      have q5 := bz3.frozen 5
      go_wp2_with fail
      refine bodyPost_ret (v := .tuple #[.agg #[.int .u8 (a.fn : Int), .int .u16 (a.at_ : Int), .int .u16 (a.many : Int), .int .u16 (a.to_ : Int), .slice Ax a.words.length cx, .slice Bx a.bits.length dx], .int .u8 0]) (by simp [results, Try.results15, go_sem, z0, z1, z2, z3, z4, z5]) rfl ?_
      rw [HR.out]
      exact ⟨Ax, cx, Bx, dx, rfl, RdN.set6 ⟨rw3, hww⟩ hg1, RdN.set6 ⟨rb3, hww⟩ hg1, bset6 hb3 hwg _ _ _ _ _ _⟩
    | none =>
      have HR : Hid (r = (⟨l.getD 0 0, 0, 0, 0, [], []⟩, if isFn (l.getD 0 0) then 3 else 1)) := by
        (show _ = _); rw [HW.out]; simp only; rw [if_neg hne]
      obtain ⟨he, hb2⟩ := hT
      rw [show Ak.zero.v none 0 none 0 = .agg #[.int .u8 0, .int .u16 0, .int .u16 0, .int .u16 0, .slice none 0 0, .slice none 0 0] from rfl] at he
      subst he
      have hb2' := bthen hb1 hb2
      have hb3 := hb2'.alloc hb2'.size (.cells #[.int .u8 0, .int .u16 0, .int .u16 0, .int .u16 0, .slice none 0 0, .slice none 0 0] 41)
      have bz3 := (bz.all hb2).alloc (.cells #[.int .u8 0, .int .u16 0, .int .u16 0, .int .u16 0, .slice none 0 0, .slice none 0 0] 41)
      obtain ⟨bb, off, f, rfl, hx, cx0⟩ := (hA.below hb3).byte (k := 0) (by rw [HN.out]; omega)
      rw [Nat.add_zero] at cx0
      rw [getD_of hx] at HR
      have hf := hl.get hx
      have hn0 : (0 : Nat) < n := by omega
      clear hx
      go_upto_region 4 with fail
      generalize w2.alloc (.cells #[.int .u8 0, .int .u16 0, .int .u16 0, .int .u16 0, .slice none 0 0, .slice none 0 0] 41) = w3 at *
      clear hb2 hb2'
      go_upto_region 7 with fail
      have hb4 := hb3.alloc hb3.size (.cells #[.int .u8 (f : Int), .int .u16 0, .int .u16 0, .int .u16 0, .slice none 0 0, .slice none 0 0] 41)
      have bz4 := bz3.alloc (.cells #[.int .u8 (f : Int), .int .u16 0, .int .u16 0, .int .u16 0, .slice none 0 0, .slice none 0 0] 41)
      have bx4 := Blk.new w3 41 #[.int .u8 (f : Int), .int .u16 0, .int .u16 0, .int .u16 0, .slice none 0 0, .slice none 0 0]
      have cx4 := (World.cell?_alloc_lt w3 (.cells #[.int .u8 (f : Int), .int .u16 0, .int .u16 0, .int .u16 0, .slice none 0 0, .slice none 0 0] 41) ⟨bb, off, none⟩ (World.block_lt_of_cell? w3 _ cx0)).trans cx0
      generalize w3.alloc (.cells #[.int .u8 (f : Int), .int .u16 0, .int .u16 0, .int .u16 0, .slice none 0 0, .slice none 0 0] 41) = w4 at *
      obtain ⟨g2, hg2⟩ : ∃ g, w3.heap.size = g := ⟨_, rfl⟩
      rw [hg2] at bx4 ⊢
      clear hg2 cx0
      have E2 := Lib.hid (ask_shape f w4 hf)
      obtain ⟨s, hs⟩ : ∃ s, shp f = s := ⟨_, rfl⟩
      obtain ⟨fn, hfn⟩ : ∃ b, isFn f = b := ⟨_, rfl⟩
      rw [hs, hfn] at E2
      rw [hfn] at HR
      clear hs hfn
      obtain ⟨s0, s1, s2, s3, s4⟩ := s
      simp only [Shp.val] at E2
      go_wp2_with fail
      refine E2.out.mono ?_
      rintro e w5 ⟨rfl, hb5⟩
      have hb5' := bthen hb4 hb5
      have hb6 := hb5'.alloc hb5'.size (.cells #[.int .i64 (s0 : Int), .int .i64 (s1 : Int), .int .i64 (s2 : Int), .bool s3, .bool s4] 92)
      have bz6 := (bz4.all hb5).alloc (.cells #[.int .i64 (s0 : Int), .int .i64 (s1 : Int), .int .i64 (s2 : Int), .bool s3, .bool s4] 92)
      have bx6 := (bx4.all hb5).alloc (.cells #[.int .i64 (s0 : Int), .int .i64 (s1 : Int), .int .i64 (s2 : Int), .bool s3, .bool s4] 92)
      go_upto_region 8 with fail
      generalize w5.alloc (.cells #[.int .i64 (s0 : Int), .int .i64 (s1 : Int), .int .i64 (s2 : Int), .bool s3, .bool s4] 92) = w6 at *
      obtain ⟨d0, d1, d2, d3, d4, d5⟩ := bx6.c6
      obtain ⟨z0, z1, z2, z3, z4, z5⟩ := bz6.c6
      have q0 := bz6.frozen 0
      have q1 := bz6.frozen 1
      have q2 := bz6.frozen 2
      have q3 := bz6.frozen 3
      have q4 := bz6.frozen 4
      have q5 := bz6.frozen 5
      cases fn with
      | false =>
        go_wp2_with fail
        refine bodyPost_ret (v := .tuple #[.agg #[.int .u8 (f : Int), .int .u16 0, .int .u16 0, .int .u16 0, .slice none 0 0, .slice none 0 0], .int .u8 1]) (by simp [results, Try.results15, go_sem, z0, z1, z2, z3, z4, z5]) rfl ?_
        rw [HR.out]
        exact ⟨none, 0, none, 0, rfl, RdN.nil, RdN.nil, bset6 hb6 hwg _ _ _ _ _ _⟩
      | true =>
        go_wp2_with fail
        refine bodyPost_ret (v := .tuple #[.agg #[.int .u8 (f : Int), .int .u16 0, .int .u16 0, .int .u16 0, .slice none 0 0, .slice none 0 0], .int .u8 3]) (by simp [results, Try.results15, go_sem, z0, z1, z2, z3, z4, z5]) rfl ?_
        rw [HR.out]
        exact ⟨none, 0, none, 0, rfl, RdN.nil, RdN.nil, bset6 hb6 hwg _ _ _ _ _ _⟩
end Go.Proofs.Ytechhidfgheejaa
