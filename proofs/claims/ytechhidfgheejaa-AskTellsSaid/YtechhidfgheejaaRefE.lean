/- The walk of the reference's Look (written by gen_refe.py). -/
import Derived.Test.YtechhidfgheejaaRefD
namespace Go.Proofs.Ytechhidfgheejaa
open Go.RowKit
set_option linter.unusedSimpArgs false
set_option linter.unusedVariables false

set_option maxRecDepth 100000 in
set_option maxHeartbeats 2000000 in
theorem ref_Look (A : Option Addr) (n c : Nat) (l : List Nat) (w : World) (hA : Rd w A (bs l)) (hn : l.length = n) (hl : Bs l) (hnc : n ≤ c) (hbig : n ≤ 300) :
    Calls Try.prog 31 #[.slice A n c] w fun e w' => Told w (some (lookA l).1) (.int .u8 ((lookA l).2 : Nat)) undef e w' := by
  have HW : Hid (lookA l = match parseA l with
    | some a => (a, 0)
    | none => if l = [] then (Ak.zero, 1) else (⟨l.getD 0 0, 0, 0, 0, [], []⟩, if isFn (l.getD 0 0) then 3 else 1)) := rfl
  generalize lookA l = r at *
  have HN := Lib.hid hn
  have hb1 := (Below.refl _ w).alloc (Nat.le_refl _) (.cells #[.int .u8 0, .int .u16 0, .int .u16 0, .int .u16 0, .slice none 0 0, .slice none 0 0] 41)
  have bz := Blk.new w 41 #[.int .u8 0, .int .u16 0, .int .u16 0, .int .u16 0, .slice none 0 0, .slice none 0 0]
  obtain ⟨g, hg⟩ : ∃ g, w.heap.size = g := ⟨_, rfl⟩
  have hwg : w.heap.size ≤ g := by omega
  clear hn
  go_enter Try.func31, Try.ntmps31
  go_upto_region 1 with fail
  rw [hg] at bz
  (try rw [hg])
  clear hg
  generalize w.alloc (.cells #[.int .u8 0, .int .u16 0, .int .u16 0, .int .u16 0, .slice none 0 0, .slice none 0 0] 41) = w1 at *
  have hA1 := hA.below hb1
  have hg1 : g < w1.heap.size := bz.lt
  have hww : w.heap.size ≤ w1.heap.size := hb1.size
  have E1 := Lib.hid (ref_Parse A n c l w1 hA1 HN.out hl hnc hbig)
  obtain ⟨rr, hrr⟩ : ∃ rr, parseA l = rr := ⟨_, rfl⟩
  rw [hrr] at E1 HW
  clear hrr
  go_wp2_with fail
  refine E1.out.mono ?_
  rintro e w2 hT
  cases rr with
  | some a =>
    have HR : Hid (r = (a, 0)) := HW.out
    obtain ⟨Ax, cx, Bx, dx, he, rw2, rb2, hb2⟩ := hT
    rw [show a.v Ax cx Bx dx = .agg #[.int .u8 (a.fn : Int), .int .u16 (a.at_ : Int), .int .u16 (a.many : Int), .int .u16 (a.to_ : Int), .slice Ax a.words.length cx, .slice Bx a.bits.length dx] from rfl] at he
    subst he
    have hb2' := bthen hb1 hb2
    have hb3 := hb2'.alloc hb2'.size (.cells #[.int .u8 (a.fn : Int), .int .u16 (a.at_ : Int), .int .u16 (a.many : Int), .int .u16 (a.to_ : Int), .slice Ax a.words.length cx, .slice Bx a.bits.length dx] 41)
    have bz3 := (bz.all hb2).alloc (.cells #[.int .u8 (a.fn : Int), .int .u16 (a.at_ : Int), .int .u16 (a.many : Int), .int .u16 (a.to_ : Int), .slice Ax a.words.length cx, .slice Bx a.bits.length dx] 41)
    have bx3 := Blk.new w2 41 #[.int .u8 (a.fn : Int), .int .u16 (a.at_ : Int), .int .u16 (a.many : Int), .int .u16 (a.to_ : Int), .slice Ax a.words.length cx, .slice Bx a.bits.length dx]
    have hb23 := (Below.refl _ w2).alloc (Nat.le_refl _) (.cells #[.int .u8 (a.fn : Int), .int .u16 (a.at_ : Int), .int .u16 (a.many : Int), .int .u16 (a.to_ : Int), .slice Ax a.words.length cx, .slice Bx a.bits.length dx] 41)
    have rw3 := rw2.below hb23
    have rb3 := rb2.below hb23
    go_upto_region 2 with fail
    generalize w2.alloc (.cells #[.int .u8 (a.fn : Int), .int .u16 (a.at_ : Int), .int .u16 (a.many : Int), .int .u16 (a.to_ : Int), .slice Ax a.words.length cx, .slice Bx a.bits.length dx] 41) = w3 at *
    obtain ⟨g2, hg2⟩ : ∃ g, w2.heap.size = g := ⟨_, rfl⟩
    rw [hg2] at bx3 ⊢
    clear hg2 hb2 hb2' rw2 rb2 hb23
    obtain ⟨d0, d1, d2, d3, d4, d5⟩ := bx3.c6
    obtain ⟨z0, z1, z2, z3, z4, z5⟩ := bz3.c6
    have q0 := bz3.frozen 0
    have q1 := bz3.frozen 1
    have q2 := bz3.frozen 2
    have q3 := bz3.frozen 3
    have q4 := bz3.frozen 4
    have q5 := bz3.frozen 5
    go_wp2_with fail
    refine bodyPost_ret (v := .tuple #[.agg #[.int .u8 (a.fn : Int), .int .u16 (a.at_ : Int), .int .u16 (a.many : Int), .int .u16 (a.to_ : Int), .slice Ax a.words.length cx, .slice Bx a.bits.length dx], .int .u8 0]) (by simp [results, Try.results31, go_sem, z0, z1, z2, z3, z4, z5]) rfl ?_
    rw [HR.out]
    exact ⟨Ax, cx, Bx, dx, rfl, RdN.set6 ⟨rw3, hww⟩ hg1, RdN.set6 ⟨rb3, hww⟩ hg1, bset6 hb3 hwg _ _ _ _ _ _⟩
  | none =>
    obtain ⟨he, hb2⟩ := hT
    rw [show Ak.zero.v none 0 none 0 = .agg #[.int .u8 0, .int .u16 0, .int .u16 0, .int .u16 0, .slice none 0 0, .slice none 0 0] from rfl] at he
    subst he
    have hb2' := bthen hb1 hb2
    have hb3 := hb2'.alloc hb2'.size (.cells #[.int .u8 0, .int .u16 0, .int .u16 0, .int .u16 0, .slice none 0 0, .slice none 0 0] 41)
    have bz3 := (bz.all hb2).alloc (.cells #[.int .u8 0, .int .u16 0, .int .u16 0, .int .u16 0, .slice none 0 0, .slice none 0 0] 41)
    go_upto_region 2 with fail
    generalize w2.alloc (.cells #[.int .u8 0, .int .u16 0, .int .u16 0, .int .u16 0, .slice none 0 0, .slice none 0 0] 41) = w3 at *
    clear hb2 hb2'
    by_cases h0 : n = 0
    · have HR : Hid (r = (Ak.zero, 1)) := by
        have hl0 : l = [] := List.length_eq_zero_iff.1 (by rw [HN.out]; exact h0)
        (show _ = _); rw [HW.out, hl0]; rfl
      subst h0
      obtain ⟨z0, z1, z2, z3, z4, z5⟩ := bz3.c6
      have q0 := bz3.frozen 0
      have q1 := bz3.frozen 1
      have q2 := bz3.frozen 2
      have q3 := bz3.frozen 3
      have q4 := bz3.frozen 4
      have q5 := bz3.frozen 5
      go_wp2_with fail
      refine bodyPost_ret (v := .tuple #[.agg #[.int .u8 0, .int .u16 0, .int .u16 0, .int .u16 0, .slice none 0 0, .slice none 0 0], .int .u8 1]) (by simp [results, Try.results31, go_sem, z0, z1, z2, z3, z4, z5]) rfl ?_
      rw [HR.out]
      exact ⟨none, 0, none, 0, rfl, RdN.nil, RdN.nil, bset6 hb3 hwg _ _ _ _ _ _⟩
    have v0 : ((n : Int) == 0) = false := by simp; omega
    have hne : l ≠ [] := by intro e; apply h0; rw [← HN.out, e]; rfl
    obtain ⟨bb, off, f, rfl, hx, cx0⟩ := (hA.below hb3).byte (k := 0) (by rw [HN.out]; omega)
    rw [Nat.add_zero] at cx0
    have HR0 : Hid (r = (⟨f, 0, 0, 0, [], []⟩, if isFn f then 3 else 1)) := by
      (show _ = _); rw [HW.out]; (try simp only); rw [if_neg hne, getD_of hx]
    have hf := hl.get hx
    have hn0 : (0 : Nat) < n := by omega
    have hn0' : (0 : Int) < (n : Int) := by omega
    clear hx h0 HW
    by_cases h1 : 1 ≤ f
    · have v1 : decide ((1 : Int) ≤ (f : Int)) = true := decide_eq_true (by omega)
      by_cases h6 : f ≤ 6
      · have v6 : decide ((f : Int) ≤ 6) = true := decide_eq_true (by omega)
        have HR : Hid (r = (⟨f, 0, 0, 0, [], []⟩, 3)) := by (show _ = _); rw [HR0.out, show isFn f = true by unfold isFn; rw [decide_eq_true_iff]; omega]; rfl
        obtain ⟨z0, z1, z2, z3, z4, z5⟩ := bz3.c6
        have q0 := bz3.frozen 0
        have q1 := bz3.frozen 1
        have q2 := bz3.frozen 2
        have q3 := bz3.frozen 3
        have q4 := bz3.frozen 4
        have q5 := bz3.frozen 5
        go_wp2_with fail
        refine bodyPost_ret (v := .tuple #[.agg #[.int .u8 (f : Int), .int .u16 0, .int .u16 0, .int .u16 0, .slice none 0 0, .slice none 0 0], .int .u8 3]) (by simp [results, Try.results31, go_sem, z0, z1, z2, z3, z4, z5]) rfl ?_
        rw [HR.out]
        exact ⟨none, 0, none, 0, rfl, RdN.nil, RdN.nil, bset6 hb3 hwg _ _ _ _ _ _⟩
      have v6 : decide ((f : Int) ≤ 6) = false := decide_eq_false (by omega)
      by_cases h15 : f = 15
      · have v15 : ((f : Int) == 15) = true := by simp; omega
        have HR : Hid (r = (⟨f, 0, 0, 0, [], []⟩, 3)) := by (show _ = _); rw [HR0.out, show isFn f = true by unfold isFn; rw [decide_eq_true_iff]; omega]; rfl
        clear h15
        obtain ⟨z0, z1, z2, z3, z4, z5⟩ := bz3.c6
        have q0 := bz3.frozen 0
        have q1 := bz3.frozen 1
        have q2 := bz3.frozen 2
        have q3 := bz3.frozen 3
        have q4 := bz3.frozen 4
        have q5 := bz3.frozen 5
        go_wp2_with fail
        refine bodyPost_ret (v := .tuple #[.agg #[.int .u8 (f : Int), .int .u16 0, .int .u16 0, .int .u16 0, .slice none 0 0, .slice none 0 0], .int .u8 3]) (by simp [results, Try.results31, go_sem, z0, z1, z2, z3, z4, z5]) rfl ?_
        rw [HR.out]
        exact ⟨none, 0, none, 0, rfl, RdN.nil, RdN.nil, bset6 hb3 hwg _ _ _ _ _ _⟩
      have v15 : ((f : Int) == 15) = false := by simp; omega
      by_cases h16 : f = 16
      · have v16 : ((f : Int) == 16) = true := by simp; omega
        have HR : Hid (r = (⟨f, 0, 0, 0, [], []⟩, 3)) := by (show _ = _); rw [HR0.out, show isFn f = true by unfold isFn; rw [decide_eq_true_iff]; omega]; rfl
        clear h16
        obtain ⟨z0, z1, z2, z3, z4, z5⟩ := bz3.c6
        have q0 := bz3.frozen 0
        have q1 := bz3.frozen 1
        have q2 := bz3.frozen 2
        have q3 := bz3.frozen 3
        have q4 := bz3.frozen 4
        have q5 := bz3.frozen 5
        go_wp2_with fail
        refine bodyPost_ret (v := .tuple #[.agg #[.int .u8 (f : Int), .int .u16 0, .int .u16 0, .int .u16 0, .slice none 0 0, .slice none 0 0], .int .u8 3]) (by simp [results, Try.results31, go_sem, z0, z1, z2, z3, z4, z5]) rfl ?_
        rw [HR.out]
        exact ⟨none, 0, none, 0, rfl, RdN.nil, RdN.nil, bset6 hb3 hwg _ _ _ _ _ _⟩
      have v16 : ((f : Int) == 16) = false := by simp; omega
      by_cases h23 : f = 23
      · have v23 : ((f : Int) == 23) = true := by simp; omega
        have HR : Hid (r = (⟨f, 0, 0, 0, [], []⟩, 3)) := by (show _ = _); rw [HR0.out, show isFn f = true by unfold isFn; rw [decide_eq_true_iff]; omega]; rfl
        clear h23
        obtain ⟨z0, z1, z2, z3, z4, z5⟩ := bz3.c6
        have q0 := bz3.frozen 0
        have q1 := bz3.frozen 1
        have q2 := bz3.frozen 2
        have q3 := bz3.frozen 3
        have q4 := bz3.frozen 4
        have q5 := bz3.frozen 5
        go_wp2_with fail
        refine bodyPost_ret (v := .tuple #[.agg #[.int .u8 (f : Int), .int .u16 0, .int .u16 0, .int .u16 0, .slice none 0 0, .slice none 0 0], .int .u8 3]) (by simp [results, Try.results31, go_sem, z0, z1, z2, z3, z4, z5]) rfl ?_
        rw [HR.out]
        exact ⟨none, 0, none, 0, rfl, RdN.nil, RdN.nil, bset6 hb3 hwg _ _ _ _ _ _⟩
      have v23 : ((f : Int) == 23) = false := by simp; omega
      have HR : Hid (r = (⟨f, 0, 0, 0, [], []⟩, 1)) := by (show _ = _); rw [HR0.out, show isFn f = false by unfold isFn; rw [decide_eq_false_iff_not]; omega]; rfl
      obtain ⟨z0, z1, z2, z3, z4, z5⟩ := bz3.c6
      have q0 := bz3.frozen 0
      have q1 := bz3.frozen 1
      have q2 := bz3.frozen 2
      have q3 := bz3.frozen 3
      have q4 := bz3.frozen 4
      have q5 := bz3.frozen 5
      go_wp2_with fail
      refine bodyPost_ret (v := .tuple #[.agg #[.int .u8 (f : Int), .int .u16 0, .int .u16 0, .int .u16 0, .slice none 0 0, .slice none 0 0], .int .u8 1]) (by simp [results, Try.results31, go_sem, z0, z1, z2, z3, z4, z5]) rfl ?_
      rw [HR.out]
      exact ⟨none, 0, none, 0, rfl, RdN.nil, RdN.nil, bset6 hb3 hwg _ _ _ _ _ _⟩
    have v1 : decide ((1 : Int) ≤ (f : Int)) = false := decide_eq_false (by omega)
    have v15 : ((f : Int) == 15) = false := by simp; omega
    have v16 : ((f : Int) == 16) = false := by simp; omega
    have v23 : ((f : Int) == 23) = false := by simp; omega
    have HR : Hid (r = (⟨f, 0, 0, 0, [], []⟩, 1)) := by (show _ = _); rw [HR0.out, show isFn f = false by unfold isFn; rw [decide_eq_false_iff_not]; omega]; rfl
    obtain ⟨z0, z1, z2, z3, z4, z5⟩ := bz3.c6
    have q0 := bz3.frozen 0
    have q1 := bz3.frozen 1
    have q2 := bz3.frozen 2
    have q3 := bz3.frozen 3
    have q4 := bz3.frozen 4
    have q5 := bz3.frozen 5
    go_wp2_with fail
    refine bodyPost_ret (v := .tuple #[.agg #[.int .u8 (f : Int), .int .u16 0, .int .u16 0, .int .u16 0, .slice none 0 0, .slice none 0 0], .int .u8 1]) (by simp [results, Try.results31, go_sem, z0, z1, z2, z3, z4, z5]) rfl ?_
    rw [HR.out]
    exact ⟨none, 0, none, 0, rfl, RdN.nil, RdN.nil, bset6 hb3 hwg _ _ _ _ _ _⟩
end Go.Proofs.Ytechhidfgheejaa
