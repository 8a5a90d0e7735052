/- The walk of the law AskLooks (written by gen_asklooks.py). -/
import Derived.Test.YthddplokicbofaaLowB
import Derived.Test.YthddplokicbofaaRegion
import Derived.Deep.RegionHeld3
namespace Go.Proofs.Ythddplokicbofaa
open Go.RowKit
set_option linter.unusedSimpArgs false
set_option linter.unusedVariables false

/-- how many of the first j numbers are functions -/
def cntF (j : Nat) : Nat := ((List.range j).filter fun f => isFn f).length
theorem cntF_succ (j : Nat) : cntF (j + 1) = cntF j + if isFn j = true then 1 else 0 := by
  unfold cntF
  rw [List.range_succ, List.filter_append]
  cases h : isFn j <;> simp [h]
theorem cntF_le (j : Nat) : cntF j ≤ j := by
  unfold cntF
  have := List.length_filter_le (fun f => isFn f) (List.range j)
  rw [List.length_range] at this
  exact this
theorem cntF_all : cntF 256 = 9 := by decide +kernel
theorem look_set {l : List Nat} (h : l ≠ []) (j : Nat) : ((lookA (l.set 0 j)).2 ≠ 1 ↔ isFn j = true) := by
  cases l with
  | nil => exact absurd rfl h
  | cons a l => exact (look_fn (l := j :: l) (by simp)).1
theorem look_none {l : List Nat} (h : l ≠ []) (hp : parseA l = none) : lookA l = (⟨l.getD 0 0, 0, 0, 0, [], []⟩, if isFn (l.getD 0 0) then 3 else 1) := by
  unfold lookA; rw [hp]; simp only; rw [if_neg h]
theorem look_some {l : List Nat} {a : Ak} (hp : parseA l = some a) : lookA l = (a, 0) := by unfold lookA; rw [hp]
theorem set_self {l : List Nat} {x : Nat} (h : l[0]? = some x) : l.set 0 x = l := by
  cases l with
  | nil => simp at h
  | cons a l => simp at h; subst h; rfl

theorem Bs.set {l : List Nat} (h : Bs l) {j x : Nat} (hx : x < 256) : Bs (l.set j x) := by
  intro y hy
  rcases List.mem_or_eq_of_mem_set hy with h1 | h1
  · exact h y h1
  · omega

set_option maxRecDepth 100000 in
set_option maxHeartbeats 4000000 in
theorem AskLooks_walk (A : Option Addr) (n c : Nat) (l : List Nat) (w : World) (hA : Rd w A (bs l)) (hn : l.length = n) (hl : Bs l) (hnc : n ≤ c) :
    Calls Try.prog 6 #[.slice A n c] w fun e w' => e = .returned (.bool true) ∧ Below w.heap.size w w' := by
  have HN := Lib.hid hn
  clear hn
  have awk := Lib.hid ask_awake
  by_cases h0 : n = 0
  · have v0 : ((n : Int) == 0) = true := by simp [h0]
    clear h0
    go_enter Try.func6, Try.ntmps6
    go_wp2_with fail
    refine (awk.out w).mono ?_
    rintro e w1 ⟨rfl, hb⟩
    go_wp2_with fail
    go_ret
    exact ⟨rfl, hb⟩
  have v0 : ((n : Int) == 0) = false := by simp; omega
  by_cases h3 : 300 < n
  · have v1 : decide ((300 : Int) < (n : Int)) = true := decide_eq_true (by omega)
    go_enter Try.func6, Try.ntmps6
    go_wp2_with fail
    refine (awk.out w).mono ?_
    rintro e w1 ⟨rfl, hb⟩
    go_wp2_with fail
    go_ret
    exact ⟨rfl, hb⟩
  have v1 : decide ((300 : Int) < (n : Int)) = false := decide_eq_false (by omega)
  have hne : l ≠ [] := by intro e; apply h0; rw [← HN.out, e]; rfl
  obtain ⟨bb, off, f, rfl, hx, cx⟩ := hA.byte (k := 0) (by rw [HN.out]; omega)
  rw [Nat.add_zero] at cx
  have hblk : bb < w.heap.size := World.block_lt_of_cell? w _ cx
  have hf := hl.get hx
  have HX := Lib.hid hx
  have HG : Hid (l.getD 0 0 = f) := getD_of hx
  have hn1 : (0 : Nat) < n := by omega
  have HNE : Hid (l ≠ []) := hne
  clear hx hne h0
  have E1 := Lib.hid (fun W (h : Rd W (some ⟨bb, off, none⟩) (bs l)) => ask_Look (some ⟨bb, off, none⟩) n c l W h HN.out hl hnc (by omega))
  have E2 := Lib.hid (fun W (h : Rd W (some ⟨bb, off, none⟩) (bs l)) => ask_Parse (some ⟨bb, off, none⟩) n c l W h HN.out hl hnc (by omega))
  obtain ⟨pp, hpp⟩ : ∃ r, parseA l = r := ⟨_, rfl⟩
  obtain ⟨ll, hll⟩ : ∃ r, lookA l = r := ⟨_, rfl⟩
  have HPP := Lib.hid hpp
  have HLL := Lib.hid hll
  rw [hpp] at E2
  rw [hll] at E1
  obtain ⟨a, x⟩ := ll
  clear hpp hll
  go_enter Try.func6, Try.ntmps6
  go_wp2_with fail
  refine (E1.out _ hA).mono ?_
  rintro e w1 ⟨Aa, ca, Ba, da, he, rwa, rba, hb⟩
  simp only [Ak.v, akV] at he
  subst he
  go_upto_region 4 with fail
  have bxa := Blk.new w1 26 #[.int .u8 (a.fn : Int), .int .u16 (a.at_ : Int), .int .u16 (a.many : Int), .int .u16 (a.to_ : Int), .slice Aa a.words.length ca, .slice Ba a.bits.length da]
  have hs := (Below.refl w1.heap.size w1).alloc (Nat.le_refl _) (.cells #[.int .u8 (a.fn : Int), .int .u16 (a.at_ : Int), .int .u16 (a.many : Int), .int .u16 (a.to_ : Int), .slice Aa a.words.length ca, .slice Ba a.bits.length da] 26)
  generalize w1.alloc (.cells #[.int .u8 (a.fn : Int), .int .u16 (a.at_ : Int), .int .u16 (a.many : Int), .int .u16 (a.to_ : Int), .slice Aa a.words.length ca, .slice Ba a.bits.length da] 26) = w2 at *
  obtain ⟨g1, hg1⟩ : ∃ g, w1.heap.size = g := ⟨_, rfl⟩
  have g1lt : w1.heap.size ≤ g1 := by omega
  replace rwa := rwa.below hs
  replace rba := rba.below hs
  replace hb := bthen hb hs
  clear hs
  rw [hg1] at bxa ⊢
  clear hg1 g1lt
  go_wp2_with fail
  refine (E2.out _ (hA.below hb)).mono ?_
  rintro e w3 hT
  cases pp with
  | some p =>
      obtain ⟨Ap, cp, Bp, dp, he, rwp, rbp, hs⟩ := hT
      simp only [Ak.v, akV] at he
      subst he
      obtain ⟨rfl, rfl⟩ : p = a ∧ 0 = x := by
        have h1 := HLL.out
        rw [look_some HPP.out] at h1
        injection h1 with h1 h2
        exact ⟨h1, h2⟩
      obtain ⟨hfn, -⟩ := parse_fn HPP.out
      rw [HG.out] at hfn
      have HFN := Lib.hid hfn
      clear hfn
      have hsm := readA_small (parseA_some HPP.out).1 hl
      have hw1 := hsm.words
      have hw2 := hsm.bits
      have S1 := Lib.hid (fun W (h1 : Rd W Aa (ws p.words)) (h2 : Rd W Ba (os p.bits)) (h3 : Rd W Ap (ws p.words)) (h4 : Rd W Bp (os p.bits)) => ask_Same p p Aa ca Ba da Ap cp Bp dp W ⟨h1, h2⟩ ⟨h3, h4⟩ (by omega) (by omega))
      rw [sameA_iff.2 rfl] at S1
      simp only [Ak.v, akV] at S1
      clear hsm hw1 hw2
      replace rwa := rwa.below hs
      replace rba := rba.below hs
      replace bxa := bxa.all hs
      replace hb := bthen hb hs
      clear hs
      go_upto_region 5 with fail
      have bxp := Blk.new w3 26 #[.int .u8 (p.fn : Int), .int .u16 (p.at_ : Int), .int .u16 (p.many : Int), .int .u16 (p.to_ : Int), .slice Ap p.words.length cp, .slice Bp p.bits.length dp]
      have hs := (Below.refl w3.heap.size w3).alloc (Nat.le_refl _) (.cells #[.int .u8 (p.fn : Int), .int .u16 (p.at_ : Int), .int .u16 (p.many : Int), .int .u16 (p.to_ : Int), .slice Ap p.words.length cp, .slice Bp p.bits.length dp] 26)
      generalize w3.alloc (.cells #[.int .u8 (p.fn : Int), .int .u16 (p.at_ : Int), .int .u16 (p.many : Int), .int .u16 (p.to_ : Int), .slice Ap p.words.length cp, .slice Bp p.bits.length dp] 26) = w4 at *
      obtain ⟨g2, hg2⟩ : ∃ g, w3.heap.size = g := ⟨_, rfl⟩
      have g2lt : w3.heap.size ≤ g2 := by omega
      replace rwa := rwa.below hs
      replace rba := rba.below hs
      replace bxa := bxa.all hs
      replace rwp := rwp.below hs
      replace rbp := rbp.below hs
      replace hb := bthen hb hs
      clear hs
      rw [hg2] at bxp ⊢
      clear hg2 g2lt
      have KK : Hid (∀ W : World, Below w4.heap.size w4 W → W.cell? ⟨g1, 0, none⟩ = some (.int .u8 (p.fn : Int)) ∧ W.cell? ⟨g1, 1, none⟩ = some (.int .u16 (p.at_ : Int)) ∧ W.cell? ⟨g1, 2, none⟩ = some (.int .u16 (p.many : Int)) ∧ W.cell? ⟨g1, 3, none⟩ = some (.int .u16 (p.to_ : Int)) ∧ W.cell? ⟨g1, 4, none⟩ = some (.slice Aa p.words.length ca) ∧ W.cell? ⟨g1, 5, none⟩ = some (.slice Ba p.bits.length da) ∧ W.cell? ⟨g2, 0, none⟩ = some (.int .u8 (p.fn : Int)) ∧ W.cell? ⟨g2, 1, none⟩ = some (.int .u16 (p.at_ : Int)) ∧ W.cell? ⟨g2, 2, none⟩ = some (.int .u16 (p.many : Int)) ∧ W.cell? ⟨g2, 3, none⟩ = some (.int .u16 (p.to_ : Int)) ∧ W.cell? ⟨g2, 4, none⟩ = some (.slice Ap p.words.length cp) ∧ W.cell? ⟨g2, 5, none⟩ = some (.slice Bp p.bits.length dp) ∧ W.cell? ⟨bb, off, none⟩ = some (.int .u8 (f : Int))) := fun W hW => ⟨(bxa.all hW).cell 0, (bxa.all hW).cell 1, (bxa.all hW).cell 2, (bxa.all hW).cell 3, (bxa.all hW).cell 4, (bxa.all hW).cell 5, (bxp.all hW).cell 0, (bxp.all hW).cell 1, (bxp.all hW).cell 2, (bxp.all hW).cell 3, (bxp.all hW).cell 4, (bxp.all hW).cell 5, ((bthen hb hW).cell (p := ⟨bb, off, none⟩) hblk).trans cx⟩
      have b0 := (Below.refl w4.heap.size w4).drew
      have hfi : ((p.fn : Int) != (f : Int)) = false := by rw [HFN.out]; simp
      refine wp_region_held_drew (S := fun W => W.cell? ⟨g1, 0, none⟩ = some (.int .u8 (p.fn : Int)) ∧ W.cell? ⟨g1, 1, none⟩ = some (.int .u16 (p.at_ : Int)) ∧ W.cell? ⟨g1, 2, none⟩ = some (.int .u16 (p.many : Int)) ∧ W.cell? ⟨g1, 3, none⟩ = some (.int .u16 (p.to_ : Int)) ∧ W.cell? ⟨g1, 4, none⟩ = some (.slice Aa p.words.length ca) ∧ W.cell? ⟨g1, 5, none⟩ = some (.slice Ba p.bits.length da) ∧ W.cell? ⟨g2, 0, none⟩ = some (.int .u8 (p.fn : Int)) ∧ W.cell? ⟨g2, 1, none⟩ = some (.int .u16 (p.at_ : Int)) ∧ W.cell? ⟨g2, 2, none⟩ = some (.int .u16 (p.many : Int)) ∧ W.cell? ⟨g2, 3, none⟩ = some (.int .u16 (p.to_ : Int)) ∧ W.cell? ⟨g2, 4, none⟩ = some (.slice Ap p.words.length cp) ∧ W.cell? ⟨g2, 5, none⟩ = some (.slice Bp p.bits.length dp) ∧ W.cell? ⟨bb, off, none⟩ = some (.int .u8 (f : Int))) (by kernel_rfl) ?_ (fun hHeld => ?_)
      · (first | exact KK.out _ b0 | exact KK.out _ hs)
      refine takeRun (i := 0) (v := ?_) rfl (by kernel_rfl) (by kernel_rfl) (by kernel_rfl) (fun _ _ _ h => h) rfl ?_ (by assumption) ?_
      rotate_left
      · (intro w hSw; (try dsimp only at hSw); go_simp; (try with_reducible rfl))
      try simp only [Act.put, List.setIfInBounds_toArray, List.set_cons_zero, List.set_cons_succ]
      refine takeRun (i := 1) (v := ?_) rfl (by kernel_rfl) (by kernel_rfl) (by kernel_rfl) (fun _ _ _ h => h) rfl ?_ (by assumption) ?_
      rotate_left
      · (intro w hSw; (try dsimp only at hSw); go_simp; (try with_reducible rfl))
      try simp only [Act.put, List.setIfInBounds_toArray, List.set_cons_zero, List.set_cons_succ]
      refine takeRun (i := 2) (v := ?_) rfl (by kernel_rfl) (by kernel_rfl) (by kernel_rfl) (fun _ _ _ h => h) rfl ?_ (by assumption) ?_
      rotate_left
      · (intro w hSw; (try dsimp only at hSw); go_simp; (try with_reducible rfl))
      try simp only [Act.put, List.setIfInBounds_toArray, List.set_cons_zero, List.set_cons_succ]
      refine takeRun (i := 3) (v := ?_) rfl (by kernel_rfl) (by kernel_rfl) (by kernel_rfl) (fun _ _ _ h => h) rfl ?_ (by assumption) ?_
      rotate_left
      · (intro w hSw; (try dsimp only at hSw); go_simp; (try with_reducible rfl))
      try simp only [Act.put, List.setIfInBounds_toArray, List.set_cons_zero, List.set_cons_succ]
      refine takeRun (i := 4) (v := ?_) rfl (by kernel_rfl) (by kernel_rfl) (by kernel_rfl) (fun _ _ _ h => h) rfl ?_ (by assumption) ?_
      rotate_left
      · (intro w hSw; (try dsimp only at hSw); go_simp; (try with_reducible rfl))
      try simp only [Act.put, List.setIfInBounds_toArray, List.set_cons_zero, List.set_cons_succ]
      refine takeRun (i := 5) (v := ?_) rfl (by kernel_rfl) (by kernel_rfl) (by kernel_rfl) (fun _ _ _ h => h) rfl ?_ (by assumption) ?_
      rotate_left
      · (intro w hSw; (try dsimp only at hSw); go_simp; (try with_reducible rfl))
      try simp only [Act.put, List.setIfInBounds_toArray, List.set_cons_zero, List.set_cons_succ]
      refine takeRun (i := 6) (v := ?_) rfl (by kernel_rfl) (by kernel_rfl) (by kernel_rfl) (fun _ _ _ h => h) rfl ?_ (by assumption) ?_
      rotate_left
      · (intro w hSw; (try dsimp only at hSw); go_simp; (try with_reducible rfl))
      try simp only [Act.put, List.setIfInBounds_toArray, List.set_cons_zero, List.set_cons_succ]
      refine takeRun (i := 7) (v := ?_) rfl (by kernel_rfl) (by kernel_rfl) (by kernel_rfl) (fun _ _ _ h => h) rfl ?_ (by assumption) ?_
      rotate_left
      · (intro w hSw; (try dsimp only at hSw); go_simp; (try with_reducible rfl))
      try simp only [Act.put, List.setIfInBounds_toArray, List.set_cons_zero, List.set_cons_succ]
      refine takeRun (i := 8) (v := ?_) rfl (by kernel_rfl) (by kernel_rfl) (by kernel_rfl) (fun _ _ _ h => h) rfl ?_ (by assumption) ?_
      rotate_left
      · (intro w hSw; (try dsimp only at hSw); go_simp; (try with_reducible rfl))
      try simp only [Act.put, List.setIfInBounds_toArray, List.set_cons_zero, List.set_cons_succ]
      refine takeRun (i := 9) (v := ?_) rfl (by kernel_rfl) (by kernel_rfl) (by kernel_rfl) (fun _ _ _ h => h) rfl ?_ (by assumption) ?_
      rotate_left
      · (intro w hSw; (try dsimp only at hSw); go_simp; (try with_reducible rfl))
      try simp only [Act.put, List.setIfInBounds_toArray, List.set_cons_zero, List.set_cons_succ]
      refine takeRun (i := 10) (v := ?_) rfl (by kernel_rfl) (by kernel_rfl) (by kernel_rfl) (fun _ _ _ h => h) rfl ?_ (by assumption) ?_
      rotate_left
      · (intro w hSw; (try dsimp only at hSw); go_simp; (try with_reducible rfl))
      try simp only [Act.put, List.setIfInBounds_toArray, List.set_cons_zero, List.set_cons_succ]
      refine takeRun (i := 11) (v := ?_) rfl (by kernel_rfl) (by kernel_rfl) (by kernel_rfl) (fun _ _ _ h => h) rfl ?_ (by assumption) ?_
      rotate_left
      · (intro w hSw; (try dsimp only at hSw); go_simp; (try with_reducible rfl))
      try simp only [Act.put, List.setIfInBounds_toArray, List.set_cons_zero, List.set_cons_succ]
      refine takeRun (i := 12) (v := ?_) rfl (by kernel_rfl) (by kernel_rfl) (by kernel_rfl) (fun _ _ _ h => h) rfl ?_ (by assumption) ?_
      rotate_left
      · (intro w hSw; (try dsimp only at hSw); go_simp; (try with_reducible rfl))
      try simp only [Act.put, List.setIfInBounds_toArray, List.set_cons_zero, List.set_cons_succ]
      refine takeRun (i := 13) (v := ?_) rfl (by kernel_rfl) (by kernel_rfl) (by kernel_rfl) (fun _ _ _ h => h) rfl ?_ (by assumption) ?_
      rotate_left
      · (intro w hSw; (try dsimp only at hSw); go_simp; (try with_reducible rfl))
      try simp only [Act.put, List.setIfInBounds_toArray, List.set_cons_zero, List.set_cons_succ]
      refine takeRun (i := 14) (v := ?_) rfl (by kernel_rfl) (by kernel_rfl) (by kernel_rfl) (fun _ _ _ h => h) rfl ?_ (by assumption) ?_
      rotate_left
      · (intro w hSw; (try dsimp only at hSw); go_simp; (try with_reducible rfl))
      try simp only [Act.put, List.setIfInBounds_toArray, List.set_cons_zero, List.set_cons_succ]
      refine takeRun (i := 15) (v := ?_) rfl (by kernel_rfl) (by kernel_rfl) (by kernel_rfl) (fun _ _ _ h => h) rfl ?_ (by assumption) ?_
      rotate_left
      · (intro w hSw; (try dsimp only at hSw); go_simp; (try with_reducible rfl))
      try simp only [Act.put, List.setIfInBounds_toArray, List.set_cons_zero, List.set_cons_succ]
      refine takeRun (i := 16) (v := ?_) rfl (by kernel_rfl) (by kernel_rfl) (by kernel_rfl) (fun _ _ _ h => h) rfl ?_ (by assumption) ?_
      rotate_left
      · (intro w hSw; (try dsimp only at hSw); go_simp; (try with_reducible rfl))
      try simp only [Act.put, List.setIfInBounds_toArray, List.set_cons_zero, List.set_cons_succ]
      refine takeRun (i := 17) (v := ?_) rfl (by kernel_rfl) (by kernel_rfl) (by kernel_rfl) (fun _ _ _ h => h) rfl ?_ (by assumption) ?_
      rotate_left
      · (intro w hSw; (try dsimp only at hSw); go_simp; (try with_reducible rfl))
      try simp only [Act.put, List.setIfInBounds_toArray, List.set_cons_zero, List.set_cons_succ]
      refine takeRun (i := 18) (v := ?_) rfl (by kernel_rfl) (by kernel_rfl) (by kernel_rfl) (fun _ _ _ h => h) rfl ?_ (by assumption) ?_
      rotate_left
      · (intro w hSw; (try dsimp only at hSw); go_simp; (try with_reducible rfl))
      try simp only [Act.put, List.setIfInBounds_toArray, List.set_cons_zero, List.set_cons_succ]
      refine goOne (i := 19) (by kernel_rfl) rfl (fun K hK => ?_)
      go_simp
      (refine (S1.out _ (rwa.below b0).rd (rba.below b0).rd (rwp.below b0).rd (rbp.below b0).rd).mono ?_; rintro e w6 ⟨rfl, hs⟩; replace hs := undrew hs)
      go_wp2_with fail
      refine hK.out _ _ ?_ (fun hHeld => ?_)
      · (first | exact KK.out _ b0 | exact KK.out _ hs)
      clear hK K
      try simp only [Act.put, List.setIfInBounds_toArray, List.set_cons_zero, List.set_cons_succ]
      refine takeRun (i := 20) (v := ?_) rfl (by kernel_rfl) (by kernel_rfl) (by kernel_rfl) (fun _ _ _ h => h) rfl ?_ (by assumption) ?_
      rotate_left
      · (intro w hSw; (try dsimp only at hSw); go_simp; (try with_reducible rfl))
      try simp only [Act.put, List.setIfInBounds_toArray, List.set_cons_zero, List.set_cons_succ]
      refine takeRun (i := 21) (v := ?_) rfl (by kernel_rfl) (by kernel_rfl) (by kernel_rfl) (fun _ _ _ h => h) rfl ?_ (by assumption) ?_
      rotate_left
      · (intro w hSw; (try dsimp only at hSw); go_simp; (try with_reducible rfl))
      try simp only [Act.put, List.setIfInBounds_toArray, List.set_cons_zero, List.set_cons_succ]
      refine takeRun (i := 22) (v := ?_) rfl (by kernel_rfl) (by kernel_rfl) (by kernel_rfl) (fun _ _ _ h => h) rfl ?_ (by assumption) ?_
      rotate_left
      · (intro w hSw; (try dsimp only at hSw); go_simp; (try with_reducible rfl))
      try simp only [Act.put, List.setIfInBounds_toArray, List.set_cons_zero, List.set_cons_succ]
      refine takeRun (i := 23) (v := ?_) rfl (by kernel_rfl) (by kernel_rfl) (by kernel_rfl) (fun _ _ _ h => h) rfl ?_ (by assumption) ?_
      rotate_left
      · (intro w hSw; (try dsimp only at hSw); go_simp; (try with_reducible rfl))
      try simp only [Act.put, List.setIfInBounds_toArray, List.set_cons_zero, List.set_cons_succ]
      refine takeRun (i := 24) (v := ?_) rfl (by kernel_rfl) (by kernel_rfl) (by kernel_rfl) (fun _ _ _ h => h) rfl ?_ (by assumption) ?_
      rotate_left
      · (intro w hSw; (try dsimp only at hSw); go_simp; (try with_reducible rfl))
      try simp only [Act.put, List.setIfInBounds_toArray, List.set_cons_zero, List.set_cons_succ]
      refine takeRun (i := 25) (v := ?_) rfl (by kernel_rfl) (by kernel_rfl) (by kernel_rfl) (fun _ _ _ h => h) rfl ?_ (by assumption) ?_
      rotate_left
      · (intro w hSw; (try dsimp only at hSw); go_simp; (try with_reducible rfl))
      try simp only [Act.put, List.setIfInBounds_toArray, List.set_cons_zero, List.set_cons_succ]
      refine takeRun (i := 26) (v := ?_) rfl (by kernel_rfl) (by kernel_rfl) (by kernel_rfl) (fun _ _ _ h => h) rfl ?_ (by assumption) ?_
      rotate_left
      · (intro w hSw; (try dsimp only at hSw); go_simp; (try with_reducible rfl))
      try simp only [Act.put, List.setIfInBounds_toArray, List.set_cons_zero, List.set_cons_succ]
      refine takeSkip (i := 27) rfl (by kernel_rfl) (by kernel_rfl) (by kernel_rfl) (fun _ _ _ h => h) rfl (by assumption) ?_
      try simp only [Act.put, List.setIfInBounds_toArray, List.set_cons_zero, List.set_cons_succ]
      refine takeSkip (i := 28) rfl (by kernel_rfl) (by kernel_rfl) (by kernel_rfl) (fun _ _ _ h => h) rfl (by assumption) ?_
      try simp only [Act.put, List.setIfInBounds_toArray, List.set_cons_zero, List.set_cons_succ]
      refine takeSkip (i := 29) rfl (by kernel_rfl) (by kernel_rfl) (by kernel_rfl) (fun _ _ _ h => h) rfl (by assumption) ?_
      try simp only [Act.put, List.setIfInBounds_toArray, List.set_cons_zero, List.set_cons_succ]
      refine takeSkip (i := 30) rfl (by kernel_rfl) (by kernel_rfl) (by kernel_rfl) (fun _ _ _ h => h) rfl (by assumption) ?_
      try simp only [Act.put, List.setIfInBounds_toArray, List.set_cons_zero, List.set_cons_succ]
      refine takeSkip (i := 31) rfl (by kernel_rfl) (by kernel_rfl) (by kernel_rfl) (fun _ _ _ h => h) rfl (by assumption) ?_
      try simp only [Act.put, List.setIfInBounds_toArray, List.set_cons_zero, List.set_cons_succ]
      refine takeSkip (i := 32) rfl (by kernel_rfl) (by kernel_rfl) (by kernel_rfl) (fun _ _ _ h => h) rfl (by assumption) ?_
      try simp only [Act.put, List.setIfInBounds_toArray, List.set_cons_zero, List.set_cons_succ]
      refine takeSkip (i := 33) rfl (by kernel_rfl) (by kernel_rfl) (by kernel_rfl) (fun _ _ _ h => h) rfl (by assumption) ?_
      try simp only [Act.put, List.setIfInBounds_toArray, List.set_cons_zero, List.set_cons_succ]
      refine takeRun (i := 34) (v := ?_) rfl (by kernel_rfl) (by kernel_rfl) (by kernel_rfl) (fun _ _ _ h => h) rfl ?_ (by assumption) ?_
      rotate_left
      · (intro w hSw; (try dsimp only at hSw); go_simp; (try with_reducible rfl))
      try simp only [Act.put, List.setIfInBounds_toArray, List.set_cons_zero, List.set_cons_succ]
      refine takeRun (i := 35) (v := ?_) rfl (by kernel_rfl) (by kernel_rfl) (by kernel_rfl) (fun _ _ _ h => h) rfl ?_ (by assumption) ?_
      rotate_left
      · (intro w hSw; (try dsimp only at hSw); go_simp; (try with_reducible rfl))
      try simp only [Act.put, List.setIfInBounds_toArray, List.set_cons_zero, List.set_cons_succ]
      refine takeRun (i := 36) (v := ?_) rfl (by kernel_rfl) (by kernel_rfl) (by kernel_rfl) (fun _ _ _ h => h) rfl ?_ (by assumption) ?_
      rotate_left
      · (intro w hSw; (try dsimp only at hSw); go_simp; (try with_reducible rfl))
      try simp only [Act.put, List.setIfInBounds_toArray, List.set_cons_zero, List.set_cons_succ]
      refine takeRun (i := 37) (v := ?_) rfl (by kernel_rfl) (by kernel_rfl) (by kernel_rfl) (fun _ _ _ h => h) rfl ?_ (by assumption) ?_
      rotate_left
      · (intro w hSw; (try dsimp only at hSw); go_simp; (try with_reducible rfl))
      try simp only [Act.put, List.setIfInBounds_toArray, List.set_cons_zero, List.set_cons_succ]
      refine takeRun (i := 38) (v := ?_) rfl (by kernel_rfl) (by kernel_rfl) (by kernel_rfl) (fun _ _ _ h => h) rfl ?_ (by assumption) ?_
      rotate_left
      · (intro w hSw; (try dsimp only at hSw); go_simp; (try with_reducible rfl))
      try simp only [Act.put, List.setIfInBounds_toArray, List.set_cons_zero, List.set_cons_succ]
      refine takeRun (i := 39) (v := ?_) rfl (by kernel_rfl) (by kernel_rfl) (by kernel_rfl) (fun _ _ _ h => h) rfl ?_ (by assumption) ?_
      rotate_left
      · (intro w hSw; (try dsimp only at hSw); go_simp; (try with_reducible rfl))
      try simp only [Act.put, List.setIfInBounds_toArray, List.set_cons_zero, List.set_cons_succ]
      refine takeSkip (i := 40) rfl (by kernel_rfl) (by kernel_rfl) (by kernel_rfl) (fun _ _ _ h => h) rfl (by assumption) ?_
      try simp only [Act.put, List.setIfInBounds_toArray, List.set_cons_zero, List.set_cons_succ]
      refine takeSkip (i := 41) rfl (by kernel_rfl) (by kernel_rfl) (by kernel_rfl) (fun _ _ _ h => h) rfl (by assumption) ?_
      try simp only [Act.put, List.setIfInBounds_toArray, List.set_cons_zero, List.set_cons_succ]
      refine takeRun (i := 42) (v := ?_) rfl (by kernel_rfl) (by kernel_rfl) (by kernel_rfl) (fun _ _ _ h => h) rfl ?_ (by assumption) ?_
      rotate_left
      · (intro w hSw; (try dsimp only at hSw); go_simp; (try with_reducible rfl))
      try simp only [Act.put, List.setIfInBounds_toArray, List.set_cons_zero, List.set_cons_succ]
      refine takeRun (i := 43) (v := ?_) rfl (by kernel_rfl) (by kernel_rfl) (by kernel_rfl) (fun _ _ _ h => h) rfl ?_ (by assumption) ?_
      rotate_left
      · (intro w hSw; (try dsimp only at hSw); go_simp; (try with_reducible rfl))
      try simp only [Act.put, List.setIfInBounds_toArray, List.set_cons_zero, List.set_cons_succ]
      refine takeSkip (i := 44) rfl (by kernel_rfl) (by kernel_rfl) (by kernel_rfl) (fun _ _ _ h => h) rfl (by assumption) ?_
      try simp only [Act.put, List.setIfInBounds_toArray, List.set_cons_zero, List.set_cons_succ]
      refine takeSkip (i := 45) rfl (by kernel_rfl) (by kernel_rfl) (by kernel_rfl) (fun _ _ _ h => h) rfl (by assumption) ?_
      try simp only [Act.put, List.setIfInBounds_toArray, List.set_cons_zero, List.set_cons_succ]
      refine takeRun (i := 46) (v := ?_) rfl (by kernel_rfl) (by kernel_rfl) (by kernel_rfl) (fun _ _ _ h => h) rfl ?_ (by assumption) ?_
      rotate_left
      · (intro w hSw; (try dsimp only at hSw); go_simp; (try with_reducible rfl))
      try simp only [Act.put, List.setIfInBounds_toArray, List.set_cons_zero, List.set_cons_succ]
      refine takeRun (i := 47) (v := ?_) rfl (by kernel_rfl) (by kernel_rfl) (by kernel_rfl) (fun _ _ _ h => h) rfl ?_ (by assumption) ?_
      rotate_left
      · (intro w hSw; (try dsimp only at hSw); go_simp; (try with_reducible rfl))
      try simp only [Act.put, List.setIfInBounds_toArray, List.set_cons_zero, List.set_cons_succ]
      refine wpAnyH_done (by kernel_rfl) ?_ _
      replace hb := bthen hb hs
      clear hs KK b0
      go_wp2_with fail
      go_loopw [7, 79] (fun kn i wr => ∃ j : Nat, j ≤ 256 ∧ i = .int .i64 j ∧ kn = .int .i64 (cntF j : Nat) ∧ Below w.heap.size w wr) (fun _ i _ => 256 - (intOf i).toNat)
      case atStart => exact ⟨0, by omega, rfl, rfl, hb⟩
      case round =>
        clear hb
        obtain ⟨j, hj, rfl, rfl, hb⟩ := hrel
        by_cases hlt : j < 256
        · have hcl := cntF_le j
          have HCS := Lib.hid (cntF_succ j)
          obtain ⟨kn, hkn⟩ : ∃ k, cntF j = k := ⟨_, rfl⟩
          rw [hkn] at hcl ⊢
          have HKN := Lib.hid hkn
          clear hkn
          have hju : IntKind.u8.wrap (j : Int) = (j : Int) := by rw [IntKind.wrap_u8]; omega
          have cw := (hb.cell (p := ⟨bb, off, none⟩) hblk).trans cx
          have rd := hA.below hb
          have HE : Hid (bs [] = []) := rfl
          go_wp2_with (at_builtin; refine app_b rfl _ _ rfl wr ((Below.refl _ _).alloc (Nat.le_refl _) _) _ _ _ [] rfl (Ow.lit _ _ _ [] (Nat.le_refl _) (Nat.zero_le _) HE.out rfl) rfl (some ⟨bb, off, none⟩) n c l rfl (rd.alloc _) HN.out (by omega) ?_)
          intro A8 c8 w8 ho8 hb8 hg8
          try simp only [List.nil_append] at ho8
          obtain ⟨g8, rfl, hg8B, hlt8, hcells, hfz⟩ := ho8.head (by rw [bs_length, HN.out]; exact hn1)
          have k0 := hcells 0 (.int .u8 (f : Int)) (by have := HX.out; simp only [bs, List.getElem?_map, this, Option.map_some])
          have z0 := hfz 0
          have ho9 := ho8.stored 0 (.int .u8 (j : Int))
          rw [bs_set] at ho9
          have hb9 := hb8.setCell (p := ⟨g8, 0, none⟩) hg8B (.int .u8 (j : Int))
          have hle := ho8.le.1
          rw [bs_length, HN.out] at hle
          clear hcells hfz hg8 ho8 hb8
          go_upto_region 13 with fail
          generalize w8.setCell ⟨g8, 0, none⟩ (.int .u8 (j : Int)) = w9 at *
          clear k0 z0
          have E8 := ask_Look (some ⟨g8, 0, none⟩) n c8 (l.set 0 j) w9 ho9.rd (by rw [List.length_set]; exact HN.out) (Bs.set hl (by omega)) hle (by omega)
          obtain ⟨r, hr⟩ : ∃ r, lookA (l.set 0 j) = r := ⟨_, rfl⟩
          have hy := look_set HNE.out j
          rw [hr] at E8 hy
          have HR := Lib.hid hr
          obtain ⟨a8, y⟩ := r
          simp only at E8 hy
          have HE8 := Lib.hid E8
          have HY := Lib.hid hy
          clear hr E8 hy
          go_wp2_with fail
          refine HE8.out.mono ?_
          rintro e w10 ⟨A10, c10, B10, d10, he, -, -, hb10⟩
          simp only [Ak.v, akV] at he
          subst he
          have hbE := bthen (bthen hb hb9) hb10
          have hbE' := hbE.alloc hbE.size (.cells #[.int .u8 (a8.fn : Int), .int .u16 (a8.at_ : Int), .int .u16 (a8.many : Int), .int .u16 (a8.to_ : Int), .slice A10 a8.words.length c10, .slice B10 a8.bits.length d10] 26)
          have cw10 : (w10.alloc (.cells #[.int .u8 (a8.fn : Int), .int .u16 (a8.at_ : Int), .int .u16 (a8.many : Int), .int .u16 (a8.to_ : Int), .slice A10 a8.words.length c10, .slice B10 a8.bits.length d10] 26)).cell? ⟨bb, off, none⟩ = some (.int .u8 (f : Int)) := (hbE'.cell (p := ⟨bb, off, none⟩) hblk).trans cx
          clear hb10 hb9 hbE ho9
          go_upto_region 14 with fail
          generalize w10.alloc (.cells #[.int .u8 (a8.fn : Int), .int .u16 (a8.at_ : Int), .int .u16 (a8.many : Int), .int .u16 (a8.to_ : Int), .slice A10 a8.words.length c10, .slice B10 a8.bits.length d10] 26) = w11 at *
          have key : ((j : Int) == (f : Int)) = true ∧ ((y : Int) != 0) = false ∨ ((j : Int) == (f : Int)) = false := by
            by_cases hjf : j = f
            · left
              refine ⟨by simp [hjf], ?_⟩
              have h1 := HR.out
              rw [hjf, set_self HX.out, HLL.out] at h1
              injection h1 with _ h1
              simp
              omega
            · right
              simp
              omega
          by_cases hfj : isFn j = true
          · have t1 : ((y : Int) != 1) = true := by have := HY.out.2 hfj; simp; omega
            have hk1 : Hid (cntF (j + 1) = kn + 1) := by (show _ = _); rw [HCS.out, HKN.out, if_pos hfj]
            rcases key with ⟨k1, k2⟩ | k1
            try exact absurd (k2.symm.trans t1) (by decide)
            all_goals
              go_wp2_with fail
              go_roundw
              case rel => exact ⟨j + 1, by omega, by go_num, by rw [hk1.out]; go_num, hbE'⟩
              case measure => simp [intOf]; omega
          · have t1 : ((y : Int) != 1) = false := by have h1 : y = 1 := Classical.byContradiction fun h => hfj (HY.out.1 h); simp [h1]
            have hk1 : Hid (cntF (j + 1) = kn) := by (show _ = _); rw [HCS.out, HKN.out, if_neg hfj]; rfl
            rcases key with ⟨k1, k2⟩ | k1
            all_goals
              go_wp2_with fail
              go_roundw
              case rel => exact ⟨j + 1, by omega, by go_num, by rw [hk1.out], hbE'⟩
              case measure => simp [intOf]; omega
        · obtain rfl : j = 256 := by omega
          rw [cntF_all]
          go_wp2_with fail
          refine (awk.out _).mono ?_
          rintro e w12 ⟨rfl, hb12⟩
          go_wp2_with fail
          go_ret
          exact ⟨rfl, bthen hb hb12⟩
  | none =>
      obtain ⟨he, hs⟩ := hT
      rw [show Ak.zero.v none 0 none 0 = .agg #[.int .u8 0, .int .u16 0, .int .u16 0, .int .u16 0, .slice none 0 0, .slice none 0 0] from rfl] at he
      subst he
      obtain ⟨rfl, hx0⟩ : (⟨f, 0, 0, 0, [], []⟩ : Ak) = a ∧ x = if isFn f then 3 else 1 := by
        have h1 := HLL.out
        rw [look_none HNE.out HPP.out, HG.out] at h1
        injection h1 with h1 h2
        exact ⟨h1, h2.symm⟩
      have HX0 := Lib.hid hx0
      clear hx0
      have S1 := Lib.hid (fun W (h1 : Rd W Aa (ws [])) (h2 : Rd W Ba (os [])) => ask_Same ⟨f, 0, 0, 0, [], []⟩ ⟨f, 0, 0, 0, [], []⟩ Aa ca Ba da none 0 none 0 W ⟨h1, h2⟩ ⟨Rd.nil, Rd.nil⟩ (by simp) (by simp))
      rw [sameA_iff.2 rfl] at S1
      simp only [Ak.v, akV] at S1
      replace rwa := rwa.below hs
      replace rba := rba.below hs
      replace bxa := bxa.all hs
      replace hb := bthen hb hs
      clear hs
      go_upto_region 5 with fail
      have bxp := Blk.new w3 26 #[.int .u8 0, .int .u16 0, .int .u16 0, .int .u16 0, .slice none 0 0, .slice none 0 0]
      have hs := (Below.refl w3.heap.size w3).alloc (Nat.le_refl _) (.cells #[.int .u8 0, .int .u16 0, .int .u16 0, .int .u16 0, .slice none 0 0, .slice none 0 0] 26)
      generalize w3.alloc (.cells #[.int .u8 0, .int .u16 0, .int .u16 0, .int .u16 0, .slice none 0 0, .slice none 0 0] 26) = w4 at *
      obtain ⟨g2, hg2⟩ : ∃ g, w3.heap.size = g := ⟨_, rfl⟩
      have g2lt : w3.heap.size ≤ g2 := by omega
      replace rwa := rwa.below hs
      replace rba := rba.below hs
      replace bxa := bxa.all hs
      replace hb := bthen hb hs
      clear hs
      rw [hg2] at bxp ⊢
      clear hg2 g2lt
      simp only [List.length_nil] at S1 bxa ⊢
      have KK : Hid (∀ W : World, Below w4.heap.size w4 W → W.cell? ⟨g1, 0, none⟩ = some (.int .u8 (f : Int)) ∧ W.cell? ⟨g1, 1, none⟩ = some (.int .u16 0) ∧ W.cell? ⟨g1, 2, none⟩ = some (.int .u16 0) ∧ W.cell? ⟨g1, 3, none⟩ = some (.int .u16 0) ∧ W.cell? ⟨g1, 4, none⟩ = some (.slice Aa 0 ca) ∧ W.cell? ⟨g1, 5, none⟩ = some (.slice Ba 0 da) ∧ W.cell? ⟨g2, 0, none⟩ = some (.int .u8 0) ∧ W.cell? ⟨g2, 1, none⟩ = some (.int .u16 0) ∧ W.cell? ⟨g2, 2, none⟩ = some (.int .u16 0) ∧ W.cell? ⟨g2, 3, none⟩ = some (.int .u16 0) ∧ W.cell? ⟨g2, 4, none⟩ = some (.slice none 0 0) ∧ W.cell? ⟨g2, 5, none⟩ = some (.slice none 0 0) ∧ W.cell? ⟨bb, off, none⟩ = some (.int .u8 (f : Int))) := fun W hW => ⟨(bxa.all hW).cell 0, (bxa.all hW).cell 1, (bxa.all hW).cell 2, (bxa.all hW).cell 3, (bxa.all hW).cell 4, (bxa.all hW).cell 5, (bxp.all hW).cell 0, (bxp.all hW).cell 1, (bxp.all hW).cell 2, (bxp.all hW).cell 3, (bxp.all hW).cell 4, (bxp.all hW).cell 5, ((bthen hb hW).cell (p := ⟨bb, off, none⟩) hblk).trans cx⟩
      have b0 := (Below.refl w4.heap.size w4).drew
      rcases (show (isFn f = true ∧ x = 3) ∨ (isFn f = false ∧ x = 1) by rw [HX0.out]; cases isFn f <;> simp) with ⟨hif, rfl⟩ | ⟨hif, rfl⟩
      · clear hif
        refine wp_region_held_drew (S := fun W => W.cell? ⟨g1, 0, none⟩ = some (.int .u8 (f : Int)) ∧ W.cell? ⟨g1, 1, none⟩ = some (.int .u16 0) ∧ W.cell? ⟨g1, 2, none⟩ = some (.int .u16 0) ∧ W.cell? ⟨g1, 3, none⟩ = some (.int .u16 0) ∧ W.cell? ⟨g1, 4, none⟩ = some (.slice Aa 0 ca) ∧ W.cell? ⟨g1, 5, none⟩ = some (.slice Ba 0 da) ∧ W.cell? ⟨g2, 0, none⟩ = some (.int .u8 0) ∧ W.cell? ⟨g2, 1, none⟩ = some (.int .u16 0) ∧ W.cell? ⟨g2, 2, none⟩ = some (.int .u16 0) ∧ W.cell? ⟨g2, 3, none⟩ = some (.int .u16 0) ∧ W.cell? ⟨g2, 4, none⟩ = some (.slice none 0 0) ∧ W.cell? ⟨g2, 5, none⟩ = some (.slice none 0 0) ∧ W.cell? ⟨bb, off, none⟩ = some (.int .u8 (f : Int))) (by kernel_rfl) ?_ (fun hHeld => ?_)
        · (first | exact KK.out _ b0 | exact KK.out _ hs)
        refine takeRun (i := 0) (v := ?_) rfl (by kernel_rfl) (by kernel_rfl) (by kernel_rfl) (fun _ _ _ h => h) rfl ?_ (by assumption) ?_
        rotate_left
        · (intro w hSw; (try dsimp only at hSw); go_simp; (try with_reducible rfl))
        try simp only [Act.put, List.setIfInBounds_toArray, List.set_cons_zero, List.set_cons_succ]
        refine takeRun (i := 1) (v := ?_) rfl (by kernel_rfl) (by kernel_rfl) (by kernel_rfl) (fun _ _ _ h => h) rfl ?_ (by assumption) ?_
        rotate_left
        · (intro w hSw; (try dsimp only at hSw); go_simp; (try with_reducible rfl))
        try simp only [Act.put, List.setIfInBounds_toArray, List.set_cons_zero, List.set_cons_succ]
        refine takeRun (i := 2) (v := ?_) rfl (by kernel_rfl) (by kernel_rfl) (by kernel_rfl) (fun _ _ _ h => h) rfl ?_ (by assumption) ?_
        rotate_left
        · (intro w hSw; (try dsimp only at hSw); go_simp; (try with_reducible rfl))
        try simp only [Act.put, List.setIfInBounds_toArray, List.set_cons_zero, List.set_cons_succ]
        refine takeRun (i := 3) (v := ?_) rfl (by kernel_rfl) (by kernel_rfl) (by kernel_rfl) (fun _ _ _ h => h) rfl ?_ (by assumption) ?_
        rotate_left
        · (intro w hSw; (try dsimp only at hSw); go_simp; (try with_reducible rfl))
        try simp only [Act.put, List.setIfInBounds_toArray, List.set_cons_zero, List.set_cons_succ]
        refine takeRun (i := 4) (v := ?_) rfl (by kernel_rfl) (by kernel_rfl) (by kernel_rfl) (fun _ _ _ h => h) rfl ?_ (by assumption) ?_
        rotate_left
        · (intro w hSw; (try dsimp only at hSw); go_simp; (try with_reducible rfl))
        try simp only [Act.put, List.setIfInBounds_toArray, List.set_cons_zero, List.set_cons_succ]
        refine takeRun (i := 5) (v := ?_) rfl (by kernel_rfl) (by kernel_rfl) (by kernel_rfl) (fun _ _ _ h => h) rfl ?_ (by assumption) ?_
        rotate_left
        · (intro w hSw; (try dsimp only at hSw); go_simp; (try with_reducible rfl))
        try simp only [Act.put, List.setIfInBounds_toArray, List.set_cons_zero, List.set_cons_succ]
        refine takeRun (i := 6) (v := ?_) rfl (by kernel_rfl) (by kernel_rfl) (by kernel_rfl) (fun _ _ _ h => h) rfl ?_ (by assumption) ?_
        rotate_left
        · (intro w hSw; (try dsimp only at hSw); go_simp; (try with_reducible rfl))
        try simp only [Act.put, List.setIfInBounds_toArray, List.set_cons_zero, List.set_cons_succ]
        refine takeRun (i := 7) (v := ?_) rfl (by kernel_rfl) (by kernel_rfl) (by kernel_rfl) (fun _ _ _ h => h) rfl ?_ (by assumption) ?_
        rotate_left
        · (intro w hSw; (try dsimp only at hSw); go_simp; (try with_reducible rfl))
        try simp only [Act.put, List.setIfInBounds_toArray, List.set_cons_zero, List.set_cons_succ]
        refine takeRun (i := 8) (v := ?_) rfl (by kernel_rfl) (by kernel_rfl) (by kernel_rfl) (fun _ _ _ h => h) rfl ?_ (by assumption) ?_
        rotate_left
        · (intro w hSw; (try dsimp only at hSw); go_simp; (try with_reducible rfl))
        try simp only [Act.put, List.setIfInBounds_toArray, List.set_cons_zero, List.set_cons_succ]
        refine takeRun (i := 9) (v := ?_) rfl (by kernel_rfl) (by kernel_rfl) (by kernel_rfl) (fun _ _ _ h => h) rfl ?_ (by assumption) ?_
        rotate_left
        · (intro w hSw; (try dsimp only at hSw); go_simp; (try with_reducible rfl))
        try simp only [Act.put, List.setIfInBounds_toArray, List.set_cons_zero, List.set_cons_succ]
        refine takeRun (i := 10) (v := ?_) rfl (by kernel_rfl) (by kernel_rfl) (by kernel_rfl) (fun _ _ _ h => h) rfl ?_ (by assumption) ?_
        rotate_left
        · (intro w hSw; (try dsimp only at hSw); go_simp; (try with_reducible rfl))
        try simp only [Act.put, List.setIfInBounds_toArray, List.set_cons_zero, List.set_cons_succ]
        refine takeRun (i := 11) (v := ?_) rfl (by kernel_rfl) (by kernel_rfl) (by kernel_rfl) (fun _ _ _ h => h) rfl ?_ (by assumption) ?_
        rotate_left
        · (intro w hSw; (try dsimp only at hSw); go_simp; (try with_reducible rfl))
        try simp only [Act.put, List.setIfInBounds_toArray, List.set_cons_zero, List.set_cons_succ]
        refine takeRun (i := 12) (v := ?_) rfl (by kernel_rfl) (by kernel_rfl) (by kernel_rfl) (fun _ _ _ h => h) rfl ?_ (by assumption) ?_
        rotate_left
        · (intro w hSw; (try dsimp only at hSw); go_simp; (try with_reducible rfl))
        try simp only [Act.put, List.setIfInBounds_toArray, List.set_cons_zero, List.set_cons_succ]
        refine takeRun (i := 13) (v := ?_) rfl (by kernel_rfl) (by kernel_rfl) (by kernel_rfl) (fun _ _ _ h => h) rfl ?_ (by assumption) ?_
        rotate_left
        · (intro w hSw; (try dsimp only at hSw); go_simp; (try with_reducible rfl))
        try simp only [Act.put, List.setIfInBounds_toArray, List.set_cons_zero, List.set_cons_succ]
        refine takeRun (i := 14) (v := ?_) rfl (by kernel_rfl) (by kernel_rfl) (by kernel_rfl) (fun _ _ _ h => h) rfl ?_ (by assumption) ?_
        rotate_left
        · (intro w hSw; (try dsimp only at hSw); go_simp; (try with_reducible rfl))
        try simp only [Act.put, List.setIfInBounds_toArray, List.set_cons_zero, List.set_cons_succ]
        refine takeRun (i := 15) (v := ?_) rfl (by kernel_rfl) (by kernel_rfl) (by kernel_rfl) (fun _ _ _ h => h) rfl ?_ (by assumption) ?_
        rotate_left
        · (intro w hSw; (try dsimp only at hSw); go_simp; (try with_reducible rfl))
        try simp only [Act.put, List.setIfInBounds_toArray, List.set_cons_zero, List.set_cons_succ]
        refine takeRun (i := 16) (v := ?_) rfl (by kernel_rfl) (by kernel_rfl) (by kernel_rfl) (fun _ _ _ h => h) rfl ?_ (by assumption) ?_
        rotate_left
        · (intro w hSw; (try dsimp only at hSw); go_simp; (try with_reducible rfl))
        try simp only [Act.put, List.setIfInBounds_toArray, List.set_cons_zero, List.set_cons_succ]
        refine takeSkip (i := 17) rfl (by kernel_rfl) (by kernel_rfl) (by kernel_rfl) (fun _ _ _ h => h) rfl (by assumption) ?_
        try simp only [Act.put, List.setIfInBounds_toArray, List.set_cons_zero, List.set_cons_succ]
        refine takeSkip (i := 18) rfl (by kernel_rfl) (by kernel_rfl) (by kernel_rfl) (fun _ _ _ h => h) rfl (by assumption) ?_
        try simp only [Act.put, List.setIfInBounds_toArray, List.set_cons_zero, List.set_cons_succ]
        refine takeSkip (i := 19) rfl (by kernel_rfl) (by kernel_rfl) (by kernel_rfl) (fun _ _ _ h => h) rfl (by assumption) ?_
        try simp only [Act.put, List.setIfInBounds_toArray, List.set_cons_zero, List.set_cons_succ]
        refine takeSkip (i := 20) rfl (by kernel_rfl) (by kernel_rfl) (by kernel_rfl) (fun _ _ _ h => h) rfl (by assumption) ?_
        try simp only [Act.put, List.setIfInBounds_toArray, List.set_cons_zero, List.set_cons_succ]
        refine takeRun (i := 21) (v := ?_) rfl (by kernel_rfl) (by kernel_rfl) (by kernel_rfl) (fun _ _ _ h => h) rfl ?_ (by assumption) ?_
        rotate_left
        · (intro w hSw; (try dsimp only at hSw); go_simp; (try with_reducible rfl))
        try simp only [Act.put, List.setIfInBounds_toArray, List.set_cons_zero, List.set_cons_succ]
        refine takeRun (i := 22) (v := ?_) rfl (by kernel_rfl) (by kernel_rfl) (by kernel_rfl) (fun _ _ _ h => h) rfl ?_ (by assumption) ?_
        rotate_left
        · (intro w hSw; (try dsimp only at hSw); go_simp; (try with_reducible rfl))
        try simp only [Act.put, List.setIfInBounds_toArray, List.set_cons_zero, List.set_cons_succ]
        refine takeRun (i := 23) (v := ?_) rfl (by kernel_rfl) (by kernel_rfl) (by kernel_rfl) (fun _ _ _ h => h) rfl ?_ (by assumption) ?_
        rotate_left
        · (intro w hSw; (try dsimp only at hSw); go_simp; (try with_reducible rfl))
        try simp only [Act.put, List.setIfInBounds_toArray, List.set_cons_zero, List.set_cons_succ]
        refine takeRun (i := 24) (v := ?_) rfl (by kernel_rfl) (by kernel_rfl) (by kernel_rfl) (fun _ _ _ h => h) rfl ?_ (by assumption) ?_
        rotate_left
        · (intro w hSw; (try dsimp only at hSw); go_simp; (try with_reducible rfl))
        try simp only [Act.put, List.setIfInBounds_toArray, List.set_cons_zero, List.set_cons_succ]
        refine takeRun (i := 25) (v := ?_) rfl (by kernel_rfl) (by kernel_rfl) (by kernel_rfl) (fun _ _ _ h => h) rfl ?_ (by assumption) ?_
        rotate_left
        · (intro w hSw; (try dsimp only at hSw); go_simp; (try with_reducible rfl))
        try simp only [Act.put, List.setIfInBounds_toArray, List.set_cons_zero, List.set_cons_succ]
        refine takeRun (i := 26) (v := ?_) rfl (by kernel_rfl) (by kernel_rfl) (by kernel_rfl) (fun _ _ _ h => h) rfl ?_ (by assumption) ?_
        rotate_left
        · (intro w hSw; (try dsimp only at hSw); go_simp; (try with_reducible rfl))
        try simp only [Act.put, List.setIfInBounds_toArray, List.set_cons_zero, List.set_cons_succ]
        refine takeRun (i := 27) (v := ?_) rfl (by kernel_rfl) (by kernel_rfl) (by kernel_rfl) (fun _ _ _ h => h) rfl ?_ (by assumption) ?_
        rotate_left
        · (intro w hSw; (try dsimp only at hSw); go_simp; (try with_reducible rfl))
        try simp only [Act.put, List.setIfInBounds_toArray, List.set_cons_zero, List.set_cons_succ]
        refine takeRun (i := 28) (v := ?_) rfl (by kernel_rfl) (by kernel_rfl) (by kernel_rfl) (fun _ _ _ h => h) rfl ?_ (by assumption) ?_
        rotate_left
        · (intro w hSw; (try dsimp only at hSw); go_simp; (try with_reducible rfl))
        try simp only [Act.put, List.setIfInBounds_toArray, List.set_cons_zero, List.set_cons_succ]
        refine takeRun (i := 29) (v := ?_) rfl (by kernel_rfl) (by kernel_rfl) (by kernel_rfl) (fun _ _ _ h => h) rfl ?_ (by assumption) ?_
        rotate_left
        · (intro w hSw; (try dsimp only at hSw); go_simp; (try with_reducible rfl))
        try simp only [Act.put, List.setIfInBounds_toArray, List.set_cons_zero, List.set_cons_succ]
        refine takeRun (i := 30) (v := ?_) rfl (by kernel_rfl) (by kernel_rfl) (by kernel_rfl) (fun _ _ _ h => h) rfl ?_ (by assumption) ?_
        rotate_left
        · (intro w hSw; (try dsimp only at hSw); go_simp; (try with_reducible rfl))
        try simp only [Act.put, List.setIfInBounds_toArray, List.set_cons_zero, List.set_cons_succ]
        refine takeRun (i := 31) (v := ?_) rfl (by kernel_rfl) (by kernel_rfl) (by kernel_rfl) (fun _ _ _ h => h) rfl ?_ (by assumption) ?_
        rotate_left
        · (intro w hSw; (try dsimp only at hSw); go_simp; (try with_reducible rfl))
        try simp only [Act.put, List.setIfInBounds_toArray, List.set_cons_zero, List.set_cons_succ]
        refine goOne (i := 32) (by kernel_rfl) rfl (fun K hK => ?_)
        go_simp
        (refine (S1.out _ (rwa.below b0).rd (rba.below b0).rd).mono ?_; rintro e w6 ⟨rfl, hs⟩; replace hs := undrew hs)
        go_wp2_with fail
        refine hK.out _ _ ?_ (fun hHeld => ?_)
        · (first | exact KK.out _ b0 | exact KK.out _ hs)
        clear hK K
        try simp only [Act.put, List.setIfInBounds_toArray, List.set_cons_zero, List.set_cons_succ]
        refine takeRun (i := 33) (v := ?_) rfl (by kernel_rfl) (by kernel_rfl) (by kernel_rfl) (fun _ _ _ h => h) rfl ?_ (by assumption) ?_
        rotate_left
        · (intro w hSw; (try dsimp only at hSw); go_simp; (try with_reducible rfl))
        try simp only [Act.put, List.setIfInBounds_toArray, List.set_cons_zero, List.set_cons_succ]
        refine takeRun (i := 34) (v := ?_) rfl (by kernel_rfl) (by kernel_rfl) (by kernel_rfl) (fun _ _ _ h => h) rfl ?_ (by assumption) ?_
        rotate_left
        · (intro w hSw; (try dsimp only at hSw); go_simp; (try with_reducible rfl))
        try simp only [Act.put, List.setIfInBounds_toArray, List.set_cons_zero, List.set_cons_succ]
        refine takeRun (i := 35) (v := ?_) rfl (by kernel_rfl) (by kernel_rfl) (by kernel_rfl) (fun _ _ _ h => h) rfl ?_ (by assumption) ?_
        rotate_left
        · (intro w hSw; (try dsimp only at hSw); go_simp; (try with_reducible rfl))
        try simp only [Act.put, List.setIfInBounds_toArray, List.set_cons_zero, List.set_cons_succ]
        refine takeRun (i := 36) (v := ?_) rfl (by kernel_rfl) (by kernel_rfl) (by kernel_rfl) (fun _ _ _ h => h) rfl ?_ (by assumption) ?_
        rotate_left
        · (intro w hSw; (try dsimp only at hSw); go_simp; (try with_reducible rfl))
        try simp only [Act.put, List.setIfInBounds_toArray, List.set_cons_zero, List.set_cons_succ]
        refine takeRun (i := 37) (v := ?_) rfl (by kernel_rfl) (by kernel_rfl) (by kernel_rfl) (fun _ _ _ h => h) rfl ?_ (by assumption) ?_
        rotate_left
        · (intro w hSw; (try dsimp only at hSw); go_simp; (try with_reducible rfl))
        try simp only [Act.put, List.setIfInBounds_toArray, List.set_cons_zero, List.set_cons_succ]
        refine takeRun (i := 38) (v := ?_) rfl (by kernel_rfl) (by kernel_rfl) (by kernel_rfl) (fun _ _ _ h => h) rfl ?_ (by assumption) ?_
        rotate_left
        · (intro w hSw; (try dsimp only at hSw); go_simp; (try with_reducible rfl))
        try simp only [Act.put, List.setIfInBounds_toArray, List.set_cons_zero, List.set_cons_succ]
        refine takeRun (i := 39) (v := ?_) rfl (by kernel_rfl) (by kernel_rfl) (by kernel_rfl) (fun _ _ _ h => h) rfl ?_ (by assumption) ?_
        rotate_left
        · (intro w hSw; (try dsimp only at hSw); go_simp; (try with_reducible rfl))
        try simp only [Act.put, List.setIfInBounds_toArray, List.set_cons_zero, List.set_cons_succ]
        refine takeRun (i := 40) (v := ?_) rfl (by kernel_rfl) (by kernel_rfl) (by kernel_rfl) (fun _ _ _ h => h) rfl ?_ (by assumption) ?_
        rotate_left
        · (intro w hSw; (try dsimp only at hSw); go_simp; (try with_reducible rfl))
        try simp only [Act.put, List.setIfInBounds_toArray, List.set_cons_zero, List.set_cons_succ]
        refine takeRun (i := 41) (v := ?_) rfl (by kernel_rfl) (by kernel_rfl) (by kernel_rfl) (fun _ _ _ h => h) rfl ?_ (by assumption) ?_
        rotate_left
        · (intro w hSw; (try dsimp only at hSw); go_simp; (try with_reducible rfl))
        try simp only [Act.put, List.setIfInBounds_toArray, List.set_cons_zero, List.set_cons_succ]
        refine takeRun (i := 42) (v := ?_) rfl (by kernel_rfl) (by kernel_rfl) (by kernel_rfl) (fun _ _ _ h => h) rfl ?_ (by assumption) ?_
        rotate_left
        · (intro w hSw; (try dsimp only at hSw); go_simp; (try with_reducible rfl))
        try simp only [Act.put, List.setIfInBounds_toArray, List.set_cons_zero, List.set_cons_succ]
        refine takeRun (i := 43) (v := ?_) rfl (by kernel_rfl) (by kernel_rfl) (by kernel_rfl) (fun _ _ _ h => h) rfl ?_ (by assumption) ?_
        rotate_left
        · (intro w hSw; (try dsimp only at hSw); go_simp; (try with_reducible rfl))
        try simp only [Act.put, List.setIfInBounds_toArray, List.set_cons_zero, List.set_cons_succ]
        refine takeRun (i := 44) (v := ?_) rfl (by kernel_rfl) (by kernel_rfl) (by kernel_rfl) (fun _ _ _ h => h) rfl ?_ (by assumption) ?_
        rotate_left
        · (intro w hSw; (try dsimp only at hSw); go_simp; (try with_reducible rfl))
        try simp only [Act.put, List.setIfInBounds_toArray, List.set_cons_zero, List.set_cons_succ]
        refine takeRun (i := 45) (v := ?_) rfl (by kernel_rfl) (by kernel_rfl) (by kernel_rfl) (fun _ _ _ h => h) rfl ?_ (by assumption) ?_
        rotate_left
        · (intro w hSw; (try dsimp only at hSw); go_simp; (try with_reducible rfl))
        try simp only [Act.put, List.setIfInBounds_toArray, List.set_cons_zero, List.set_cons_succ]
        refine takeRun (i := 46) (v := ?_) rfl (by kernel_rfl) (by kernel_rfl) (by kernel_rfl) (fun _ _ _ h => h) rfl ?_ (by assumption) ?_
        rotate_left
        · (intro w hSw; (try dsimp only at hSw); go_simp; (try with_reducible rfl))
        try simp only [Act.put, List.setIfInBounds_toArray, List.set_cons_zero, List.set_cons_succ]
        refine takeRun (i := 47) (v := ?_) rfl (by kernel_rfl) (by kernel_rfl) (by kernel_rfl) (fun _ _ _ h => h) rfl ?_ (by assumption) ?_
        rotate_left
        · (intro w hSw; (try dsimp only at hSw); go_simp; (try with_reducible rfl))
        try simp only [Act.put, List.setIfInBounds_toArray, List.set_cons_zero, List.set_cons_succ]
        refine wpAnyH_done (by kernel_rfl) ?_ _
        replace hb := bthen hb hs
        clear hs KK b0
        go_wp2_with fail
        go_loopw [7, 79] (fun kn i wr => ∃ j : Nat, j ≤ 256 ∧ i = .int .i64 j ∧ kn = .int .i64 (cntF j : Nat) ∧ Below w.heap.size w wr) (fun _ i _ => 256 - (intOf i).toNat)
        case atStart => exact ⟨0, by omega, rfl, rfl, hb⟩
        case round =>
          clear hb
          obtain ⟨j, hj, rfl, rfl, hb⟩ := hrel
          by_cases hlt : j < 256
          · have hcl := cntF_le j
            have HCS := Lib.hid (cntF_succ j)
            obtain ⟨kn, hkn⟩ : ∃ k, cntF j = k := ⟨_, rfl⟩
            rw [hkn] at hcl ⊢
            have HKN := Lib.hid hkn
            clear hkn
            have hju : IntKind.u8.wrap (j : Int) = (j : Int) := by rw [IntKind.wrap_u8]; omega
            have cw := (hb.cell (p := ⟨bb, off, none⟩) hblk).trans cx
            have rd := hA.below hb
            have HE : Hid (bs [] = []) := rfl
            go_wp2_with (at_builtin; refine app_b rfl _ _ rfl wr ((Below.refl _ _).alloc (Nat.le_refl _) _) _ _ _ [] rfl (Ow.lit _ _ _ [] (Nat.le_refl _) (Nat.zero_le _) HE.out rfl) rfl (some ⟨bb, off, none⟩) n c l rfl (rd.alloc _) HN.out (by omega) ?_)
            intro A8 c8 w8 ho8 hb8 hg8
            try simp only [List.nil_append] at ho8
            obtain ⟨g8, rfl, hg8B, hlt8, hcells, hfz⟩ := ho8.head (by rw [bs_length, HN.out]; exact hn1)
            have k0 := hcells 0 (.int .u8 (f : Int)) (by have := HX.out; simp only [bs, List.getElem?_map, this, Option.map_some])
            have z0 := hfz 0
            have ho9 := ho8.stored 0 (.int .u8 (j : Int))
            rw [bs_set] at ho9
            have hb9 := hb8.setCell (p := ⟨g8, 0, none⟩) hg8B (.int .u8 (j : Int))
            have hle := ho8.le.1
            rw [bs_length, HN.out] at hle
            clear hcells hfz hg8 ho8 hb8
            go_upto_region 13 with fail
            generalize w8.setCell ⟨g8, 0, none⟩ (.int .u8 (j : Int)) = w9 at *
            clear k0 z0
            have E8 := ask_Look (some ⟨g8, 0, none⟩) n c8 (l.set 0 j) w9 ho9.rd (by rw [List.length_set]; exact HN.out) (Bs.set hl (by omega)) hle (by omega)
            obtain ⟨r, hr⟩ : ∃ r, lookA (l.set 0 j) = r := ⟨_, rfl⟩
            have hy := look_set HNE.out j
            rw [hr] at E8 hy
            have HR := Lib.hid hr
            obtain ⟨a8, y⟩ := r
            simp only at E8 hy
            have HE8 := Lib.hid E8
            have HY := Lib.hid hy
            clear hr E8 hy
            go_wp2_with fail
            refine HE8.out.mono ?_
            rintro e w10 ⟨A10, c10, B10, d10, he, -, -, hb10⟩
            simp only [Ak.v, akV] at he
            subst he
            have hbE := bthen (bthen hb hb9) hb10
            have hbE' := hbE.alloc hbE.size (.cells #[.int .u8 (a8.fn : Int), .int .u16 (a8.at_ : Int), .int .u16 (a8.many : Int), .int .u16 (a8.to_ : Int), .slice A10 a8.words.length c10, .slice B10 a8.bits.length d10] 26)
            have cw10 : (w10.alloc (.cells #[.int .u8 (a8.fn : Int), .int .u16 (a8.at_ : Int), .int .u16 (a8.many : Int), .int .u16 (a8.to_ : Int), .slice A10 a8.words.length c10, .slice B10 a8.bits.length d10] 26)).cell? ⟨bb, off, none⟩ = some (.int .u8 (f : Int)) := (hbE'.cell (p := ⟨bb, off, none⟩) hblk).trans cx
            clear hb10 hb9 hbE ho9
            go_upto_region 14 with fail
            generalize w10.alloc (.cells #[.int .u8 (a8.fn : Int), .int .u16 (a8.at_ : Int), .int .u16 (a8.many : Int), .int .u16 (a8.to_ : Int), .slice A10 a8.words.length c10, .slice B10 a8.bits.length d10] 26) = w11 at *
            have key : ((j : Int) == (f : Int)) = true ∧ ((y : Int) != 3) = false ∨ ((j : Int) == (f : Int)) = false := by
              by_cases hjf : j = f
              · left
                refine ⟨by simp [hjf], ?_⟩
                have h1 := HR.out
                rw [hjf, set_self HX.out, HLL.out] at h1
                injection h1 with _ h1
                simp
                omega
              · right
                simp
                omega
            by_cases hfj : isFn j = true
            · have t1 : ((y : Int) != 1) = true := by have := HY.out.2 hfj; simp; omega
              have hk1 : Hid (cntF (j + 1) = kn + 1) := by (show _ = _); rw [HCS.out, HKN.out, if_pos hfj]
              rcases key with ⟨k1, k2⟩ | k1
              try exact absurd (k2.symm.trans t1) (by decide)
              all_goals
                go_wp2_with fail
                go_roundw
                case rel => exact ⟨j + 1, by omega, by go_num, by rw [hk1.out]; go_num, hbE'⟩
                case measure => simp [intOf]; omega
            · have t1 : ((y : Int) != 1) = false := by have h1 : y = 1 := Classical.byContradiction fun h => hfj (HY.out.1 h); simp [h1]
              have hk1 : Hid (cntF (j + 1) = kn) := by (show _ = _); rw [HCS.out, HKN.out, if_neg hfj]; rfl
              rcases key with ⟨k1, k2⟩ | k1
              all_goals
                go_wp2_with fail
                go_roundw
                case rel => exact ⟨j + 1, by omega, by go_num, by rw [hk1.out], hbE'⟩
                case measure => simp [intOf]; omega
          · obtain rfl : j = 256 := by omega
            rw [cntF_all]
            go_wp2_with fail
            refine (awk.out _).mono ?_
            rintro e w12 ⟨rfl, hb12⟩
            go_wp2_with fail
            go_ret
            exact ⟨rfl, bthen hb hb12⟩
      · clear hif
        refine wp_region_held_drew (S := fun W => W.cell? ⟨g1, 0, none⟩ = some (.int .u8 (f : Int)) ∧ W.cell? ⟨g1, 1, none⟩ = some (.int .u16 0) ∧ W.cell? ⟨g1, 2, none⟩ = some (.int .u16 0) ∧ W.cell? ⟨g1, 3, none⟩ = some (.int .u16 0) ∧ W.cell? ⟨g1, 4, none⟩ = some (.slice Aa 0 ca) ∧ W.cell? ⟨g1, 5, none⟩ = some (.slice Ba 0 da) ∧ W.cell? ⟨g2, 0, none⟩ = some (.int .u8 0) ∧ W.cell? ⟨g2, 1, none⟩ = some (.int .u16 0) ∧ W.cell? ⟨g2, 2, none⟩ = some (.int .u16 0) ∧ W.cell? ⟨g2, 3, none⟩ = some (.int .u16 0) ∧ W.cell? ⟨g2, 4, none⟩ = some (.slice none 0 0) ∧ W.cell? ⟨g2, 5, none⟩ = some (.slice none 0 0) ∧ W.cell? ⟨bb, off, none⟩ = some (.int .u8 (f : Int))) (by kernel_rfl) ?_ (fun hHeld => ?_)
        · (first | exact KK.out _ b0 | exact KK.out _ hs)
        refine takeRun (i := 0) (v := ?_) rfl (by kernel_rfl) (by kernel_rfl) (by kernel_rfl) (fun _ _ _ h => h) rfl ?_ (by assumption) ?_
        rotate_left
        · (intro w hSw; (try dsimp only at hSw); go_simp; (try with_reducible rfl))
        try simp only [Act.put, List.setIfInBounds_toArray, List.set_cons_zero, List.set_cons_succ]
        refine takeRun (i := 1) (v := ?_) rfl (by kernel_rfl) (by kernel_rfl) (by kernel_rfl) (fun _ _ _ h => h) rfl ?_ (by assumption) ?_
        rotate_left
        · (intro w hSw; (try dsimp only at hSw); go_simp; (try with_reducible rfl))
        try simp only [Act.put, List.setIfInBounds_toArray, List.set_cons_zero, List.set_cons_succ]
        refine takeRun (i := 2) (v := ?_) rfl (by kernel_rfl) (by kernel_rfl) (by kernel_rfl) (fun _ _ _ h => h) rfl ?_ (by assumption) ?_
        rotate_left
        · (intro w hSw; (try dsimp only at hSw); go_simp; (try with_reducible rfl))
        try simp only [Act.put, List.setIfInBounds_toArray, List.set_cons_zero, List.set_cons_succ]
        refine takeRun (i := 3) (v := ?_) rfl (by kernel_rfl) (by kernel_rfl) (by kernel_rfl) (fun _ _ _ h => h) rfl ?_ (by assumption) ?_
        rotate_left
        · (intro w hSw; (try dsimp only at hSw); go_simp; (try with_reducible rfl))
        try simp only [Act.put, List.setIfInBounds_toArray, List.set_cons_zero, List.set_cons_succ]
        refine takeRun (i := 4) (v := ?_) rfl (by kernel_rfl) (by kernel_rfl) (by kernel_rfl) (fun _ _ _ h => h) rfl ?_ (by assumption) ?_
        rotate_left
        · (intro w hSw; (try dsimp only at hSw); go_simp; (try with_reducible rfl))
        try simp only [Act.put, List.setIfInBounds_toArray, List.set_cons_zero, List.set_cons_succ]
        refine takeRun (i := 5) (v := ?_) rfl (by kernel_rfl) (by kernel_rfl) (by kernel_rfl) (fun _ _ _ h => h) rfl ?_ (by assumption) ?_
        rotate_left
        · (intro w hSw; (try dsimp only at hSw); go_simp; (try with_reducible rfl))
        try simp only [Act.put, List.setIfInBounds_toArray, List.set_cons_zero, List.set_cons_succ]
        refine takeRun (i := 6) (v := ?_) rfl (by kernel_rfl) (by kernel_rfl) (by kernel_rfl) (fun _ _ _ h => h) rfl ?_ (by assumption) ?_
        rotate_left
        · (intro w hSw; (try dsimp only at hSw); go_simp; (try with_reducible rfl))
        try simp only [Act.put, List.setIfInBounds_toArray, List.set_cons_zero, List.set_cons_succ]
        refine takeRun (i := 7) (v := ?_) rfl (by kernel_rfl) (by kernel_rfl) (by kernel_rfl) (fun _ _ _ h => h) rfl ?_ (by assumption) ?_
        rotate_left
        · (intro w hSw; (try dsimp only at hSw); go_simp; (try with_reducible rfl))
        try simp only [Act.put, List.setIfInBounds_toArray, List.set_cons_zero, List.set_cons_succ]
        refine takeRun (i := 8) (v := ?_) rfl (by kernel_rfl) (by kernel_rfl) (by kernel_rfl) (fun _ _ _ h => h) rfl ?_ (by assumption) ?_
        rotate_left
        · (intro w hSw; (try dsimp only at hSw); go_simp; (try with_reducible rfl))
        try simp only [Act.put, List.setIfInBounds_toArray, List.set_cons_zero, List.set_cons_succ]
        refine takeRun (i := 9) (v := ?_) rfl (by kernel_rfl) (by kernel_rfl) (by kernel_rfl) (fun _ _ _ h => h) rfl ?_ (by assumption) ?_
        rotate_left
        · (intro w hSw; (try dsimp only at hSw); go_simp; (try with_reducible rfl))
        try simp only [Act.put, List.setIfInBounds_toArray, List.set_cons_zero, List.set_cons_succ]
        refine takeRun (i := 10) (v := ?_) rfl (by kernel_rfl) (by kernel_rfl) (by kernel_rfl) (fun _ _ _ h => h) rfl ?_ (by assumption) ?_
        rotate_left
        · (intro w hSw; (try dsimp only at hSw); go_simp; (try with_reducible rfl))
        try simp only [Act.put, List.setIfInBounds_toArray, List.set_cons_zero, List.set_cons_succ]
        refine takeRun (i := 11) (v := ?_) rfl (by kernel_rfl) (by kernel_rfl) (by kernel_rfl) (fun _ _ _ h => h) rfl ?_ (by assumption) ?_
        rotate_left
        · (intro w hSw; (try dsimp only at hSw); go_simp; (try with_reducible rfl))
        try simp only [Act.put, List.setIfInBounds_toArray, List.set_cons_zero, List.set_cons_succ]
        refine takeRun (i := 12) (v := ?_) rfl (by kernel_rfl) (by kernel_rfl) (by kernel_rfl) (fun _ _ _ h => h) rfl ?_ (by assumption) ?_
        rotate_left
        · (intro w hSw; (try dsimp only at hSw); go_simp; (try with_reducible rfl))
        try simp only [Act.put, List.setIfInBounds_toArray, List.set_cons_zero, List.set_cons_succ]
        refine takeRun (i := 13) (v := ?_) rfl (by kernel_rfl) (by kernel_rfl) (by kernel_rfl) (fun _ _ _ h => h) rfl ?_ (by assumption) ?_
        rotate_left
        · (intro w hSw; (try dsimp only at hSw); go_simp; (try with_reducible rfl))
        try simp only [Act.put, List.setIfInBounds_toArray, List.set_cons_zero, List.set_cons_succ]
        refine takeRun (i := 14) (v := ?_) rfl (by kernel_rfl) (by kernel_rfl) (by kernel_rfl) (fun _ _ _ h => h) rfl ?_ (by assumption) ?_
        rotate_left
        · (intro w hSw; (try dsimp only at hSw); go_simp; (try with_reducible rfl))
        try simp only [Act.put, List.setIfInBounds_toArray, List.set_cons_zero, List.set_cons_succ]
        refine takeRun (i := 15) (v := ?_) rfl (by kernel_rfl) (by kernel_rfl) (by kernel_rfl) (fun _ _ _ h => h) rfl ?_ (by assumption) ?_
        rotate_left
        · (intro w hSw; (try dsimp only at hSw); go_simp; (try with_reducible rfl))
        try simp only [Act.put, List.setIfInBounds_toArray, List.set_cons_zero, List.set_cons_succ]
        refine takeRun (i := 16) (v := ?_) rfl (by kernel_rfl) (by kernel_rfl) (by kernel_rfl) (fun _ _ _ h => h) rfl ?_ (by assumption) ?_
        rotate_left
        · (intro w hSw; (try dsimp only at hSw); go_simp; (try with_reducible rfl))
        try simp only [Act.put, List.setIfInBounds_toArray, List.set_cons_zero, List.set_cons_succ]
        refine takeSkip (i := 17) rfl (by kernel_rfl) (by kernel_rfl) (by kernel_rfl) (fun _ _ _ h => h) rfl (by assumption) ?_
        try simp only [Act.put, List.setIfInBounds_toArray, List.set_cons_zero, List.set_cons_succ]
        refine takeSkip (i := 18) rfl (by kernel_rfl) (by kernel_rfl) (by kernel_rfl) (fun _ _ _ h => h) rfl (by assumption) ?_
        try simp only [Act.put, List.setIfInBounds_toArray, List.set_cons_zero, List.set_cons_succ]
        refine takeSkip (i := 19) rfl (by kernel_rfl) (by kernel_rfl) (by kernel_rfl) (fun _ _ _ h => h) rfl (by assumption) ?_
        try simp only [Act.put, List.setIfInBounds_toArray, List.set_cons_zero, List.set_cons_succ]
        refine takeSkip (i := 20) rfl (by kernel_rfl) (by kernel_rfl) (by kernel_rfl) (fun _ _ _ h => h) rfl (by assumption) ?_
        try simp only [Act.put, List.setIfInBounds_toArray, List.set_cons_zero, List.set_cons_succ]
        refine takeRun (i := 21) (v := ?_) rfl (by kernel_rfl) (by kernel_rfl) (by kernel_rfl) (fun _ _ _ h => h) rfl ?_ (by assumption) ?_
        rotate_left
        · (intro w hSw; (try dsimp only at hSw); go_simp; (try with_reducible rfl))
        try simp only [Act.put, List.setIfInBounds_toArray, List.set_cons_zero, List.set_cons_succ]
        refine takeRun (i := 22) (v := ?_) rfl (by kernel_rfl) (by kernel_rfl) (by kernel_rfl) (fun _ _ _ h => h) rfl ?_ (by assumption) ?_
        rotate_left
        · (intro w hSw; (try dsimp only at hSw); go_simp; (try with_reducible rfl))
        try simp only [Act.put, List.setIfInBounds_toArray, List.set_cons_zero, List.set_cons_succ]
        refine takeRun (i := 23) (v := ?_) rfl (by kernel_rfl) (by kernel_rfl) (by kernel_rfl) (fun _ _ _ h => h) rfl ?_ (by assumption) ?_
        rotate_left
        · (intro w hSw; (try dsimp only at hSw); go_simp; (try with_reducible rfl))
        try simp only [Act.put, List.setIfInBounds_toArray, List.set_cons_zero, List.set_cons_succ]
        refine takeRun (i := 24) (v := ?_) rfl (by kernel_rfl) (by kernel_rfl) (by kernel_rfl) (fun _ _ _ h => h) rfl ?_ (by assumption) ?_
        rotate_left
        · (intro w hSw; (try dsimp only at hSw); go_simp; (try with_reducible rfl))
        try simp only [Act.put, List.setIfInBounds_toArray, List.set_cons_zero, List.set_cons_succ]
        refine takeRun (i := 25) (v := ?_) rfl (by kernel_rfl) (by kernel_rfl) (by kernel_rfl) (fun _ _ _ h => h) rfl ?_ (by assumption) ?_
        rotate_left
        · (intro w hSw; (try dsimp only at hSw); go_simp; (try with_reducible rfl))
        try simp only [Act.put, List.setIfInBounds_toArray, List.set_cons_zero, List.set_cons_succ]
        refine takeRun (i := 26) (v := ?_) rfl (by kernel_rfl) (by kernel_rfl) (by kernel_rfl) (fun _ _ _ h => h) rfl ?_ (by assumption) ?_
        rotate_left
        · (intro w hSw; (try dsimp only at hSw); go_simp; (try with_reducible rfl))
        try simp only [Act.put, List.setIfInBounds_toArray, List.set_cons_zero, List.set_cons_succ]
        refine takeRun (i := 27) (v := ?_) rfl (by kernel_rfl) (by kernel_rfl) (by kernel_rfl) (fun _ _ _ h => h) rfl ?_ (by assumption) ?_
        rotate_left
        · (intro w hSw; (try dsimp only at hSw); go_simp; (try with_reducible rfl))
        try simp only [Act.put, List.setIfInBounds_toArray, List.set_cons_zero, List.set_cons_succ]
        refine takeRun (i := 28) (v := ?_) rfl (by kernel_rfl) (by kernel_rfl) (by kernel_rfl) (fun _ _ _ h => h) rfl ?_ (by assumption) ?_
        rotate_left
        · (intro w hSw; (try dsimp only at hSw); go_simp; (try with_reducible rfl))
        try simp only [Act.put, List.setIfInBounds_toArray, List.set_cons_zero, List.set_cons_succ]
        refine takeRun (i := 29) (v := ?_) rfl (by kernel_rfl) (by kernel_rfl) (by kernel_rfl) (fun _ _ _ h => h) rfl ?_ (by assumption) ?_
        rotate_left
        · (intro w hSw; (try dsimp only at hSw); go_simp; (try with_reducible rfl))
        try simp only [Act.put, List.setIfInBounds_toArray, List.set_cons_zero, List.set_cons_succ]
        refine takeRun (i := 30) (v := ?_) rfl (by kernel_rfl) (by kernel_rfl) (by kernel_rfl) (fun _ _ _ h => h) rfl ?_ (by assumption) ?_
        rotate_left
        · (intro w hSw; (try dsimp only at hSw); go_simp; (try with_reducible rfl))
        try simp only [Act.put, List.setIfInBounds_toArray, List.set_cons_zero, List.set_cons_succ]
        refine takeRun (i := 31) (v := ?_) rfl (by kernel_rfl) (by kernel_rfl) (by kernel_rfl) (fun _ _ _ h => h) rfl ?_ (by assumption) ?_
        rotate_left
        · (intro w hSw; (try dsimp only at hSw); go_simp; (try with_reducible rfl))
        try simp only [Act.put, List.setIfInBounds_toArray, List.set_cons_zero, List.set_cons_succ]
        refine goOne (i := 32) (by kernel_rfl) rfl (fun K hK => ?_)
        go_simp
        (refine (S1.out _ (rwa.below b0).rd (rba.below b0).rd).mono ?_; rintro e w6 ⟨rfl, hs⟩; replace hs := undrew hs)
        go_wp2_with fail
        refine hK.out _ _ ?_ (fun hHeld => ?_)
        · (first | exact KK.out _ b0 | exact KK.out _ hs)
        clear hK K
        try simp only [Act.put, List.setIfInBounds_toArray, List.set_cons_zero, List.set_cons_succ]
        refine takeRun (i := 33) (v := ?_) rfl (by kernel_rfl) (by kernel_rfl) (by kernel_rfl) (fun _ _ _ h => h) rfl ?_ (by assumption) ?_
        rotate_left
        · (intro w hSw; (try dsimp only at hSw); go_simp; (try with_reducible rfl))
        try simp only [Act.put, List.setIfInBounds_toArray, List.set_cons_zero, List.set_cons_succ]
        refine takeRun (i := 34) (v := ?_) rfl (by kernel_rfl) (by kernel_rfl) (by kernel_rfl) (fun _ _ _ h => h) rfl ?_ (by assumption) ?_
        rotate_left
        · (intro w hSw; (try dsimp only at hSw); go_simp; (try with_reducible rfl))
        try simp only [Act.put, List.setIfInBounds_toArray, List.set_cons_zero, List.set_cons_succ]
        refine takeRun (i := 35) (v := ?_) rfl (by kernel_rfl) (by kernel_rfl) (by kernel_rfl) (fun _ _ _ h => h) rfl ?_ (by assumption) ?_
        rotate_left
        · (intro w hSw; (try dsimp only at hSw); go_simp; (try with_reducible rfl))
        try simp only [Act.put, List.setIfInBounds_toArray, List.set_cons_zero, List.set_cons_succ]
        refine takeRun (i := 36) (v := ?_) rfl (by kernel_rfl) (by kernel_rfl) (by kernel_rfl) (fun _ _ _ h => h) rfl ?_ (by assumption) ?_
        rotate_left
        · (intro w hSw; (try dsimp only at hSw); go_simp; (try with_reducible rfl))
        try simp only [Act.put, List.setIfInBounds_toArray, List.set_cons_zero, List.set_cons_succ]
        refine takeRun (i := 37) (v := ?_) rfl (by kernel_rfl) (by kernel_rfl) (by kernel_rfl) (fun _ _ _ h => h) rfl ?_ (by assumption) ?_
        rotate_left
        · (intro w hSw; (try dsimp only at hSw); go_simp; (try with_reducible rfl))
        try simp only [Act.put, List.setIfInBounds_toArray, List.set_cons_zero, List.set_cons_succ]
        refine takeRun (i := 38) (v := ?_) rfl (by kernel_rfl) (by kernel_rfl) (by kernel_rfl) (fun _ _ _ h => h) rfl ?_ (by assumption) ?_
        rotate_left
        · (intro w hSw; (try dsimp only at hSw); go_simp; (try with_reducible rfl))
        try simp only [Act.put, List.setIfInBounds_toArray, List.set_cons_zero, List.set_cons_succ]
        refine takeRun (i := 39) (v := ?_) rfl (by kernel_rfl) (by kernel_rfl) (by kernel_rfl) (fun _ _ _ h => h) rfl ?_ (by assumption) ?_
        rotate_left
        · (intro w hSw; (try dsimp only at hSw); go_simp; (try with_reducible rfl))
        try simp only [Act.put, List.setIfInBounds_toArray, List.set_cons_zero, List.set_cons_succ]
        refine takeRun (i := 40) (v := ?_) rfl (by kernel_rfl) (by kernel_rfl) (by kernel_rfl) (fun _ _ _ h => h) rfl ?_ (by assumption) ?_
        rotate_left
        · (intro w hSw; (try dsimp only at hSw); go_simp; (try with_reducible rfl))
        try simp only [Act.put, List.setIfInBounds_toArray, List.set_cons_zero, List.set_cons_succ]
        refine takeRun (i := 41) (v := ?_) rfl (by kernel_rfl) (by kernel_rfl) (by kernel_rfl) (fun _ _ _ h => h) rfl ?_ (by assumption) ?_
        rotate_left
        · (intro w hSw; (try dsimp only at hSw); go_simp; (try with_reducible rfl))
        try simp only [Act.put, List.setIfInBounds_toArray, List.set_cons_zero, List.set_cons_succ]
        refine takeRun (i := 42) (v := ?_) rfl (by kernel_rfl) (by kernel_rfl) (by kernel_rfl) (fun _ _ _ h => h) rfl ?_ (by assumption) ?_
        rotate_left
        · (intro w hSw; (try dsimp only at hSw); go_simp; (try with_reducible rfl))
        try simp only [Act.put, List.setIfInBounds_toArray, List.set_cons_zero, List.set_cons_succ]
        refine takeRun (i := 43) (v := ?_) rfl (by kernel_rfl) (by kernel_rfl) (by kernel_rfl) (fun _ _ _ h => h) rfl ?_ (by assumption) ?_
        rotate_left
        · (intro w hSw; (try dsimp only at hSw); go_simp; (try with_reducible rfl))
        try simp only [Act.put, List.setIfInBounds_toArray, List.set_cons_zero, List.set_cons_succ]
        refine takeSkip (i := 44) rfl (by kernel_rfl) (by kernel_rfl) (by kernel_rfl) (fun _ _ _ h => h) rfl (by assumption) ?_
        try simp only [Act.put, List.setIfInBounds_toArray, List.set_cons_zero, List.set_cons_succ]
        refine takeSkip (i := 45) rfl (by kernel_rfl) (by kernel_rfl) (by kernel_rfl) (fun _ _ _ h => h) rfl (by assumption) ?_
        try simp only [Act.put, List.setIfInBounds_toArray, List.set_cons_zero, List.set_cons_succ]
        refine takeRun (i := 46) (v := ?_) rfl (by kernel_rfl) (by kernel_rfl) (by kernel_rfl) (fun _ _ _ h => h) rfl ?_ (by assumption) ?_
        rotate_left
        · (intro w hSw; (try dsimp only at hSw); go_simp; (try with_reducible rfl))
        try simp only [Act.put, List.setIfInBounds_toArray, List.set_cons_zero, List.set_cons_succ]
        refine takeRun (i := 47) (v := ?_) rfl (by kernel_rfl) (by kernel_rfl) (by kernel_rfl) (fun _ _ _ h => h) rfl ?_ (by assumption) ?_
        rotate_left
        · (intro w hSw; (try dsimp only at hSw); go_simp; (try with_reducible rfl))
        try simp only [Act.put, List.setIfInBounds_toArray, List.set_cons_zero, List.set_cons_succ]
        refine wpAnyH_done (by kernel_rfl) ?_ _
        replace hb := bthen hb hs
        clear hs KK b0
        go_wp2_with fail
        go_loopw [7, 79] (fun kn i wr => ∃ j : Nat, j ≤ 256 ∧ i = .int .i64 j ∧ kn = .int .i64 (cntF j : Nat) ∧ Below w.heap.size w wr) (fun _ i _ => 256 - (intOf i).toNat)
        case atStart => exact ⟨0, by omega, rfl, rfl, hb⟩
        case round =>
          clear hb
          obtain ⟨j, hj, rfl, rfl, hb⟩ := hrel
          by_cases hlt : j < 256
          · have hcl := cntF_le j
            have HCS := Lib.hid (cntF_succ j)
            obtain ⟨kn, hkn⟩ : ∃ k, cntF j = k := ⟨_, rfl⟩
            rw [hkn] at hcl ⊢
            have HKN := Lib.hid hkn
            clear hkn
            have hju : IntKind.u8.wrap (j : Int) = (j : Int) := by rw [IntKind.wrap_u8]; omega
            have cw := (hb.cell (p := ⟨bb, off, none⟩) hblk).trans cx
            have rd := hA.below hb
            have HE : Hid (bs [] = []) := rfl
            go_wp2_with (at_builtin; refine app_b rfl _ _ rfl wr ((Below.refl _ _).alloc (Nat.le_refl _) _) _ _ _ [] rfl (Ow.lit _ _ _ [] (Nat.le_refl _) (Nat.zero_le _) HE.out rfl) rfl (some ⟨bb, off, none⟩) n c l rfl (rd.alloc _) HN.out (by omega) ?_)
            intro A8 c8 w8 ho8 hb8 hg8
            try simp only [List.nil_append] at ho8
            obtain ⟨g8, rfl, hg8B, hlt8, hcells, hfz⟩ := ho8.head (by rw [bs_length, HN.out]; exact hn1)
            have k0 := hcells 0 (.int .u8 (f : Int)) (by have := HX.out; simp only [bs, List.getElem?_map, this, Option.map_some])
            have z0 := hfz 0
            have ho9 := ho8.stored 0 (.int .u8 (j : Int))
            rw [bs_set] at ho9
            have hb9 := hb8.setCell (p := ⟨g8, 0, none⟩) hg8B (.int .u8 (j : Int))
            have hle := ho8.le.1
            rw [bs_length, HN.out] at hle
            clear hcells hfz hg8 ho8 hb8
            go_upto_region 13 with fail
            generalize w8.setCell ⟨g8, 0, none⟩ (.int .u8 (j : Int)) = w9 at *
            clear k0 z0
            have E8 := ask_Look (some ⟨g8, 0, none⟩) n c8 (l.set 0 j) w9 ho9.rd (by rw [List.length_set]; exact HN.out) (Bs.set hl (by omega)) hle (by omega)
            obtain ⟨r, hr⟩ : ∃ r, lookA (l.set 0 j) = r := ⟨_, rfl⟩
            have hy := look_set HNE.out j
            rw [hr] at E8 hy
            have HR := Lib.hid hr
            obtain ⟨a8, y⟩ := r
            simp only at E8 hy
            have HE8 := Lib.hid E8
            have HY := Lib.hid hy
            clear hr E8 hy
            go_wp2_with fail
            refine HE8.out.mono ?_
            rintro e w10 ⟨A10, c10, B10, d10, he, -, -, hb10⟩
            simp only [Ak.v, akV] at he
            subst he
            have hbE := bthen (bthen hb hb9) hb10
            have hbE' := hbE.alloc hbE.size (.cells #[.int .u8 (a8.fn : Int), .int .u16 (a8.at_ : Int), .int .u16 (a8.many : Int), .int .u16 (a8.to_ : Int), .slice A10 a8.words.length c10, .slice B10 a8.bits.length d10] 26)
            have cw10 : (w10.alloc (.cells #[.int .u8 (a8.fn : Int), .int .u16 (a8.at_ : Int), .int .u16 (a8.many : Int), .int .u16 (a8.to_ : Int), .slice A10 a8.words.length c10, .slice B10 a8.bits.length d10] 26)).cell? ⟨bb, off, none⟩ = some (.int .u8 (f : Int)) := (hbE'.cell (p := ⟨bb, off, none⟩) hblk).trans cx
            clear hb10 hb9 hbE ho9
            go_upto_region 14 with fail
            generalize w10.alloc (.cells #[.int .u8 (a8.fn : Int), .int .u16 (a8.at_ : Int), .int .u16 (a8.many : Int), .int .u16 (a8.to_ : Int), .slice A10 a8.words.length c10, .slice B10 a8.bits.length d10] 26) = w11 at *
            have key : ((j : Int) == (f : Int)) = true ∧ ((y : Int) != 1) = false ∨ ((j : Int) == (f : Int)) = false := by
              by_cases hjf : j = f
              · left
                refine ⟨by simp [hjf], ?_⟩
                have h1 := HR.out
                rw [hjf, set_self HX.out, HLL.out] at h1
                injection h1 with _ h1
                simp
                omega
              · right
                simp
                omega
            by_cases hfj : isFn j = true
            · have t1 : ((y : Int) != 1) = true := by have := HY.out.2 hfj; simp; omega
              have hk1 : Hid (cntF (j + 1) = kn + 1) := by (show _ = _); rw [HCS.out, HKN.out, if_pos hfj]
              rcases key with ⟨k1, k2⟩ | k1
              try exact absurd (k2.symm.trans t1) (by decide)
              all_goals
                go_wp2_with fail
                go_roundw
                case rel => exact ⟨j + 1, by omega, by go_num, by rw [hk1.out]; go_num, hbE'⟩
                case measure => simp [intOf]; omega
            · have t1 : ((y : Int) != 1) = false := by have h1 : y = 1 := Classical.byContradiction fun h => hfj (HY.out.1 h); simp [h1]
              have hk1 : Hid (cntF (j + 1) = kn) := by (show _ = _); rw [HCS.out, HKN.out, if_neg hfj]; rfl
              rcases key with ⟨k1, k2⟩ | k1
              all_goals
                go_wp2_with fail
                go_roundw
                case rel => exact ⟨j + 1, by omega, by go_num, by rw [hk1.out], hbE'⟩
                case measure => simp [intOf]; omega
          · obtain rfl : j = 256 := by omega
            rw [cntF_all]
            go_wp2_with fail
            refine (awk.out _).mono ?_
            rintro e w12 ⟨rfl, hb12⟩
            go_wp2_with fail
            go_ret
            exact ⟨rfl, bthen hb hb12⟩
end Go.Proofs.Ythddplokicbofaa
