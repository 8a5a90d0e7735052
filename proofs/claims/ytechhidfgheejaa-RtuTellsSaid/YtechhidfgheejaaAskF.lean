/- What bytes say of a request: plainly; and the walk of ask.written. -/
import Derived.Test.YtechhidfgheejaaAskE
namespace Go.Proofs.Ytechhidfgheejaa
open Go.RowKit
set_option linter.unusedSimpArgs false
set_option linter.unusedVariables false

/-- reads as xs, in a block from B on -/
def RdN (B : Nat) (w : World) (A : Option Addr) (xs : List Value) : Prop :=
  xs = [] ∨ ∃ b off, A = some ⟨b, off, none⟩ ∧ B ≤ b ∧ ∀ j u, xs[j]? = some u → w.cell? ⟨b, off + j, none⟩ = some u
theorem RdN.rd {B : Nat} {w : World} {A : Option Addr} {xs : List Value} (h : RdN B w A xs) : Rd w A xs := by
  rcases h with h | ⟨b, off, h1, _, h2⟩
  · exact .inl h
  · exact .inr ⟨b, off, h1, h2⟩
theorem RdN.nil {B : Nat} {w : World} {A : Option Addr} : RdN B w A [] := .inl rfl
theorem RdN.base {B B' : Nat} {w : World} {A : Option Addr} {xs : List Value} (h : RdN B w A xs) (hB : B' ≤ B) : RdN B' w A xs := by
  rcases h with h | ⟨b, off, h1, h3, h2⟩
  · exact .inl h
  · exact .inr ⟨b, off, h1, by omega, h2⟩
theorem RdN.below {B : Nat} {w w' : World} {A : Option Addr} {xs : List Value} (h : RdN B w A xs) (hb : Below w.heap.size w w') : RdN B w' A xs := by
  rcases h with h | ⟨b, off, h1, h3, h2⟩
  · exact .inl h
  · exact .inr ⟨b, off, h1, h3, fun j u hu => (hb.cell (World.block_lt_of_cell? w _ (h2 j u hu))).trans (h2 j u hu)⟩
theorem Ow.rdN {w : World} {B : Nat} {e : TypeId} {A : Option Addr} {c : Nat} {xs : List Value} (h : Ow w B e A c xs) : RdN B w A xs := by
  rcases Nat.eq_zero_or_pos xs.length with h0 | h0
  · exact .inl (List.length_eq_zero_iff.1 h0)
  · obtain ⟨g, rfl, hg, -, hc, -⟩ := h.head h0
    exact .inr ⟨g, 0, rfl, hg, fun j u hu => by rw [Nat.zero_add]; exact hc j u hu⟩
theorem RdN.take {B : Nat} {w : World} {A : Option Addr} {xs : List Value} (h : RdN B w A xs) (n : Nat) : RdN B w A (xs.take n) := by
  rcases h with h | ⟨b, off, h1, h3, h2⟩
  · exact .inl (by rw [h]; simp)
  · refine .inr ⟨b, off, h1, h3, fun j u hu => h2 j u ?_⟩
    rw [List.getElem?_take] at hu
    split at hu
    · exact hu
    · cases hu
/-- one block is written to -/
theorem RdN.stored {B : Nat} {w : World} {A : Option Addr} {xs : List Value} (h : RdN B w A xs) (p : Addr) (u : Value) (hp : p.block < B) : RdN B (w.setCell p u) A xs := by
  rcases h with h | ⟨b, off, h1, h3, h2⟩
  · exact .inl h
  · refine .inr ⟨b, off, h1, h3, fun j v hv => ?_⟩
    rw [World.cell?_setCell_far w p _ u (by intro e; simp only at e; omega)]
    exact h2 j v hv
/-- what is told of bytes: a request in memory of its own, or none -/
def Told (w : World) (r : Option Ak) (ok bad : Value) (e : Ending) (w' : World) : Prop :=
  match r with
  | none => e = .returned (.tuple #[Ak.zero.v none 0 none 0, bad]) ∧ Below w.heap.size w w'
  | some a => ∃ A c B d, e = .returned (.tuple #[a.v A c B d, ok]) ∧ RdN w.heap.size w' A (ws a.words) ∧ RdN w.heap.size w' B (os a.bits) ∧ Below w.heap.size w w'

def writtenA (f t m o : Nat) (r : List Nat) : Option Ak :=
  if (shp f).bits + (shp f).words = 0 then some ⟨f, t, m, o, [], []⟩
  else if r.length < 2 then none
  else if f = 5 then some ⟨f, t, m, o, [], [decide (r.getD 0 0 ≠ 0)]⟩
  else if f = 6 then some ⟨f, t, m, o, pairs r, []⟩
  else if 0 < (shp f).bits then (if 8 * (r.length - 1) < m then none else some ⟨f, t, m, o, [], (unpk (r.drop 1)).take m⟩)
  else some ⟨f, t, m, o, pairs (r.drop 1), []⟩

theorem RdN.lit (w : World) (g : Nat) (hg : w.heap.size = g) (t : TypeId) (cs : List Value) : RdN g (w.alloc (.cells cs.toArray t)) (some ⟨g, 0, none⟩) cs := by
  subst hg
  exact .inr ⟨_, 0, rfl, Nat.le_refl _, fun j u hu => by rw [Nat.zero_add, World.cell?_alloc_at _ _ _ _ rfl]; simpa using hu⟩
theorem slice_cap_o (g n c m : Nat) (hm : m ≤ c) (W : World) : (Instr.slice 25 (.slice (some ⟨g, 0, none⟩) n c) none (some (.int .u16 (m : Int))) (some (.int .u16 (m : Int)))).run Try.prog W = .ok (.slice (some ⟨g, 0, none⟩) m m) W := by
  rw [run_slice_hm W 25 _ n c (by kernel_rfl) .u16 .u16 m m (by omega) (by omega) (by omega), size_o]
  have hadd : (⟨g, 0, none⟩ : Addr).add 0 = ⟨g, 0, none⟩ := by unfold Addr.add; split <;> simp_all
  simp [Go.sliced, hadd]
theorem RdN.set6 {B B' g : Nat} {w : World} {A : Option Addr} {xs : List Value} {x y z p q r : Value} (h : RdN B' w A xs ∧ B ≤ B') (hg : g < B') : RdN B ((((((w.setCell ⟨g, 0, none⟩ x).setCell ⟨g, 1, none⟩ y).setCell ⟨g, 2, none⟩ z).setCell ⟨g, 3, none⟩ p).setCell ⟨g, 4, none⟩ q).setCell ⟨g, 5, none⟩ r) A xs :=
  ((((((h.1.stored ⟨g, 0, none⟩ x hg).stored ⟨g, 1, none⟩ y hg).stored ⟨g, 2, none⟩ z hg).stored ⟨g, 3, none⟩ p hg).stored ⟨g, 4, none⟩ q hg).stored ⟨g, 5, none⟩ r hg).base h.2

set_option maxRecDepth 100000 in
set_option maxHeartbeats 1000000 in
theorem ask_written (f t m o : Nat) (A : Option Addr) (n c : Nat) (l : List Nat) (w : World) (hf : f < 256) (hm : m < 65536) (hA : Rd w A (bs l)) (hn : l.length = n) (hl : Bs l) (hnc : n ≤ c) (hbig : n ≤ 1000) :
    Calls Try.prog 96 #[akV f t m o none 0 0 none 0 0, (shp f).val, .slice A n c] w fun e w' => Told w (writtenA f t m o l) (.bool true) (.bool false) e w' := by
  obtain ⟨s, hs⟩ : ∃ s, shp f = s := ⟨_, rfl⟩
  have hle := shp_le f
  have HW : Hid (writtenA f t m o l = if (shp f).bits + (shp f).words = 0 then some ⟨f, t, m, o, [], []⟩
    else if l.length < 2 then none
    else if f = 5 then some ⟨f, t, m, o, [], [decide (l.getD 0 0 ≠ 0)]⟩
    else if f = 6 then some ⟨f, t, m, o, pairs l, []⟩
    else if 0 < (shp f).bits then (if 8 * (l.length - 1) < m then none else some ⟨f, t, m, o, [], (unpk (l.drop 1)).take m⟩)
    else some ⟨f, t, m, o, pairs (l.drop 1), []⟩) := rfl
  generalize writtenA f t m o l = r at *
  have HS := Lib.hid hs
  rw [hs] at hle HW ⊢
  obtain ⟨s0, s1, s2, s3, s4⟩ := s
  obtain ⟨l0, l1, l2⟩ := hle
  unfold Shp.val akV
  simp only at HW l0 l1 l2 ⊢
  rw [hn] at HW
  have HN := Lib.hid hn
  clear hn hs
  go_enter Try.func96, Try.ntmps96
  go_upto_region 1 with fail
  have hb1 := (((Below.refl _ w).alloc (Nat.le_refl _) (.cells #[.int .u8 (f : Int), .int .u16 (t : Int), .int .u16 (m : Int), .int .u16 (o : Int), .slice none 0 0, .slice none 0 0] 41)).alloc (by simp [World.size_alloc]) (.cells #[.int .i64 (s0 : Int), .int .i64 (s1 : Int), .int .i64 (s2 : Int), .bool s3, .bool s4] 92)).alloc (by simp only [World.size_alloc]; omega) (.cells #[.int .u8 0, .int .u16 0, .int .u16 0, .int .u16 0, .slice none 0 0, .slice none 0 0] 41)
  have bx := ((Blk.new w 41 #[.int .u8 (f : Int), .int .u16 (t : Int), .int .u16 (m : Int), .int .u16 (o : Int), .slice none 0 0, .slice none 0 0]).alloc (.cells #[.int .i64 (s0 : Int), .int .i64 (s1 : Int), .int .i64 (s2 : Int), .bool s3, .bool s4] 92)).alloc (.cells #[.int .u8 0, .int .u16 0, .int .u16 0, .int .u16 0, .slice none 0 0, .slice none 0 0] 41)
  have by_ := (Blk.newAt (w.alloc (.cells #[.int .u8 (f : Int), .int .u16 (t : Int), .int .u16 (m : Int), .int .u16 (o : Int), .slice none 0 0, .slice none 0 0] 41)) 92 #[.int .i64 (s0 : Int), .int .i64 (s1 : Int), .int .i64 (s2 : Int), .bool s3, .bool s4] (w.heap.size + 1) (World.size_alloc _ _)).alloc (.cells #[.int .u8 0, .int .u16 0, .int .u16 0, .int .u16 0, .slice none 0 0, .slice none 0 0] 41)
  have bz := Blk.newAt ((w.alloc (.cells #[.int .u8 (f : Int), .int .u16 (t : Int), .int .u16 (m : Int), .int .u16 (o : Int), .slice none 0 0, .slice none 0 0] 41)).alloc (.cells #[.int .i64 (s0 : Int), .int .i64 (s1 : Int), .int .i64 (s2 : Int), .bool s3, .bool s4] 92)) 41 #[.int .u8 0, .int .u16 0, .int .u16 0, .int .u16 0, .slice none 0 0, .slice none 0 0] (w.heap.size + 1 + 1) (by simp [World.size_alloc])
  generalize (((w.alloc (.cells #[.int .u8 (f : Int), .int .u16 (t : Int), .int .u16 (m : Int), .int .u16 (o : Int), .slice none 0 0, .slice none 0 0] 41)).alloc (.cells #[.int .i64 (s0 : Int), .int .i64 (s1 : Int), .int .i64 (s2 : Int), .bool s3, .bool s4] 92)).alloc (.cells #[.int .u8 0, .int .u16 0, .int .u16 0, .int .u16 0, .slice none 0 0, .slice none 0 0] 41)) = w1 at *
  obtain ⟨g2, hg2⟩ : ∃ g, w.heap.size + 1 + 1 = g := ⟨_, rfl⟩
  obtain ⟨g1, hg1⟩ : ∃ g, w.heap.size + 1 = g := ⟨_, rfl⟩
  obtain ⟨g, hg⟩ : ∃ g, w.heap.size = g := ⟨_, rfl⟩
  have hwg : w.heap.size ≤ g := by omega
  have hwg2 : w.heap.size ≤ g2 := by omega
  have hgg : g ≠ g2 := by omega
  have hgg' : g2 ≠ g := by omega
  have hgg1 : g ≠ g1 := by omega
  have hgg1' : g1 ≠ g := by omega
  rw [hg2] at bz ⊢
  rw [hg1] at by_ ⊢
  rw [hg] at bx
  have HG := Lib.hid hg
  clear hg1 hg2
  have hgw : g < w1.heap.size := bx.lt
  have hg2w : g2 < w1.heap.size := bz.lt
  have hww : w.heap.size ≤ w1.heap.size := hb1.size
  have hA1 := hA.below hb1
  obtain ⟨d0, d1, d2, d3, d4, d5⟩ := bx.c6
  obtain ⟨e0, e1, e2, e3, e4⟩ := by_.c5
  obtain ⟨z0, z1, z2, z3, z4, z5⟩ := bz.c6
  have q0 := bz.frozen 0
  have q1 := bz.frozen 1
  have q2 := bz.frozen 2
  have q3 := bz.frozen 3
  have q4 := bz.frozen 4
  have q5 := bz.frozen 5
  have p4 := bx.frozen 4
  have p5 := bx.frozen 5
  by_cases hz : s1 + s2 = 0
  · have HR : Hid (r = some ⟨f, t, m, o, [], []⟩) := by (show _ = _); rw [HW.out, if_pos hz]
    have v0 : ((s1 : Int) + (s2 : Int) == 0) = true := by simp; omega
    obtain rfl : s1 = 0 := by omega
    obtain rfl : s2 = 0 := by omega
    clear hz
    rw [hg]
    clear hg
    go_wp2_with fail
    refine bodyPost_ret (v := .tuple #[.agg #[.int .u8 (f : Int), .int .u16 (t : Int), .int .u16 (m : Int), .int .u16 (o : Int), .slice none 0 0, .slice none 0 0], .bool true]) (by simp [results, Try.results96, go_sem, z0, z1, z2, z3, z4, z5]) rfl ?_
    rw [HR.out]
    exact ⟨none, 0, none, 0, rfl, RdN.nil, RdN.nil, bset6 hb1 hwg2 _ _ _ _ _ _⟩

  · have v0 : ((s1 : Int) + (s2 : Int) == 0) = false := by simp; omega
    by_cases h2 : n < 2
    · have HR : Hid (r = none) := by (show _ = _); rw [HW.out, if_neg hz, if_pos h2]
      rw [hg]
      clear hg
      go_wp2_with fail
      refine bodyPost_ret (v := .tuple #[.agg #[.int .u8 0, .int .u16 0, .int .u16 0, .int .u16 0, .slice none 0 0, .slice none 0 0], .bool false]) (by simp [results, Try.results96, go_sem, z0, z1, z2, z3, z4, z5]) rfl ?_
      rw [HR.out]
      exact ⟨rfl, bset6 hb1 hwg2 _ _ _ _ _ _⟩
    · have HW2 : Hid (r = if f = 5 then some ⟨f, t, m, o, [], [decide (l.getD 0 0 ≠ 0)]⟩
        else if f = 6 then some ⟨f, t, m, o, pairs l, []⟩
        else if 0 < s1 then (if 8 * (n - 1) < m then none else some ⟨f, t, m, o, [], (unpk (l.drop 1)).take m⟩)
        else some ⟨f, t, m, o, pairs (l.drop 1), []⟩) := by (show _ = _); rw [HW.out, if_neg hz, if_neg h2]
      clear HW
      rw [hg]
      clear hg
      by_cases h5 : f = 5
      · have HR : Hid (r = some ⟨f, t, m, o, [], [decide (l.getD 0 0 ≠ 0)]⟩) := by (show _ = _); rw [HW2.out, if_pos h5]
        obtain ⟨bb, off, x, rfl, hx, cx⟩ := hA1.byte (k := 0) (by rw [HN.out]; omega)
        rw [Nat.add_zero] at cx
        have hx0 : (0 : Nat) < n := by omega
        have v5 : ((f : Int) == 5) = true := by simp; omega
        obtain ⟨y, hy⟩ : ∃ y, decide (l.getD 0 0 ≠ 0) = y := ⟨_, rfl⟩
        have v1 : ((x : Int) != 0) = y := by rw [← hy, getD_of hx]; by_cases e : x = 0 <;> simp [e] <;> omega
        rw [hy] at HR
        clear hy hx h5
        go_upto_region 15 with fail
        have hb3 := (hb1.setCell (p := ⟨g, 5, none⟩) hwg (.slice (some ⟨w1.heap.size, 0, none⟩) 1 1)).alloc (hb1.setCell (p := ⟨g, 5, none⟩) hwg (.slice (some ⟨w1.heap.size, 0, none⟩) 1 1)).size (.cells #[.bool y] 4)
        have bx3 : Blk ((w1.setCell ⟨g, 5, none⟩ (.slice (some ⟨w1.heap.size, 0, none⟩) 1 1)).alloc (.cells #[.bool y] 4)) g 41 #[.int .u8 (f : Int), .int .u16 (t : Int), .int .u16 (m : Int), .int .u16 (o : Int), .slice none 0 0, .slice (some ⟨w1.heap.size, 0, none⟩) 1 1] := (bx.set_ 5 _).alloc _
        have bz3 := (bz.far (p := ⟨g, 5, none⟩) hgg' (.slice (some ⟨w1.heap.size, 0, none⟩) 1 1)).alloc (.cells #[.bool y] 4)
        have rd3 : RdN w1.heap.size ((w1.setCell ⟨g, 5, none⟩ (.slice (some ⟨w1.heap.size, 0, none⟩) 1 1)).alloc (.cells #[.bool y] 4)) (some ⟨w1.heap.size, 0, none⟩) [.bool y] := RdN.lit _ w1.heap.size (by simp [World.setCell]) _ [.bool y]
        generalize (w1.setCell ⟨g, 5, none⟩ (.slice (some ⟨w1.heap.size, 0, none⟩) 1 1)).alloc (.cells #[.bool y] 4) = w3 at *
        clear d0 d1 d2 d3 d4 d5 z0 z1 z2 z3 z4 z5 q0 q1 q2 q3 q4 q5
        obtain ⟨d0, d1, d2, d3, d4, d5⟩ := bx3.c6
        obtain ⟨z0, z1, z2, z3, z4, z5⟩ := bz3.c6
        have q0 := bz3.frozen 0
        have q1 := bz3.frozen 1
        have q2 := bz3.frozen 2
        have q3 := bz3.frozen 3
        have q4 := bz3.frozen 4
        have q5 := bz3.frozen 5
        go_wp2_with fail
        refine bodyPost_ret (v := .tuple #[.agg #[.int .u8 (f : Int), .int .u16 (t : Int), .int .u16 (m : Int), .int .u16 (o : Int), .slice none 0 0, .slice (some ⟨w1.heap.size, 0, none⟩) 1 1], .bool true]) (by simp [results, Try.results96, go_sem, z0, z1, z2, z3, z4, z5]) rfl ?_
        rw [HR.out]
        exact ⟨_, _, _, _, rfl, RdN.set6 (⟨RdN.nil, hww⟩ : RdN w1.heap.size w3 none (ws []) ∧ _) hg2w, RdN.set6 (⟨rd3, hww⟩ : _ ∧ _) hg2w, bset6 hb3 hwg2 _ _ _ _ _ _⟩
      · have v5 : ((f : Int) == 5) = false := by simp; omega
        have HW3 : Hid (r = if f = 6 then some ⟨f, t, m, o, pairs l, []⟩
          else if 0 < s1 then (if 8 * (n - 1) < m then none else some ⟨f, t, m, o, [], (unpk (l.drop 1)).take m⟩)
          else some ⟨f, t, m, o, pairs (l.drop 1), []⟩) := by (show _ = _); rw [HW2.out, if_neg h5]
        clear HW2
        by_cases h6 : f = 6
        · have v6 : ((f : Int) == 6) = true := by simp; omega
          have HR : Hid (r = some ⟨f, t, m, o, pairs l, []⟩) := by (show _ = _); rw [HW3.out, if_pos h6]
          clear h5 h6
          go_wp2_with fail
          refine (ask_list A n c l w1 hA1 HN.out hl (by omega)).mono ?_
          rintro e w2 ⟨A', c', rfl, o2, hb2⟩
          have hb12 := bthen hb1 hb2
          have bx2 := bx.all hb2
          have bz2 := bz.all hb2
          have HL : Hid ((pairs l).length = n / 2) := by (show _ = _); rw [pairs_length, HN.out]
          obtain ⟨k, hk⟩ : ∃ k, n / 2 = k := ⟨_, rfl⟩
          rw [hk] at HL ⊢
          clear hk
          clear d0 d1 d2 d3 d4 d5 z0 z1 z2 z3 z4 z5 q0 q1 q2 q3 q4 q5
          obtain ⟨d0, d1, d2, d3, d4, d5⟩ := bx2.c6
          have p4 := bx2.frozen 4
          go_upto_region 15 with fail
          have hb3 := hb12.setCell (p := ⟨g, 4, none⟩) hwg (.slice A' k c')
          have bx3 : Blk (w2.setCell ⟨g, 4, none⟩ (.slice A' k c')) g 41 #[.int .u8 (f : Int), .int .u16 (t : Int), .int .u16 (m : Int), .int .u16 (o : Int), .slice A' k c', .slice none 0 0] := bx2.set_ 4 _
          have bz3 := bz2.far (p := ⟨g, 4, none⟩) hgg' (.slice A' k c')
          have rd3 := o2.rdN.stored ⟨g, 4, none⟩ (.slice A' k c') hgw
          generalize w2.setCell ⟨g, 4, none⟩ (.slice A' k c') = w3 at *
          clear d0 d1 d2 d3 d4 d5
          obtain ⟨d0, d1, d2, d3, d4, d5⟩ := bx3.c6
          obtain ⟨z0, z1, z2, z3, z4, z5⟩ := bz3.c6
          have q0 := bz3.frozen 0
          have q1 := bz3.frozen 1
          have q2 := bz3.frozen 2
          have q3 := bz3.frozen 3
          have q4 := bz3.frozen 4
          have q5 := bz3.frozen 5
          go_wp2_with fail
          refine bodyPost_ret (v := .tuple #[.agg #[.int .u8 (f : Int), .int .u16 (t : Int), .int .u16 (m : Int), .int .u16 (o : Int), .slice A' k c', .slice none 0 0], .bool true]) (by simp [results, Try.results96, go_sem, z0, z1, z2, z3, z4, z5]) rfl ?_
          rw [HR.out]
          exact ⟨_, _, _, _, by unfold Ak.v akV; simp only; rw [HL.out]; rfl, RdN.set6 (⟨rd3, hww⟩ : _ ∧ _) hg2w, RdN.set6 (⟨RdN.nil, hww⟩ : RdN w1.heap.size w3 none (os []) ∧ _) hg2w, bset6 hb3 hwg2 _ _ _ _ _ _⟩
        · have v6 : ((f : Int) == 6) = false := by simp; omega
          obtain ⟨A2, hsl', rd2⟩ := slice_from_b hA1 HN.out hnc 1 (by omega)
          have hsl : ∀ W, (Instr.slice 29 (.slice A n c) (some (.int .i64 1)) none none).run Try.prog W = .ok (.slice A2 (n - 1) (c - 1)) W := hsl'
          clear hsl'
          have HL1 : Hid ((l.drop 1).length = n - 1) := by (show _ = _); rw [List.length_drop, HN.out]
          have HW4 : Hid (r = if 0 < s1 then (if 8 * (n - 1) < m then none else some ⟨f, t, m, o, [], (unpk (l.drop 1)).take m⟩)
            else some ⟨f, t, m, o, pairs (l.drop 1), []⟩) := by (show _ = _); rw [HW3.out, if_neg h6]
          clear HW3 h5 h6
          by_cases h1 : 0 < s1
          · have v7 : (0 : Int) < (s1 : Int) := by omega
            go_wp2_with fail
            refine (ask_Unpack A2 (n - 1) (c - 1) (l.drop 1) w1 rd2 HL1.out (hl.drop 1) (by omega)).mono ?_
            rintro e w2 ⟨A', c', rfl, o2, hb2, hc2⟩
            have hb12 := bthen hb1 hb2
            have bx2 := bx.all hb2
            have bz2 := bz.all hb2
            obtain ⟨k, hk⟩ : ∃ k, 8 * (n - 1) = k := ⟨_, rfl⟩
            have hk1 : 1 ≤ k := by omega
            have HLU : Hid ((unpk (l.drop 1)).length = k) := by (show _ = _); rw [unpk_length, HL1.out, hk]
            rw [hk] at HW4 hc2 ⊢
            clear hk
            obtain ⟨ga, rfl, hga, -, -, -⟩ := o2.head (by rw [os_length, HLU.out]; exact hk1)
            clear d0 d1 d2 d3 d4 d5 z0 z1 z2 z3 z4 z5 q0 q1 q2 q3 q4 q5
            obtain ⟨d0, d1, d2, d3, d4, d5⟩ := bx2.c6
            by_cases hkm : k < m
            · have HR : Hid (r = none) := by (show _ = _); rw [HW4.out, if_pos h1, if_pos hkm]
              obtain ⟨z0, z1, z2, z3, z4, z5⟩ := bz2.c6
              have q0 := bz2.frozen 0
              have q1 := bz2.frozen 1
              have q2 := bz2.frozen 2
              have q3 := bz2.frozen 3
              have q4 := bz2.frozen 4
              have q5 := bz2.frozen 5
              have v8 : (k : Int) < (m : Int) := by omega
              go_wp2_with fail
              refine bodyPost_ret (v := .tuple #[.agg #[.int .u8 0, .int .u16 0, .int .u16 0, .int .u16 0, .slice none 0 0, .slice none 0 0], .bool false]) (by simp [results, Try.results96, go_sem, z0, z1, z2, z3, z4, z5]) rfl ?_
              rw [HR.out]
              exact ⟨rfl, bset6 hb12 hwg2 _ _ _ _ _ _⟩
            · have HR : Hid (r = some ⟨f, t, m, o, [], (unpk (l.drop 1)).take m⟩) := by (show _ = _); rw [HW4.out, if_pos h1, if_neg hkm]
              have HLM : Hid (((unpk (l.drop 1)).take m).length = m) := by (show _ = _); rw [List.length_take, HLU.out]; omega
              have p5 := bx2.frozen 5
              have v8 : ¬ ((k : Int) < (m : Int)) := by omega
              have hsl2 := slice_cap_o ga k c' m (by omega)
              have rdm := o2.rdN.take m
              rw [← os_take] at rdm
              go_upto_region 15 with fail
              have hb3 := hb12.setCell (p := ⟨g, 5, none⟩) hwg (.slice (some ⟨ga, 0, none⟩) m m)
              have bx3 : Blk (w2.setCell ⟨g, 5, none⟩ (.slice (some ⟨ga, 0, none⟩) m m)) g 41 #[.int .u8 (f : Int), .int .u16 (t : Int), .int .u16 (m : Int), .int .u16 (o : Int), .slice none 0 0, .slice (some ⟨ga, 0, none⟩) m m] := bx2.set_ 5 _
              have bz3 := bz2.far (p := ⟨g, 5, none⟩) hgg' (.slice (some ⟨ga, 0, none⟩) m m)
              have rd3 := rdm.stored ⟨g, 5, none⟩ (.slice (some ⟨ga, 0, none⟩) m m) hgw
              generalize w2.setCell ⟨g, 5, none⟩ (.slice (some ⟨ga, 0, none⟩) m m) = w3 at *
              clear d0 d1 d2 d3 d4 d5
              obtain ⟨d0, d1, d2, d3, d4, d5⟩ := bx3.c6
              obtain ⟨z0, z1, z2, z3, z4, z5⟩ := bz3.c6
              have q0 := bz3.frozen 0
              have q1 := bz3.frozen 1
              have q2 := bz3.frozen 2
              have q3 := bz3.frozen 3
              have q4 := bz3.frozen 4
              have q5 := bz3.frozen 5
              go_wp2_with fail
              refine bodyPost_ret (v := .tuple #[.agg #[.int .u8 (f : Int), .int .u16 (t : Int), .int .u16 (m : Int), .int .u16 (o : Int), .slice none 0 0, .slice (some ⟨ga, 0, none⟩) m m], .bool true]) (by simp [results, Try.results96, go_sem, z0, z1, z2, z3, z4, z5]) rfl ?_
              rw [HR.out]
              exact ⟨_, _, _, _, by unfold Ak.v akV; simp only; rw [HLM.out]; rfl, RdN.set6 (⟨RdN.nil, hww⟩ : RdN w1.heap.size w3 none (ws []) ∧ _) hg2w, RdN.set6 (⟨rd3, hww⟩ : _ ∧ _) hg2w, bset6 hb3 hwg2 _ _ _ _ _ _⟩
          · obtain rfl : s1 = 0 := by omega
            have HR : Hid (r = some ⟨f, t, m, o, pairs (l.drop 1), []⟩) := by (show _ = _); rw [HW4.out, if_neg h1]
            go_wp2_with fail
            refine (ask_list A2 (n - 1) (c - 1) (l.drop 1) w1 rd2 HL1.out (hl.drop 1) (by omega)).mono ?_
            rintro e w2 ⟨A', c', rfl, o2, hb2⟩
            have hb12 := bthen hb1 hb2
            have bx2 := bx.all hb2
            have bz2 := bz.all hb2
            have HL : Hid ((pairs (l.drop 1)).length = (n - 1) / 2) := by (show _ = _); rw [pairs_length, HL1.out]
            obtain ⟨k, hk⟩ : ∃ k, (n - 1) / 2 = k := ⟨_, rfl⟩
            rw [hk] at HL ⊢
            clear hk
            clear d0 d1 d2 d3 d4 d5 z0 z1 z2 z3 z4 z5 q0 q1 q2 q3 q4 q5
            obtain ⟨d0, d1, d2, d3, d4, d5⟩ := bx2.c6
            have p4 := bx2.frozen 4
            go_upto_region 15 with fail
            have hb3 := hb12.setCell (p := ⟨g, 4, none⟩) hwg (.slice A' k c')
            have bx3 : Blk (w2.setCell ⟨g, 4, none⟩ (.slice A' k c')) g 41 #[.int .u8 (f : Int), .int .u16 (t : Int), .int .u16 (m : Int), .int .u16 (o : Int), .slice A' k c', .slice none 0 0] := bx2.set_ 4 _
            have bz3 := bz2.far (p := ⟨g, 4, none⟩) hgg' (.slice A' k c')
            have rd3 := o2.rdN.stored ⟨g, 4, none⟩ (.slice A' k c') hgw
            generalize w2.setCell ⟨g, 4, none⟩ (.slice A' k c') = w3 at *
            clear d0 d1 d2 d3 d4 d5
            obtain ⟨d0, d1, d2, d3, d4, d5⟩ := bx3.c6
            obtain ⟨z0, z1, z2, z3, z4, z5⟩ := bz3.c6
            have q0 := bz3.frozen 0
            have q1 := bz3.frozen 1
            have q2 := bz3.frozen 2
            have q3 := bz3.frozen 3
            have q4 := bz3.frozen 4
            have q5 := bz3.frozen 5
            go_wp2_with fail
            refine bodyPost_ret (v := .tuple #[.agg #[.int .u8 (f : Int), .int .u16 (t : Int), .int .u16 (m : Int), .int .u16 (o : Int), .slice A' k c', .slice none 0 0], .bool true]) (by simp [results, Try.results96, go_sem, z0, z1, z2, z3, z4, z5]) rfl ?_
            rw [HR.out]
            exact ⟨_, _, _, _, by unfold Ak.v akV; simp only; rw [HL.out]; rfl, RdN.set6 (⟨rd3, hww⟩ : _ ∧ _) hg2w, RdN.set6 (⟨RdN.nil, hww⟩ : RdN w1.heap.size w3 none (os []) ∧ _) hg2w, bset6 hb3 hwg2 _ _ _ _ _ _⟩
end Go.Proofs.Ytechhidfgheejaa
