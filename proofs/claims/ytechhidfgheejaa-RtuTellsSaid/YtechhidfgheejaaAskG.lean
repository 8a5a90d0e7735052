/- The walk of ask.read. -/
import Derived.Test.YtechhidfgheejaaAskF
namespace Go.Proofs.Ytechhidfgheejaa
open Go.RowKit
set_option linter.unusedSimpArgs false
set_option linter.unusedVariables false

/-- number i of those behind the first byte -/
def pw (l : List Nat) (i : Nat) : Nat := (pairs (l.drop 1)).getD i 0
def readA (l : List Nat) : Option Ak :=
  if l.length < 5 ∨ 253 < l.length then none
  else if isFn (l.getD 0 0) = false then none
  else if (shp (l.getD 0 0)).to_ = true then (if l.length < 9 then none else writtenA (l.getD 0 0) (pw l 0) (pw l 1) (pw l 2) (l.drop 9))
  else if 0 < (shp (l.getD 0 0)).many then writtenA (l.getD 0 0) (pw l 0) (pw l 1) 0 (l.drop 5)
  else writtenA (l.getD 0 0) (pw l 0) 0 0 (l.drop 3)
theorem pw_lt {l : List Nat} (h : Bs l) (i : Nat) : pw l i < 65536 := by
  unfold pw
  rw [List.getD_eq_getElem?_getD]
  rcases hx : (pairs (l.drop 1))[i]? with _ | x
  · simp
  · exact (pairs_Ws (h.drop 1)).get hx
theorem Rd.wordAt {w : World} {A : Option Addr} {l : List Nat} (h : Rd w A (ws l)) (k : Nat) (hk : k < l.length) : ∃ b off, A = some ⟨b, off, none⟩ ∧ w.cell? ⟨b, off + k, none⟩ = some (.int .u16 (l.getD k 0 : Nat)) := by
  obtain ⟨b, off, x, hA, hx, hc⟩ := h.word hk
  exact ⟨b, off, hA, by rw [getD_of hx]; exact hc⟩
theorem to_many {f : Nat} (h : (shp f).to_ = true) : f = 23 := by
  unfold shp at h
  repeat' split at h
  all_goals simp_all

theorem pw_at {l : List Nat} {i : Nat} (h : i < (pairs (l.drop 1)).length) : (ws (pairs (l.drop 1)))[i]? = some (.int .u16 (pw l i : Nat)) := by
  unfold pw ws
  rw [List.getElem?_map, List.getD_eq_getElem?_getD, List.getElem?_eq_getElem h]
  rfl

set_option maxRecDepth 100000 in
set_option maxHeartbeats 2000000 in
theorem ask_read (A : Option Addr) (n c : Nat) (l : List Nat) (w : World) (hA : Rd w A (bs l)) (hn : l.length = n) (hl : Bs l) (hnc : n ≤ c) (hbig : n ≤ 1000000000) :
    Calls Try.prog 78 #[.slice A n c] w fun e w' => Told w (readA l) (.bool true) (.bool false) e w' := by
  have HW : Hid (readA l = if l.length < 5 ∨ 253 < l.length then none
  else if isFn (l.getD 0 0) = false then none
  else if (shp (l.getD 0 0)).to_ = true then (if l.length < 9 then none else writtenA (l.getD 0 0) (pw l 0) (pw l 1) (pw l 2) (l.drop 9))
  else if 0 < (shp (l.getD 0 0)).many then writtenA (l.getD 0 0) (pw l 0) (pw l 1) 0 (l.drop 5)
  else writtenA (l.getD 0 0) (pw l 0) 0 0 (l.drop 3)) := rfl
  generalize readA l = r at *
  rw [hn] at HW
  have HN := Lib.hid hn
  clear hn
  have hb1 := (Below.refl _ w).alloc (Nat.le_refl _) (.cells #[.int .u8 0, .int .u16 0, .int .u16 0, .int .u16 0, .slice none 0 0, .slice none 0 0] 41)
  have bz := Blk.new w 41 #[.int .u8 0, .int .u16 0, .int .u16 0, .int .u16 0, .slice none 0 0, .slice none 0 0]
  obtain ⟨g, hg⟩ : ∃ g, w.heap.size = g := ⟨_, rfl⟩
  have hwg : w.heap.size ≤ g := by omega
  have HG := Lib.hid hg
  go_enter Try.func78, Try.ntmps78
  go_upto_region 1 with fail
  rw [hg] at bz
  (try rw [hg])
  clear hg
  generalize w.alloc (.cells #[.int .u8 0, .int .u16 0, .int .u16 0, .int .u16 0, .slice none 0 0, .slice none 0 0] 41) = w1 at *
  have hA1 := hA.below hb1
  by_cases h5 : n < 5 ∨ 253 < n
  · have HR : Hid (r = none) := by (show _ = _); rw [HW.out, if_pos h5]
    obtain ⟨z0, z1, z2, z3, z4, z5⟩ := bz.c6
    have q0 := bz.frozen 0
    have q1 := bz.frozen 1
    have q2 := bz.frozen 2
    have q3 := bz.frozen 3
    have q4 := bz.frozen 4
    have q5 := bz.frozen 5
    by_cases h6 : n < 5
    · have v1 : decide ((n : Int) < 5) = true := decide_eq_true (by omega)
      go_wp2_with fail
      refine bodyPost_ret (v := .tuple #[.agg #[.int .u8 0, .int .u16 0, .int .u16 0, .int .u16 0, .slice none 0 0, .slice none 0 0], .bool false]) (by simp [results, Try.results78, go_sem, z0, z1, z2, z3, z4, z5]) rfl ?_
      rw [HR.out]
      exact ⟨rfl, bset6 hb1 hwg _ _ _ _ _ _⟩
    · have v1 : decide ((n : Int) < 5) = false := decide_eq_false (by omega)
      have v2 : decide ((253 : Int) < n) = true := decide_eq_true (by omega)
      go_wp2_with fail
      refine bodyPost_ret (v := .tuple #[.agg #[.int .u8 0, .int .u16 0, .int .u16 0, .int .u16 0, .slice none 0 0, .slice none 0 0], .bool false]) (by simp [results, Try.results78, go_sem, z0, z1, z2, z3, z4, z5]) rfl ?_
      rw [HR.out]
      exact ⟨rfl, bset6 hb1 hwg _ _ _ _ _ _⟩
  · have HW2 : Hid (r = if isFn (l.getD 0 0) = false then none
      else if (shp (l.getD 0 0)).to_ = true then (if n < 9 then none else writtenA (l.getD 0 0) (pw l 0) (pw l 1) (pw l 2) (l.drop 9))
      else if 0 < (shp (l.getD 0 0)).many then writtenA (l.getD 0 0) (pw l 0) (pw l 1) 0 (l.drop 5)
      else writtenA (l.getD 0 0) (pw l 0) 0 0 (l.drop 3)) := by (show _ = _); rw [HW.out, if_neg h5]
    have hn5 : 5 ≤ n := by omega
    have hn253 : n ≤ 253 := by omega
    have v1 : decide ((n : Int) < 5) = false := decide_eq_false (by omega)
    have v2 : decide ((253 : Int) < n) = false := decide_eq_false (by omega)
    clear HW h5
    obtain ⟨bb, off, f, rfl, hx, cx⟩ := hA1.byte (k := 0) (by rw [HN.out]; omega)
    rw [Nat.add_zero] at cx
    have hf := hl.get hx
    rw [getD_of hx] at HW2
    have hblk : bb < w1.heap.size := World.block_lt_of_cell? w1 _ cx
    have hblk0 : bb < w.heap.size := by
      obtain ⟨b2, off2, x2, hA2, hx2, cx2⟩ := hA.byte (k := 0) (by rw [HN.out]; omega)
      injection hA2 with hA2
      injection hA2 with h1 h2
      subst h1 h2
      exact World.block_lt_of_cell? w _ cx2
    have hx0 : (0 : Nat) < n := by omega
    have FX : Hid (l.getD 0 0 = f) := getD_of hx
    clear hx
    have E2 := Lib.hid (fun W => ask_shape f W hf)
    obtain ⟨s, hs⟩ : ∃ s, shp f = s := ⟨_, rfl⟩
    have HS := Lib.hid hs
    rw [hs] at HW2 E2
    have hsle := shp_le f
    rw [hs] at hsle
    obtain ⟨s0, s1, s2, s3, s4⟩ := s
    obtain ⟨l0, l1, l2⟩ := hsle
    simp only [Shp.val] at E2
    simp only at HW2 l0 l1 l2
    clear hs
    go_wp2_with fail
    refine (E2.out _).mono ?_
    rintro e w2 ⟨rfl, hb2⟩
    have hb2' := bthen hb1 hb2
    have bz2 := bz.all hb2
    clear E2 hb1 bz cx hblk
    obtain ⟨fn, hfn⟩ : ∃ b, isFn f = b := ⟨_, rfl⟩
    rw [hfn] at HW2 ⊢
    clear hfn
    go_upto_region 4 with fail
    have hb3 := hb2'.alloc hb2'.size (.cells #[.int .i64 (s0 : Int), .int .i64 (s1 : Int), .int .i64 (s2 : Int), .bool s3, .bool s4] 92)
    have bz3 := bz2.alloc (.cells #[.int .i64 (s0 : Int), .int .i64 (s1 : Int), .int .i64 (s2 : Int), .bool s3, .bool s4] 92)
    have by3 := Blk.new w2 92 #[.int .i64 (s0 : Int), .int .i64 (s1 : Int), .int .i64 (s2 : Int), .bool s3, .bool s4]
    generalize w2.alloc (.cells #[.int .i64 (s0 : Int), .int .i64 (s1 : Int), .int .i64 (s2 : Int), .bool s3, .bool s4] 92) = w3 at *
    obtain ⟨g1, hg1⟩ : ∃ g, w2.heap.size = g := ⟨_, rfl⟩
    have hgg1 : g ≠ g1 := by have := bz2.lt; omega
    rw [hg1] at by3 ⊢
    clear hg1 hb2' bz2
    cases fn with
    | false =>
      have HR : Hid (r = none) := by (show _ = _); rw [HW2.out, if_pos rfl]
      obtain ⟨z0, z1, z2, z3, z4, z5⟩ := bz3.c6
      have q0 := bz3.frozen 0
      have q1 := bz3.frozen 1
      have q2 := bz3.frozen 2
      have q3 := bz3.frozen 3
      have q4 := bz3.frozen 4
      have q5 := bz3.frozen 5
      go_wp2_with fail
      refine bodyPost_ret (v := .tuple #[.agg #[.int .u8 0, .int .u16 0, .int .u16 0, .int .u16 0, .slice none 0 0, .slice none 0 0], .bool false]) (by simp [results, Try.results78, go_sem, z0, z1, z2, z3, z4, z5]) rfl ?_
      rw [HR.out]
      exact ⟨rfl, bset6 hb3 hwg _ _ _ _ _ _⟩
    | true =>
      have HW3 : Hid (r = if s3 = true then (if n < 9 then none else writtenA f (pw l 0) (pw l 1) (pw l 2) (l.drop 9))
        else if 0 < s0 then writtenA f (pw l 0) (pw l 1) 0 (l.drop 5)
        else writtenA f (pw l 0) 0 0 (l.drop 3)) := by (show _ = _); rw [HW2.out, if_neg (by simp)]
      clear HW2
      have hA3 := hA.below hb3
      obtain ⟨A2, hsl', rd2⟩ := slice_from_b hA3 HN.out hnc 1 (by omega)
      have hsl : ∀ W, (Instr.slice 29 (.slice (some ⟨bb, off, none⟩) n c) (some (.int .i64 1)) none none).run Try.prog W = .ok (.slice A2 (n - 1) (c - 1)) W := hsl'
      clear hsl'
      have HL1 : Hid ((l.drop 1).length = n - 1) := by (show _ = _); rw [List.length_drop, HN.out]
      go_wp2_with fail
      refine (ask_list A2 (n - 1) (c - 1) (l.drop 1) w3 rd2 HL1.out (hl.drop 1) (by omega)).mono ?_
      rintro e w4 ⟨A4, c4, rfl, o4, hb4⟩
      have HL : Hid ((pairs (l.drop 1)).length = (n - 1) / 2) := by (show _ = _); rw [pairs_length, HL1.out]
      obtain ⟨k, hk⟩ : ∃ k, (n - 1) / 2 = k := ⟨_, rfl⟩
      have hk2 : 2 ≤ k := by omega
      have hk3 : 9 ≤ n → 4 ≤ k := by omega
      rw [hk] at HL ⊢
      clear hk hsl
      have hb4' := bthen hb3 hb4
      have bz4 := bz3.all hb4
      have by4 := by3.all hb4
      have hA4 := hA.below hb4'
      clear hb4 bz3 by3 hA3 rd2
      obtain ⟨g4, rfl, hg4, -, hc4, -⟩ := o4.head (by rw [ws_length, HL.out]; omega)
      have c4_0 := hc4 0 _ (pw_at (i := 0) (by rw [HL.out]; omega))
      have hk0 : (0 : Nat) < k := by omega
      have cx4 := hA4.byteAt 0 (by rw [HN.out]; omega)
      rw [Nat.add_zero] at cx4
      rw [show l.getD 0 0 = f from FX.out] at cx4
      obtain ⟨p0, hp0⟩ : ∃ p, pw l 0 = p := ⟨_, rfl⟩
      have HP0 := Lib.hid hp0
      rw [hp0] at c4_0
      clear hp0
      have c4_0' := (World.cell?_alloc_lt w4 (.cells #[.int .u8 0, .int .u16 0, .int .u16 0, .int .u16 0, .slice none 0 0, .slice none 0 0] 41) ⟨g4, 0, none⟩ (World.block_lt_of_cell? w4 _ c4_0)).trans c4_0
      have cx4' := (World.cell?_alloc_lt w4 (.cells #[.int .u8 0, .int .u16 0, .int .u16 0, .int .u16 0, .slice none 0 0, .slice none 0 0] 41) ⟨bb, off, none⟩ (World.block_lt_of_cell? w4 _ cx4)).trans cx4
      go_upto_region 7 with fail
      go_region
      go_upto_region 8 with fail
      have hb5 := (hb4'.alloc hb4'.size (.cells #[.int .u8 (f : Int), .int .u16 (p0 : Int), .int .u16 0, .int .u16 0, .slice none 0 0, .slice none 0 0] 41)).drew
      have bx5 := (Blk.new w4 41 #[.int .u8 (f : Int), .int .u16 (p0 : Int), .int .u16 0, .int .u16 0, .slice none 0 0, .slice none 0 0]).drew
      have by5 := (by4.alloc (.cells #[.int .u8 (f : Int), .int .u16 (p0 : Int), .int .u16 0, .int .u16 0, .slice none 0 0, .slice none 0 0] 41)).drew
      have bz5 := (bz4.alloc (.cells #[.int .u8 (f : Int), .int .u16 (p0 : Int), .int .u16 0, .int .u16 0, .slice none 0 0, .slice none 0 0] 41)).drew
      have o5 := (o4.alloc (.cells #[.int .u8 (f : Int), .int .u16 (p0 : Int), .int .u16 0, .int .u16 0, .slice none 0 0, .slice none 0 0] 41)).drew
      have hgl : g4 < w4.heap.size := World.block_lt_of_cell? w4 _ c4_0
      generalize (w4.alloc (.cells #[.int .u8 (f : Int), .int .u16 (p0 : Int), .int .u16 0, .int .u16 0, .slice none 0 0, .slice none 0 0] 41)).drew = w5 at *
      obtain ⟨g2, hg2⟩ : ∃ g, w4.heap.size = g := ⟨_, rfl⟩
      have hg42 : g4 ≠ g2 := by omega
      have hg24 : g2 ≠ g4 := by omega
      have hwg2 : w.heap.size ≤ g2 := by have := hb4'.size; omega
      have hgg2 : g ≠ g2 := by have := bz4.lt; omega
      have hg1g2 : g1 ≠ g2 := by have := by4.lt; omega
      rw [hg2] at bx5 ⊢
      clear hg2 hb4' bz4 by4 hA4 o4 hc4 c4_0 cx4 c4_0' cx4' hgl
      have hA5 := hA.below hb5
      obtain ⟨A3, hsl3', rd3⟩ := slice_from_b hA HN.out hnc 3 (by omega)
      have hsl3 : ∀ W, (Instr.slice 29 (.slice (some ⟨bb, off, none⟩) n c) (some (.int .i64 3)) none none).run Try.prog W = .ok (.slice A3 (n - 3) (c - 3)) W := hsl3'
      obtain ⟨A5, hsl5', rd5⟩ := slice_from_b hA HN.out hnc 5 (by omega)
      have hsl5 : ∀ W, (Instr.slice 29 (.slice (some ⟨bb, off, none⟩) n c) (some (.int .i64 5)) none none).run Try.prog W = .ok (.slice A5 (n - 5) (c - 5)) W := hsl5'
      clear hsl3' hsl5'
      obtain ⟨e0, e1, e2, e3, e4⟩ := by5.c5
      obtain ⟨⟨u1, hu1, k1⟩, -, -, -⟩ := o5.at_ (j := 1) (by rw [ws_length, HL.out]; omega)
      rw [pw_at (i := 1) (by rw [HL.out]; omega)] at hu1
      injection hu1 with hu1
      obtain ⟨p1, hp1⟩ : ∃ p, pw l 1 = p := ⟨_, rfl⟩
      have HP1 := Lib.hid hp1
      have hp1b : p1 < 65536 := by rw [← hp1]; exact pw_lt hl 1
      rw [hp1] at hu1
      rw [← hu1] at k1
      clear hu1 hp1
      have hk1 : (1 : Int) < (k : Int) := by omega
      have pz2 := bx5.frozen 2
      obtain ⟨d0, d1, d2, d3, d4, d5⟩ := bx5.c6
      cases s3 with
      | false =>
        have HW4 : Hid (r = if 0 < s0 then writtenA f (pw l 0) (pw l 1) 0 (l.drop 5) else writtenA f (pw l 0) 0 0 (l.drop 3)) := by (show _ = _); rw [HW3.out, if_neg (by simp)]
        clear HW3
        by_cases hs0 : 0 < s0
        · have v5 : (0 : Int) < (s0 : Int) := by omega
          have HR : Hid (r = writtenA f (pw l 0) p1 0 (l.drop 5)) := by (show _ = _); rw [HW4.out, if_pos hs0, HP1.out]
          go_upto_region 10 with fail
          go_region
          go_upto_region 11 with fail
          have hbE := (hb5.setCell (p := ⟨g2, 2, none⟩) hwg2 (.int .u16 (p1 : Int))).drew
          have bxE : Blk (w5.setCell ⟨g2, 2, none⟩ (.int .u16 (p1 : Int))).drew g2 41 #[.int .u8 (f : Int), .int .u16 (p0 : Int), .int .u16 (p1 : Int), .int .u16 0, .slice none 0 0, .slice none 0 0] := (bx5.set_ 2 _).drew
          have bzE := (bz5.far (p := ⟨g2, 2, none⟩) hgg2 (.int .u16 (p1 : Int))).drew
          have byE := (by5.far (p := ⟨g2, 2, none⟩) hg1g2 (.int .u16 (p1 : Int))).drew
          generalize (w5.setCell ⟨g2, 2, none⟩ (.int .u16 (p1 : Int))).drew = w6 at *
          clear d0 d1 d2 d3 d4 d5 e0 e1 e2 e3 e4 k1 pz2
          obtain ⟨d0, d1, d2, d3, d4, d5⟩ := bxE.c6
          obtain ⟨e0, e1, e2, e3, e4⟩ := byE.c5
          have rdE : Rd w6 A5 (bs (l.drop 5)) := rd5.below hbE
          have HLE : Hid ((l.drop 5).length = n - 5) := by (show _ = _); rw [List.length_drop, HN.out]
          obtain ⟨rr, hrr⟩ : ∃ rr, writtenA f p0 p1 0 (l.drop 5) = rr := ⟨_, rfl⟩
          have E3 := Lib.hid (ask_written f p0 p1 0 A5 (n - 5) (c - 5) (l.drop 5) w6 hf hp1b rdE HLE.out (hl.drop _) (by omega) (by omega))
          rw [hrr, HS.out] at E3
          unfold akV Shp.val at E3
          simp only at E3
          have HR2 : Hid (r = rr) := by (show _ = _); rw [HR.out, HP0.out, hrr]
          clear hrr HR
          go_wp2_with fail
          refine E3.out.mono ?_
          rintro e w7 hT
          cases rr with
          | none =>
            obtain ⟨he, hb7⟩ := hT
            rw [show Ak.zero.v none 0 none 0 = .agg #[.int .u8 0, .int .u16 0, .int .u16 0, .int .u16 0, .slice none 0 0, .slice none 0 0] from rfl] at he
            subst he
            have bz7 := bzE.all hb7
            obtain ⟨z0, z1, z2, z3, z4, z5⟩ := bz7.c6
            have q0 := bz7.frozen 0
            have q1 := bz7.frozen 1
            have q2 := bz7.frozen 2
            have q3 := bz7.frozen 3
            have q4 := bz7.frozen 4
            have q5 := bz7.frozen 5
            go_wp2_with fail
            refine bodyPost_ret (v := .tuple #[.agg #[.int .u8 0, .int .u16 0, .int .u16 0, .int .u16 0, .slice none 0 0, .slice none 0 0], .bool false]) (by simp [results, Try.results78, go_sem, z0, z1, z2, z3, z4, z5]) rfl ?_
            rw [HR2.out]
            exact ⟨rfl, bset6 (bthen hbE hb7) hwg _ _ _ _ _ _⟩
          | some a =>
            obtain ⟨Ax, cx', Bx, dx, he, rw7, rb7, hb7⟩ := hT
            rw [show a.v Ax cx' Bx dx = .agg #[.int .u8 (a.fn : Int), .int .u16 (a.at_ : Int), .int .u16 (a.many : Int), .int .u16 (a.to_ : Int), .slice Ax a.words.length cx', .slice Bx a.bits.length dx] from rfl] at he
            subst he
            have bz7 := bzE.all hb7
            have hgE : g < w6.heap.size := bzE.lt
            have hsE : w.heap.size ≤ w6.heap.size := hbE.size
            obtain ⟨z0, z1, z2, z3, z4, z5⟩ := bz7.c6
            have q0 := bz7.frozen 0
            have q1 := bz7.frozen 1
            have q2 := bz7.frozen 2
            have q3 := bz7.frozen 3
            have q4 := bz7.frozen 4
            have q5 := bz7.frozen 5
            go_wp2_with fail
            refine bodyPost_ret (v := .tuple #[.agg #[.int .u8 (a.fn : Int), .int .u16 (a.at_ : Int), .int .u16 (a.many : Int), .int .u16 (a.to_ : Int), .slice Ax a.words.length cx', .slice Bx a.bits.length dx], .bool true]) (by simp [results, Try.results78, go_sem, z0, z1, z2, z3, z4, z5]) rfl ?_
            rw [HR2.out]
            exact ⟨Ax, cx', Bx, dx, rfl, RdN.set6 ⟨rw7, hsE⟩ hgE, RdN.set6 ⟨rb7, hsE⟩ hgE, bset6 (bthen hbE hb7) hwg _ _ _ _ _ _⟩
        · obtain rfl : s0 = 0 := by omega
          have HR : Hid (r = writtenA f (pw l 0) 0 0 (l.drop 3)) := by (show _ = _); rw [HW4.out, if_neg hs0]
          have hbE := hb5
          have bzE := bz5
          have rdE : Rd w5 A3 (bs (l.drop 3)) := rd3.below hbE
          have HLE : Hid ((l.drop 3).length = n - 3) := by (show _ = _); rw [List.length_drop, HN.out]
          obtain ⟨rr, hrr⟩ : ∃ rr, writtenA f p0 0 0 (l.drop 3) = rr := ⟨_, rfl⟩
          have E3 := Lib.hid (ask_written f p0 0 0 A3 (n - 3) (c - 3) (l.drop 3) w5 hf (by omega) rdE HLE.out (hl.drop _) (by omega) (by omega))
          rw [hrr, HS.out] at E3
          unfold akV Shp.val at E3
          simp only at E3
          have HR2 : Hid (r = rr) := by (show _ = _); rw [HR.out, HP0.out, hrr]
          clear hrr HR
          go_wp2_with fail
          refine E3.out.mono ?_
          rintro e w7 hT
          cases rr with
          | none =>
            obtain ⟨he, hb7⟩ := hT
            rw [show Ak.zero.v none 0 none 0 = .agg #[.int .u8 0, .int .u16 0, .int .u16 0, .int .u16 0, .slice none 0 0, .slice none 0 0] from rfl] at he
            subst he
            have bz7 := bzE.all hb7
            obtain ⟨z0, z1, z2, z3, z4, z5⟩ := bz7.c6
            have q0 := bz7.frozen 0
            have q1 := bz7.frozen 1
            have q2 := bz7.frozen 2
            have q3 := bz7.frozen 3
            have q4 := bz7.frozen 4
            have q5 := bz7.frozen 5
            go_wp2_with fail
            refine bodyPost_ret (v := .tuple #[.agg #[.int .u8 0, .int .u16 0, .int .u16 0, .int .u16 0, .slice none 0 0, .slice none 0 0], .bool false]) (by simp [results, Try.results78, go_sem, z0, z1, z2, z3, z4, z5]) rfl ?_
            rw [HR2.out]
            exact ⟨rfl, bset6 (bthen hbE hb7) hwg _ _ _ _ _ _⟩
          | some a =>
            obtain ⟨Ax, cx', Bx, dx, he, rw7, rb7, hb7⟩ := hT
            rw [show a.v Ax cx' Bx dx = .agg #[.int .u8 (a.fn : Int), .int .u16 (a.at_ : Int), .int .u16 (a.many : Int), .int .u16 (a.to_ : Int), .slice Ax a.words.length cx', .slice Bx a.bits.length dx] from rfl] at he
            subst he
            have bz7 := bzE.all hb7
            have hgE : g < w5.heap.size := bzE.lt
            have hsE : w.heap.size ≤ w5.heap.size := hbE.size
            obtain ⟨z0, z1, z2, z3, z4, z5⟩ := bz7.c6
            have q0 := bz7.frozen 0
            have q1 := bz7.frozen 1
            have q2 := bz7.frozen 2
            have q3 := bz7.frozen 3
            have q4 := bz7.frozen 4
            have q5 := bz7.frozen 5
            go_wp2_with fail
            refine bodyPost_ret (v := .tuple #[.agg #[.int .u8 (a.fn : Int), .int .u16 (a.at_ : Int), .int .u16 (a.many : Int), .int .u16 (a.to_ : Int), .slice Ax a.words.length cx', .slice Bx a.bits.length dx], .bool true]) (by simp [results, Try.results78, go_sem, z0, z1, z2, z3, z4, z5]) rfl ?_
            rw [HR2.out]
            exact ⟨Ax, cx', Bx, dx, rfl, RdN.set6 ⟨rw7, hsE⟩ hgE, RdN.set6 ⟨rb7, hsE⟩ hgE, bset6 (bthen hbE hb7) hwg _ _ _ _ _ _⟩
      | true =>
        have HW4 : Hid (r = if n < 9 then none else writtenA f (pw l 0) (pw l 1) (pw l 2) (l.drop 9)) := by (show _ = _); rw [HW3.out, if_pos rfl]
        clear HW3
        have hs0 : 0 < s0 := by
          have h23 : f = 23 := to_many (by rw [HS.out])
          have hs := HS.out
          rw [h23] at hs
          have hs' : Shp.mk 125 0 121 true false = ⟨s0, s1, s2, true, s4⟩ := hs
          injection hs' with z0
          omega
        have v5 : (0 : Int) < (s0 : Int) := by omega
        go_upto_region 10 with fail
        go_region
        go_upto_region 11 with fail
        have hb6 := (hb5.setCell (p := ⟨g2, 2, none⟩) hwg2 (.int .u16 (p1 : Int))).drew
        have bx6 : Blk (w5.setCell ⟨g2, 2, none⟩ (.int .u16 (p1 : Int))).drew g2 41 #[.int .u8 (f : Int), .int .u16 (p0 : Int), .int .u16 (p1 : Int), .int .u16 0, .slice none 0 0, .slice none 0 0] := (bx5.set_ 2 _).drew
        have bz6 := (bz5.far (p := ⟨g2, 2, none⟩) hgg2 (.int .u16 (p1 : Int))).drew
        have by6 := (by5.far (p := ⟨g2, 2, none⟩) hg1g2 (.int .u16 (p1 : Int))).drew
        have o6 := (o5.setBlk bx5 (by decide) 2 (.int .u16 (p1 : Int))).drew
        generalize (w5.setCell ⟨g2, 2, none⟩ (.int .u16 (p1 : Int))).drew = w6 at *
        clear d0 d1 d2 d3 d4 d5 e0 e1 e2 e3 e4 k1 pz2
        obtain ⟨d0, d1, d2, d3, d4, d5⟩ := bx6.c6
        obtain ⟨e0, e1, e2, e3, e4⟩ := by6.c5
        by_cases h9 : n < 9
        · have HR : Hid (r = none) := by (show _ = _); rw [HW4.out, if_pos h9]
          obtain ⟨z0, z1, z2, z3, z4, z5⟩ := bz6.c6
          have q0 := bz6.frozen 0
          have q1 := bz6.frozen 1
          have q2 := bz6.frozen 2
          have q3 := bz6.frozen 3
          have q4 := bz6.frozen 4
          have q5 := bz6.frozen 5
          have v9 : ((n - 5 : Nat) : Int) < 4 := by omega
          go_wp2_with fail
          refine bodyPost_ret (v := .tuple #[.agg #[.int .u8 0, .int .u16 0, .int .u16 0, .int .u16 0, .slice none 0 0, .slice none 0 0], .bool false]) (by simp [results, Try.results78, go_sem, z0, z1, z2, z3, z4, z5]) rfl ?_
          rw [HR.out]
          exact ⟨rfl, bset6 hb6 hwg _ _ _ _ _ _⟩
        · have v9 : ¬ (((n - 5 : Nat) : Int) < 4) := by omega
          obtain ⟨⟨u1, hu1, k2⟩, -, -, -⟩ := o6.at_ (j := 2) (by rw [ws_length, HL.out]; omega)
          rw [pw_at (i := 2) (by rw [HL.out]; omega)] at hu1
          injection hu1 with hu1
          obtain ⟨p2, hp2⟩ : ∃ p, pw l 2 = p := ⟨_, rfl⟩
          have HP2 := Lib.hid hp2
          rw [hp2] at hu1
          rw [← hu1] at k2
          clear hu1 hp2
          have hk2' : (2 : Int) < (k : Int) := by omega
          have pz3 := bx6.frozen 3
          have HL5 : Hid ((l.drop 5).length = n - 5) := by (show _ = _); rw [List.length_drop, HN.out]
          obtain ⟨A9, hsl9', rd9⟩ := slice_from_b (c := c - 5) rd5 HL5.out (by omega) 4 (by omega)
          have hsl9 : ∀ W, (Instr.slice 29 (.slice A5 (n - 5) (c - 5)) (some (.int .i64 4)) none none).run Try.prog W = .ok (.slice A9 (n - 5 - 4) (c - 5 - 4)) W := hsl9'
          clear hsl9'
          rw [List.drop_drop] at rd9
          have HR : Hid (r = writtenA f (pw l 0) p1 p2 (l.drop 9)) := by (show _ = _); rw [HW4.out, if_neg h9, HP1.out, HP2.out]
          go_upto_region 14 with fail
          go_region
          go_upto_region 15 with fail
          have hbE := (hb6.setCell (p := ⟨g2, 3, none⟩) hwg2 (.int .u16 (p2 : Int))).drew
          have bxE : Blk (w6.setCell ⟨g2, 3, none⟩ (.int .u16 (p2 : Int))).drew g2 41 #[.int .u8 (f : Int), .int .u16 (p0 : Int), .int .u16 (p1 : Int), .int .u16 (p2 : Int), .slice none 0 0, .slice none 0 0] := (bx6.set_ 3 _).drew
          have bzE := (bz6.far (p := ⟨g2, 3, none⟩) hgg2 (.int .u16 (p2 : Int))).drew
          have byE := (by6.far (p := ⟨g2, 3, none⟩) hg1g2 (.int .u16 (p2 : Int))).drew
          generalize (w6.setCell ⟨g2, 3, none⟩ (.int .u16 (p2 : Int))).drew = w7' at *
          clear d0 d1 d2 d3 d4 d5 e0 e1 e2 e3 e4 k2 pz3
          obtain ⟨d0, d1, d2, d3, d4, d5⟩ := bxE.c6
          obtain ⟨e0, e1, e2, e3, e4⟩ := byE.c5
          have rdE : Rd w7' A9 (bs (l.drop 9)) := rd9.below hbE
          have HLE : Hid ((l.drop 9).length = n - 5 - 4) := by (show _ = _); rw [List.length_drop, HN.out]; omega
          obtain ⟨rr, hrr⟩ : ∃ rr, writtenA f p0 p1 p2 (l.drop 9) = rr := ⟨_, rfl⟩
          have E3 := Lib.hid (ask_written f p0 p1 p2 A9 (n - 5 - 4) (c - 5 - 4) (l.drop 9) w7' hf hp1b rdE HLE.out (hl.drop _) (by omega) (by omega))
          rw [hrr, HS.out] at E3
          unfold akV Shp.val at E3
          simp only at E3
          have HR2 : Hid (r = rr) := by (show _ = _); rw [HR.out, HP0.out, hrr]
          clear hrr HR
          go_wp2_with fail
          refine E3.out.mono ?_
          rintro e w7 hT
          cases rr with
          | none =>
            obtain ⟨he, hb7⟩ := hT
            rw [show Ak.zero.v none 0 none 0 = .agg #[.int .u8 0, .int .u16 0, .int .u16 0, .int .u16 0, .slice none 0 0, .slice none 0 0] from rfl] at he
            subst he
            have bz7 := bzE.all hb7
            obtain ⟨z0, z1, z2, z3, z4, z5⟩ := bz7.c6
            have q0 := bz7.frozen 0
            have q1 := bz7.frozen 1
            have q2 := bz7.frozen 2
            have q3 := bz7.frozen 3
            have q4 := bz7.frozen 4
            have q5 := bz7.frozen 5
            go_wp2_with fail
            refine bodyPost_ret (v := .tuple #[.agg #[.int .u8 0, .int .u16 0, .int .u16 0, .int .u16 0, .slice none 0 0, .slice none 0 0], .bool false]) (by simp [results, Try.results78, go_sem, z0, z1, z2, z3, z4, z5]) rfl ?_
            rw [HR2.out]
            exact ⟨rfl, bset6 (bthen hbE hb7) hwg _ _ _ _ _ _⟩
          | some a =>
            obtain ⟨Ax, cx', Bx, dx, he, rw7, rb7, hb7⟩ := hT
            rw [show a.v Ax cx' Bx dx = .agg #[.int .u8 (a.fn : Int), .int .u16 (a.at_ : Int), .int .u16 (a.many : Int), .int .u16 (a.to_ : Int), .slice Ax a.words.length cx', .slice Bx a.bits.length dx] from rfl] at he
            subst he
            have bz7 := bzE.all hb7
            have hgE : g < w7'.heap.size := bzE.lt
            have hsE : w.heap.size ≤ w7'.heap.size := hbE.size
            obtain ⟨z0, z1, z2, z3, z4, z5⟩ := bz7.c6
            have q0 := bz7.frozen 0
            have q1 := bz7.frozen 1
            have q2 := bz7.frozen 2
            have q3 := bz7.frozen 3
            have q4 := bz7.frozen 4
            have q5 := bz7.frozen 5
            go_wp2_with fail
            refine bodyPost_ret (v := .tuple #[.agg #[.int .u8 (a.fn : Int), .int .u16 (a.at_ : Int), .int .u16 (a.many : Int), .int .u16 (a.to_ : Int), .slice Ax a.words.length cx', .slice Bx a.bits.length dx], .bool true]) (by simp [results, Try.results78, go_sem, z0, z1, z2, z3, z4, z5]) rfl ?_
            rw [HR2.out]
            exact ⟨Ax, cx', Bx, dx, rfl, RdN.set6 ⟨rw7, hsE⟩ hgE, RdN.set6 ⟨rb7, hsE⟩ hgE, bset6 (bthen hbE hb7) hwg _ _ _ _ _ _⟩
end Go.Proofs.Ytechhidfgheejaa
