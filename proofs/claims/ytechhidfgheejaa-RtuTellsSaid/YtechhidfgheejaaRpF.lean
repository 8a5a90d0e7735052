/- Replies and requests: reply.Echo, slices.Contains, reply.Fits (written by gen_rpf.py). -/
import Derived.Test.YtechhidfgheejaaRpE
import Derived.Test.YtechhidfgheejaaTyO
namespace Go.Proofs.Ytechhidfgheejaa
open Go.RowKit
set_option linter.unusedSimpArgs false
set_option linter.unusedVariables false

/-- the echo of a right request that writes alone -/
def echoA (a : Ak) : Option Rp :=
  if rightA a then
    (if a.fn = 5 then some ⟨5, 0, [a.bits.getD 0 false], [], a.at_, 0⟩ else if a.fn = 6 then some ⟨6, 0, [], [a.words.getD 0 0], a.at_, 0⟩
    else if a.fn = 15 ∨ a.fn = 16 then some ⟨a.fn, 0, [], [], a.at_, a.many⟩ else none)
  else none
/-- a reply and a word: in memory of its own, or none -/
def ToldQ (w : World) (r : Option Rp) (ok bad : Value) (e : Ending) (w' : World) : Prop :=
  match r with
  | none => e = .returned (.tuple #[Rp.zero.v none 0 none 0, bad]) ∧ Below w.heap.size w w'
  | some r => ∃ A c B d, e = .returned (.tuple #[r.v A c B d, ok]) ∧ RdN w.heap.size w' A (ws r.words) ∧ RdN w.heap.size w' B (os r.bits) ∧ Below w.heap.size w w'
theorem bset1 {B : Nat} {a w : World} {g : Nat} (h : Below B a w) (hg : B ≤ g) (i : Nat) (x : Value) : Below B a (w.setCell ⟨g, i, none⟩ x) := h.setCell (p := ⟨g, i, none⟩) hg x

set_option maxRecDepth 100000 in
set_option maxHeartbeats 4000000 in
theorem reply_Echo (a : Ak) (A : Option Addr) (c : Nat) (B : Option Addr) (d : Nat) (w : World) (hR : AkR w a A B) (hok : a.ok) (hw : a.words.length ≤ 1000000) (hk : a.bits.length ≤ 1000000) :
    Calls Try.prog 46 #[a.v A c B d] w fun e w' => ToldQ w (echoA a) (.bool true) (.bool false) e w' := by
  have HW : Hid (echoA a = if rightA a then (if a.fn = 5 then some ⟨5, 0, [a.bits.getD 0 false], [], a.at_, 0⟩ else if a.fn = 6 then some ⟨6, 0, [], [a.words.getD 0 0], a.at_, 0⟩ else if a.fn = 15 ∨ a.fn = 16 then some ⟨a.fn, 0, [], [], a.at_, a.many⟩ else none) else none) := rfl
  generalize echoA a = p at *
  have E1 := Lib.hid (fun W => ask_Right a.fn a.at_ a.many a.to_ A a.words.length c B a.bits.length d W hok.fn hok.many hok.to_ (by omega) (by omega))
  obtain ⟨rt, hrt⟩ : ∃ b, rightA a = b := ⟨_, rfl⟩
  rw [show rightN a.fn a.many a.to_ a.words.length a.bits.length = rt from hrt] at E1
  have HRT := Lib.hid hrt
  clear hrt
  simp only [Ak.v, akV] at E1 ⊢
  have hb := ((Below.refl w.heap.size w).alloc (Nat.le_refl _) (.cells #[.int .u8 (a.fn : Int), .int .u16 (a.at_ : Int), .int .u16 (a.many : Int), .int .u16 (a.to_ : Int), .slice A a.words.length c, .slice B a.bits.length d] 41)).alloc (by simp [World.size_alloc]) (.cells #[.int .u8 0, .int .u8 0, .slice none 0 0, .slice none 0 0, .int .u16 0, .int .u16 0] 36)
  have bx := (Blk.new w 41 #[.int .u8 (a.fn : Int), .int .u16 (a.at_ : Int), .int .u16 (a.many : Int), .int .u16 (a.to_ : Int), .slice A a.words.length c, .slice B a.bits.length d]).alloc (.cells #[.int .u8 0, .int .u8 0, .slice none 0 0, .slice none 0 0, .int .u16 0, .int .u16 0] 36)
  have bz := Blk.newAt (w.alloc (.cells #[.int .u8 (a.fn : Int), .int .u16 (a.at_ : Int), .int .u16 (a.many : Int), .int .u16 (a.to_ : Int), .slice A a.words.length c, .slice B a.bits.length d] 41)) 36 #[.int .u8 0, .int .u8 0, .slice none 0 0, .slice none 0 0, .int .u16 0, .int .u16 0] (w.heap.size + 1) (World.size_alloc _ _)
  go_enter Try.func46, Try.ntmps46
  go_upto_region 1 with fail
  generalize (w.alloc (.cells #[.int .u8 (a.fn : Int), .int .u16 (a.at_ : Int), .int .u16 (a.many : Int), .int .u16 (a.to_ : Int), .slice A a.words.length c, .slice B a.bits.length d] 41)).alloc (.cells #[.int .u8 0, .int .u8 0, .slice none 0 0, .slice none 0 0, .int .u16 0, .int .u16 0] 36) = w1 at *
  obtain ⟨g, hg⟩ : ∃ g, w.heap.size + 1 = g := ⟨_, rfl⟩
  have hwg : w.heap.size ≤ g := by omega
  rw [hg] at bz ⊢
  clear hg
  obtain ⟨g0, hg0⟩ : ∃ g, w.heap.size = g := ⟨_, rfl⟩
  rw [hg0] at bx ⊢
  clear hg0
  obtain ⟨d0, d1, d2, d3, d4, d5⟩ := bx.c6
  go_wp2_with fail
  refine (E1.out _).mono ?_
  rintro e w2 ⟨rfl, hs⟩
  have hg1 : g < w1.heap.size := bz.lt
  have hww : w.heap.size ≤ w1.heap.size := hb.size
  have hw12 := hs.size
  replace hb := bthen hb hs
  replace bx := bx.all hs
  replace bz := bz.all hs
  clear hs d0 d1 d2 d3 d4 d5
  obtain ⟨d0, d1, d2, d3, d4, d5⟩ := bx.c6
  cases rt with
  | false =>
    have HR : Hid (p = none) := by (show _ = _); rw [HW.out, HRT.out]; rfl
    obtain ⟨z0, z1, z2, z3, z4, z5⟩ := bz.c6
    have q0 := bz.frozen 0
    have q1 := bz.frozen 1
    have q2 := bz.frozen 2
    have q3 := bz.frozen 3
    have q4 := bz.frozen 4
    have q5 := bz.frozen 5
    go_wp2_with fail
    refine bodyPost_ret (v := .tuple #[.agg #[.int .u8 0, .int .u8 0, .slice none 0 0, .slice none 0 0, .int .u16 0, .int .u16 0], .bool false]) (by simp [results, Try.results46, go_sem, z0, z1, z2, z3, z4, z5]) rfl ?_
    rw [HR.out]
    exact ⟨rfl, bset6 hb hwg _ _ _ _ _ _⟩
  | true =>
  have HW2 : Hid (p = if a.fn = 5 then some ⟨5, 0, [a.bits.getD 0 false], [], a.at_, 0⟩ else if a.fn = 6 then some ⟨6, 0, [], [a.words.getD 0 0], a.at_, 0⟩ else if a.fn = 15 ∨ a.fn = 16 then some ⟨a.fn, 0, [], [], a.at_, a.many⟩ else none) := by (show _ = _); rw [HW.out, HRT.out]; rfl
  clear HW
  have be := Blk.new w2 36 #[.int .u8 (a.fn : Int), .int .u8 0, .slice none 0 0, .slice none 0 0, .int .u16 (a.at_ : Int), .int .u16 0]
  have hs := (Below.refl w2.heap.size w2).alloc (Nat.le_refl _) (.cells #[.int .u8 (a.fn : Int), .int .u8 0, .slice none 0 0, .slice none 0 0, .int .u16 (a.at_ : Int), .int .u16 0] 36)
  go_upto_region 4 with fail
  generalize w2.alloc (.cells #[.int .u8 (a.fn : Int), .int .u8 0, .slice none 0 0, .slice none 0 0, .int .u16 (a.at_ : Int), .int .u16 0] 36) = w3 at *
  obtain ⟨g3, hg3⟩ : ∃ g, w2.heap.size = g := ⟨_, rfl⟩
  have hgg3 : g ≠ g3 := by omega
  have hg3g : g3 ≠ g := by omega
  have hwg3 : w.heap.size ≤ g3 := by omega
  rw [hg3] at be ⊢
  replace hb := bthen hb hs
  replace bx := bx.all hs
  replace bz := bz.all hs
  have hw3 : w1.heap.size ≤ w3.heap.size := by have := hs.size; omega
  clear hs hg3 d0 d1 d2 d3 d4 d5
  obtain ⟨d0, d1, d2, d3, d4, d5⟩ := bx.c6
  obtain ⟨e0, e1, e2, e3, e4, e5⟩ := be.c6
  have f0 := be.frozen 0
  have f1 := be.frozen 1
  have f2 := be.frozen 2
  have f3 := be.frozen 3
  have f4 := be.frozen 4
  have f5 := be.frozen 5
  have hRT := HRT.out
  by_cases h5 : a.fn = 5
  · have hb1 : a.bits.length = 1 := by
      have h := hRT
      unfold rightA at h
      rw [h5] at h
      exact right5 h
    obtain ⟨x, hx⟩ := List.length_eq_one_iff.1 hb1
    have HR : Hid (p = some ⟨5, 0, [x], [], a.at_, 0⟩) := by (show _ = _); rw [HW2.out, if_pos h5, hx]; rfl
    have rb := hR.bits.below hb
    rw [hx] at rb
    obtain ⟨bb, off, x', rfl, hx', cx⟩ := rb.bit (k := 0) (by simp)
    rw [Nat.add_zero] at cx
    obtain rfl : x = x' := by simpa using hx'
    have t5 : ((a.fn : Int) == 5) = true := by simp [h5]
    have hn0 : 0 < a.bits.length := by omega
    have hn1 : (0 : Int) < (a.bits.length : Int) := by omega
    have hfn : (a.fn : Int) = 5 := by omega
    clear hx' hx hb1 rb hRT h5
    have hs4 := (Below.refl w3.heap.size w3).alloc (Nat.le_refl _) (.cells #[.bool x] 4)
    have be4 := be.all hs4
    obtain ⟨y0, y1, y2, y3, y4, y5⟩ := be4.c6
    have p0 := be4.frozen 0
    have p1 := be4.frozen 1
    have p2 := be4.frozen 2
    have p3 := be4.frozen 3
    have p4 := be4.frozen 4
    have p5 := be4.frozen 5
    have bz4 := bz.all hs4
    obtain ⟨v0, v1, v2, v3, v4, v5⟩ := bz4.c6
    have r0 := bz4.frozen 0
    have r1 := bz4.frozen 1
    have r2 := bz4.frozen 2
    have r3 := bz4.frozen 3
    have r4 := bz4.frozen 4
    have r5 := bz4.frozen 5
    have hb4 := hb.alloc hb.size (.cells #[.bool x] 4)
    go_wp2_with fail
    refine bodyPost_ret (v := .tuple #[.agg #[.int .u8 5, .int .u8 0, .slice (some ⟨w3.heap.size, 0, none⟩) 1 1, .slice none 0 0, .int .u16 (a.at_ : Int), .int .u16 0], .bool true]) (by simp [results, Try.results46, go_sem, y0, y1, y2, y3, y4, y5, v0, v1, v2, v3, v4, v5, hfn]) rfl ?_
    rw [HR.out]
    have rl := RdN.lit w3 w3.heap.size rfl 4 [.bool x]
    exact ⟨none, 0, _, 1, rfl, RdN.nil, RdN.set6 ⟨rl.stored ⟨g3, 2, none⟩ _ (by (show g3 < w3.heap.size); exact be.lt), by omega⟩ (by omega), bset6 (bset1 hb4 hwg3 2 _) hwg _ _ _ _ _ _⟩
  have t5 : ((a.fn : Int) == 5) = false := by simp; omega
  by_cases h6 : a.fn = 6
  · have hb1 : a.words.length = 1 := by
      have h := hRT
      unfold rightA at h
      rw [h6] at h
      exact right6 h
    obtain ⟨x, hx⟩ := List.length_eq_one_iff.1 hb1
    have HR : Hid (p = some ⟨6, 0, [], [x], a.at_, 0⟩) := by (show _ = _); rw [HW2.out, if_neg h5, if_pos h6, hx]; rfl
    have rb := hR.words.below hb
    rw [hx] at rb
    obtain ⟨bb, off, x', rfl, hx', cx⟩ := rb.word (k := 0) (by simp)
    rw [Nat.add_zero] at cx
    obtain rfl : x = x' := by simpa using hx'
    have t6 : ((a.fn : Int) == 6) = true := by simp [h6]
    have hn0 : 0 < a.words.length := by omega
    have hn1 : (0 : Int) < (a.words.length : Int) := by omega
    have hfn : (a.fn : Int) = 6 := by omega
    clear hx' hx hb1 rb hRT h5 h6
    have hs4 := (Below.refl w3.heap.size w3).alloc (Nat.le_refl _) (.cells #[.int .u16 (x : Int)] 34)
    have be4 := be.all hs4
    obtain ⟨y0, y1, y2, y3, y4, y5⟩ := be4.c6
    have p0 := be4.frozen 0
    have p1 := be4.frozen 1
    have p2 := be4.frozen 2
    have p3 := be4.frozen 3
    have p4 := be4.frozen 4
    have p5 := be4.frozen 5
    have bz4 := bz.all hs4
    obtain ⟨v0, v1, v2, v3, v4, v5⟩ := bz4.c6
    have r0 := bz4.frozen 0
    have r1 := bz4.frozen 1
    have r2 := bz4.frozen 2
    have r3 := bz4.frozen 3
    have r4 := bz4.frozen 4
    have r5 := bz4.frozen 5
    have hb4 := hb.alloc hb.size (.cells #[.int .u16 (x : Int)] 34)
    go_wp2_with fail
    refine bodyPost_ret (v := .tuple #[.agg #[.int .u8 6, .int .u8 0, .slice none 0 0, .slice (some ⟨w3.heap.size, 0, none⟩) 1 1, .int .u16 (a.at_ : Int), .int .u16 0], .bool true]) (by simp [results, Try.results46, go_sem, y0, y1, y2, y3, y4, y5, v0, v1, v2, v3, v4, v5, hfn]) rfl ?_
    rw [HR.out]
    have rl := RdN.lit w3 w3.heap.size rfl 34 [.int .u16 (x : Int)]
    exact ⟨_, 1, none, 0, rfl, RdN.set6 ⟨rl.stored ⟨g3, 3, none⟩ _ (by (show g3 < w3.heap.size); exact be.lt), by omega⟩ (by omega), RdN.nil, bset6 (bset1 hb4 hwg3 3 _) hwg _ _ _ _ _ _⟩
  have t6 : ((a.fn : Int) == 6) = false := by simp; omega
  by_cases h15 : a.fn = 15 ∨ a.fn = 16
  · have HR : Hid (p = some ⟨a.fn, 0, [], [], a.at_, a.many⟩) := by (show _ = _); rw [HW2.out, if_neg h5, if_neg h6, if_pos h15]
    have hc : ((a.fn : Int) == 15) = true ∨ (((a.fn : Int) == 15) = false ∧ ((a.fn : Int) == 16) = true) := by
      rcases h15 with h | h
      · left; simp [h]
      · right; simp [h]
    clear h5 h6 h15 hRT
    obtain ⟨z0, z1, z2, z3, z4, z5⟩ := bz.c6
    have q0 := bz.frozen 0
    have q1 := bz.frozen 1
    have q2 := bz.frozen 2
    have q3 := bz.frozen 3
    have q4 := bz.frozen 4
    have q5 := bz.frozen 5
    rcases hc with c1 | ⟨c1, c2⟩
    all_goals
      go_wp2_with fail
      refine bodyPost_ret (v := .tuple #[.agg #[.int .u8 (a.fn : Int), .int .u8 0, .slice none 0 0, .slice none 0 0, .int .u16 (a.at_ : Int), .int .u16 (a.many : Int)], .bool true]) (by simp [results, Try.results46, go_sem, e0, e1, e2, e3, e4, e5, z0, z1, z2, z3, z4, z5]) rfl ?_
      rw [HR.out]
      exact ⟨none, 0, none, 0, rfl, RdN.nil, RdN.nil, bset6 (bset1 hb hwg3 5 _) hwg _ _ _ _ _ _⟩
  have HR : Hid (p = none) := by (show _ = _); rw [HW2.out, if_neg h5, if_neg h6, if_neg h15]
  have t15 : ((a.fn : Int) == 15) = false := by simp; omega
  have t16 : ((a.fn : Int) == 16) = false := by simp; omega
  clear h5 h6 h15 hRT
  obtain ⟨z0, z1, z2, z3, z4, z5⟩ := bz.c6
  have q0 := bz.frozen 0
  have q1 := bz.frozen 1
  have q2 := bz.frozen 2
  have q3 := bz.frozen 3
  have q4 := bz.frozen 4
  have q5 := bz.frozen 5
  go_wp2_with fail
  refine bodyPost_ret (v := .tuple #[.agg #[.int .u8 0, .int .u8 0, .slice none 0 0, .slice none 0 0, .int .u16 0, .int .u16 0], .bool false]) (by simp [results, Try.results46, go_sem, z0, z1, z2, z3, z4, z5]) rfl ?_
  rw [HR.out]
  exact ⟨rfl, bset6 hb hwg _ _ _ _ _ _⟩
set_option maxHeartbeats 1000000 in
theorem index_true (A : Option Addr) (n c : Nat) (l : List Bool) (w : World) (hA : Rd w A (os l)) (hn : l.length = n) (hbig : n ≤ 1000000000) :
    Calls Try.prog 97 #[.slice A n c, .bool true] w fun e w' => ∃ i : Int, e = .returned (.int .i64 i) ∧ Hid (decide (0 ≤ i) = l.contains true) ∧ w = w' := by
  have HN := Lib.hid hn
  clear hn
  go_enter Try.func97, Try.ntmps97
  go_wp2_with fail
  go_loopw [8] (fun i wr => ∃ j : Nat, j ≤ n ∧ i = .int .i64 j ∧ Hid ((l.take j).contains true = false) ∧ w = wr) (fun i _ => n - (intOf i).toNat)
  case atStart => exact ⟨0, by omega, rfl, by (show _ = _); simp, rfl⟩
  case round =>
    obtain ⟨j, hj, rfl, HC, rfl⟩ := hrel
    by_cases hlt : j < n
    · obtain ⟨b, off, x, rfl, hx, cx⟩ := hA.bit (k := j) (by rw [HN.out]; exact hlt)
      have HT := Lib.hid (take_snoc hx)
      have HX := Lib.hid hx
      clear hx
      cases x with
      | true =>
        have HV : Hid (l.contains true = true) := by
          (show _ = _); rw [List.contains_iff_mem]; exact List.mem_of_getElem? HX.out
        go_wp2_with fail
        go_ret
        exact ⟨_, rfl, by (show _ = _); rw [HV.out]; simp, rfl⟩
      | false =>
        have HC2 : Hid ((l.take (j + 1)).contains true = false) := by
          (show _ = _); rw [HT.out]
          have := HC.out
          rw [List.contains_eq_mem] at this ⊢
          simp only [decide_eq_false_iff_not] at this ⊢
          intro hm
          rcases List.mem_append.1 hm with h | h
          · exact this h
          · simp at h
        go_wp2_with fail
        go_roundw
        case rel => exact ⟨j + 1, by omega, by go_num, HC2, by first | rfl | trivial⟩
        case measure => simp [intOf]; omega
    · obtain rfl : j = n := by omega
      go_wp2_with fail
      go_ret
      refine ⟨_, rfl, ?_, rfl⟩
      (show _ = _)
      have := HC.out
      rw [List.take_of_length_le (by rw [HN.out]; exact Nat.le_refl _)] at this
      rw [this]
      decide
set_option maxHeartbeats 1000000 in
theorem contains_true (A : Option Addr) (n c : Nat) (l : List Bool) (w : World) (hA : Rd w A (os l)) (hn : l.length = n) (hbig : n ≤ 1000000000) :
    Calls Try.prog 84 #[.slice A n c, .bool true] w fun e w' => e = .returned (.bool (l.contains true)) ∧ w = w' := by
  have E := Lib.hid (index_true A n c l w hA hn hbig)
  go_enter Try.func84, Try.ntmps84
  go_wp2_with fail
  refine E.out.mono ?_
  rintro e w2 ⟨i, rfl, HI, rfl⟩
  go_wp2_with fail
  go_ret
  exact ⟨ret_bool HI.out, rfl⟩
/-- does it, beside its function, if it is no exception? -/
def fitB (a : Ak) (r : Rp) : Option Rp → Bool
  | some e => sameR e r
  | none => if 0 < r.bits.length then decide (r.bits.length = (a.many + 7) / 8 * 8) && !(r.bits.drop a.many).contains true else decide (r.words.length = a.many)
/-- does a reply fit a request? -/
def fitsA (a : Ak) (r : Rp) : Bool :=
  rightA a && rightR r && decide (a.fn = r.fn) &&
    (if r.ex ≠ 0 then true else fitB a r (echoA a))
theorem echo_ok {a : Ak} {e : Rp} (hok : a.ok) (h : echoA a = some e) : e.ok ∧ e.words.length ≤ 1 ∧ e.bits.length ≤ 1 := by
  unfold echoA at h
  split at h
  · split at h
    · injection h with h; subst h; exact ⟨⟨by simp, by simp, (by intro x hx; cases hx), hok.at_, by simp⟩, by simp, by simp⟩
    · split at h
      · injection h with h; subst h
        refine ⟨⟨by simp, by simp, ?_, hok.at_, by simp⟩, by simp, by simp⟩
        intro x hx
        simp only [List.mem_singleton] at hx
        subst hx
        rw [List.getD_eq_getElem?_getD]
        rcases hq : a.words[0]? with _ | y
        · simp
        · exact hok.words.get hq
      · split at h
        · injection h with h; subst h; exact ⟨⟨hok.fn, by simp, (by intro x hx; cases hx), hok.at_, hok.many⟩, by simp, by simp⟩
        · cases h
  · cases h

set_option maxRecDepth 100000 in
set_option maxHeartbeats 4000000 in
theorem reply_Fits (a : Ak) (A : Option Addr) (c : Nat) (B : Option Addr) (d : Nat) (r : Rp) (A' : Option Addr) (c' : Nat) (B' : Option Addr) (d' : Nat) (w : World) (hR : AkR w a A B) (hok : a.ok) (hw : a.words.length ≤ 1000000) (hk : a.bits.length ≤ 1000000)
    (hR' : RpR w r A' B') (hok' : r.ok) (hw' : r.words.length ≤ 1000000) (hk' : r.bits.length ≤ 1000000) (hd' : echoA a = none → r.bits.length ≤ d') :
    Calls Try.prog 48 #[a.v A c B d, r.v A' c' B' d'] w fun e w' => e = .returned (.bool (fitsA a r)) ∧ Below w.heap.size w w' := by
  have HW : Hid (fitsA a r = (rightA a && rightR r && decide (a.fn = r.fn) && (if r.ex ≠ 0 then true else fitB a r (echoA a)))) := rfl
  generalize fitsA a r = p at *
  have E1 := Lib.hid (fun W => ask_Right a.fn a.at_ a.many a.to_ A a.words.length c B a.bits.length d W hok.fn hok.many hok.to_ (by omega) (by omega))
  have E2 := Lib.hid (fun W (h : RpR W r A' B') => reply_Right r A' c' B' d' W h hok' hw' hk')
  have E3 := Lib.hid (fun W (h : AkR W a A B) => reply_Echo a A c B d W h hok hw hk)
  obtain ⟨rt, hrt⟩ : ∃ b, rightA a = b := ⟨_, rfl⟩
  rw [show rightN a.fn a.many a.to_ a.words.length a.bits.length = rt from hrt] at E1
  obtain ⟨rr, hrr⟩ : ∃ b, rightR r = b := ⟨_, rfl⟩
  rw [hrr] at E2
  rw [hrt, hrr] at HW
  obtain ⟨x0, hx0⟩ : ∃ b, decide (a.fn = r.fn) = b := ⟨_, rfl⟩
  have t0 : ((a.fn : Int) != (r.fn : Int)) = !x0 := by rw [← hx0]; have := int_eqb a.fn r.fn; simp only [bne, this]
  rw [hx0] at HW
  obtain ⟨ec, hec⟩ : ∃ b, echoA a = b := ⟨_, rfl⟩
  rw [hec] at HW E3
  have HEC := Lib.hid hec
  have HRR := Lib.hid hrr
  clear hrt hrr hx0 hec
  simp only [Ak.v, akV, Rp.v, rpV] at E1 E2 E3 ⊢
  have hb := ((Below.refl w.heap.size w).alloc (Nat.le_refl _) (.cells #[.int .u8 (a.fn : Int), .int .u16 (a.at_ : Int), .int .u16 (a.many : Int), .int .u16 (a.to_ : Int), .slice A a.words.length c, .slice B a.bits.length d] 41)).alloc (by simp [World.size_alloc]) (.cells #[.int .u8 (r.fn : Int), .int .u8 (r.ex : Int), .slice B' r.bits.length d', .slice A' r.words.length c', .int .u16 (r.at_ : Int), .int .u16 (r.many : Int)] 36)
  have bx := (Blk.new w 41 #[.int .u8 (a.fn : Int), .int .u16 (a.at_ : Int), .int .u16 (a.many : Int), .int .u16 (a.to_ : Int), .slice A a.words.length c, .slice B a.bits.length d]).alloc (.cells #[.int .u8 (r.fn : Int), .int .u8 (r.ex : Int), .slice B' r.bits.length d', .slice A' r.words.length c', .int .u16 (r.at_ : Int), .int .u16 (r.many : Int)] 36)
  have bz := Blk.newAt (w.alloc (.cells #[.int .u8 (a.fn : Int), .int .u16 (a.at_ : Int), .int .u16 (a.many : Int), .int .u16 (a.to_ : Int), .slice A a.words.length c, .slice B a.bits.length d] 41)) 36 #[.int .u8 (r.fn : Int), .int .u8 (r.ex : Int), .slice B' r.bits.length d', .slice A' r.words.length c', .int .u16 (r.at_ : Int), .int .u16 (r.many : Int)] (w.heap.size + 1) (World.size_alloc _ _)
  go_enter Try.func48, Try.ntmps48
  go_upto_region 1 with fail
  generalize (w.alloc (.cells #[.int .u8 (a.fn : Int), .int .u16 (a.at_ : Int), .int .u16 (a.many : Int), .int .u16 (a.to_ : Int), .slice A a.words.length c, .slice B a.bits.length d] 41)).alloc (.cells #[.int .u8 (r.fn : Int), .int .u8 (r.ex : Int), .slice B' r.bits.length d', .slice A' r.words.length c', .int .u16 (r.at_ : Int), .int .u16 (r.many : Int)] 36) = w1 at *
  obtain ⟨g, hg⟩ : ∃ g, w.heap.size + 1 = g := ⟨_, rfl⟩
  rw [hg] at bz ⊢
  clear hg
  obtain ⟨g0, hg0⟩ : ∃ g, w.heap.size = g := ⟨_, rfl⟩
  rw [hg0] at bx ⊢
  clear hg0
  obtain ⟨d0, d1, d2, d3, d4, d5⟩ := bx.c6
  obtain ⟨z0, z1, z2, z3, z4, z5⟩ := bz.c6
  go_wp2_with fail
  refine (E1.out _).mono ?_
  rintro e w2 ⟨rfl, hs⟩
  clear d0 d1 d2 d3 d4 d5
  clear z0 z1 z2 z3 z4 z5
  replace bx := bx.all hs
  replace bz := bz.all hs
  replace hb := bthen hb hs
  clear hs
  obtain ⟨d0, d1, d2, d3, d4, d5⟩ := bx.c6
  obtain ⟨z0, z1, z2, z3, z4, z5⟩ := bz.c6
  cases rt with
  | false =>
    go_wp2_with fail
    go_ret
    exact ⟨ret_bool (by rw [HW.out]; rfl), hb⟩
  | true =>
  go_wp2_with fail
  refine (E2.out _ (hR'.below hb)).mono ?_
  rintro e w3 ⟨rfl, hs⟩
  clear d0 d1 d2 d3 d4 d5
  clear z0 z1 z2 z3 z4 z5
  replace bx := bx.all hs
  replace bz := bz.all hs
  replace hb := bthen hb hs
  clear hs
  obtain ⟨d0, d1, d2, d3, d4, d5⟩ := bx.c6
  obtain ⟨z0, z1, z2, z3, z4, z5⟩ := bz.c6
  cases rr with
  | false =>
    go_wp2_with fail
    go_ret
    exact ⟨ret_bool (by rw [HW.out]; rfl), hb⟩
  | true =>
  cases x0 with
  | false =>
    go_wp2_with fail
    go_ret
    exact ⟨ret_bool (by rw [HW.out]; rfl), hb⟩
  | true =>
  have HW2 : Hid (p = (if r.ex ≠ 0 then true else fitB a r ec)) := by (show _ = _); rw [HW.out]; rfl
  clear HW
  by_cases hx : r.ex = 0
  case neg =>
    have v0 : ((r.ex : Int) != 0) = true := by simp; omega
    have HR : Hid (p = true) := by (show _ = _); rw [HW2.out, if_pos hx]
    clear hx
    go_wp2_with fail
    go_ret
    exact ⟨ret_bool (by rw [HR.out]), hb⟩
  have v0 : ((r.ex : Int) != 0) = false := by simp [hx]
  have HW3 : Hid (p = fitB a r ec) := by (show _ = _); rw [HW2.out, if_neg (by simp [hx])]
  clear hx HW2
  go_wp2_with fail
  refine (E3.out _ (hR.below hb)).mono ?_
  rintro e w4 hT
  cases ec with
  | some e1 =>
    obtain ⟨Ae, ce, Be, de, he, rwe, rbe, hs⟩ := hT
    simp only [Rp.v, rpV] at he
    subst he
    obtain ⟨heok, he1, he2⟩ := echo_ok hok HEC.out
    clear d0 d1 d2 d3 d4 d5
    clear z0 z1 z2 z3 z4 z5
    replace bx := bx.all hs
    replace bz := bz.all hs
    replace hb := bthen hb hs
    clear hs
    obtain ⟨d0, d1, d2, d3, d4, d5⟩ := bx.c6
    obtain ⟨z0, z1, z2, z3, z4, z5⟩ := bz.c6
    go_upto_region 6 with fail
    have be := Blk.new w4 36 #[.int .u8 (e1.fn : Int), .int .u8 (e1.ex : Int), .slice Be e1.bits.length de, .slice Ae e1.words.length ce, .int .u16 (e1.at_ : Int), .int .u16 (e1.many : Int)]
    have hs := (Below.refl w4.heap.size w4).alloc (Nat.le_refl _) (.cells #[.int .u8 (e1.fn : Int), .int .u8 (e1.ex : Int), .slice Be e1.bits.length de, .slice Ae e1.words.length ce, .int .u16 (e1.at_ : Int), .int .u16 (e1.many : Int)] 36)
    generalize w4.alloc (.cells #[.int .u8 (e1.fn : Int), .int .u8 (e1.ex : Int), .slice Be e1.bits.length de, .slice Ae e1.words.length ce, .int .u16 (e1.at_ : Int), .int .u16 (e1.many : Int)] 36) = w5 at *
    obtain ⟨ge, hge⟩ : ∃ g, w4.heap.size = g := ⟨_, rfl⟩
    have gelt : w4.heap.size ≤ ge := by omega
    clear d0 d1 d2 d3 d4 d5
    clear z0 z1 z2 z3 z4 z5
    replace bx := bx.all hs
    replace bz := bz.all hs
    replace rwe := rwe.below hs
    replace rbe := rbe.below hs
    replace hb := bthen hb hs
    clear hs
    obtain ⟨d0, d1, d2, d3, d4, d5⟩ := bx.c6
    obtain ⟨z0, z1, z2, z3, z4, z5⟩ := bz.c6
    rw [hge] at be ⊢
    clear hge gelt
    have E4 := Lib.hid (fun W (h1 : RpR W e1 Ae Be) (h2 : RpR W r A' B') => reply_Same e1 r Ae ce Be de A' c' B' d' W h1 h2 (by omega) (by omega))
    unfold Rp.v rpV at E4
    obtain ⟨k0, k1, k2, k3, k4, k5⟩ := be.c6
    go_wp2_with fail
    refine (E4.out _ ⟨rwe.rd, rbe.rd⟩ (hR'.below hb)).mono ?_
    rintro e wz ⟨rfl, hs⟩
    go_wp2_with fail
    go_ret
    exact ⟨ret_bool (by rw [HW3.out]; rfl), bthen hb hs⟩
  | none =>
    obtain ⟨he, hs⟩ := hT
    rw [show Rp.zero.v none 0 none 0 = .agg #[.int .u8 0, .int .u8 0, .slice none 0 0, .slice none 0 0, .int .u16 0, .int .u16 0] from rfl] at he
    subst he
    clear d0 d1 d2 d3 d4 d5
    clear z0 z1 z2 z3 z4 z5
    replace bx := bx.all hs
    replace bz := bz.all hs
    replace hb := bthen hb hs
    clear hs
    obtain ⟨d0, d1, d2, d3, d4, d5⟩ := bx.c6
    obtain ⟨z0, z1, z2, z3, z4, z5⟩ := bz.c6
    replace hb := hb.alloc hb.size (.cells #[.int .u8 0, .int .u8 0, .slice none 0 0, .slice none 0 0, .int .u16 0, .int .u16 0] 36)
    replace bx := bx.alloc (.cells #[.int .u8 0, .int .u8 0, .slice none 0 0, .slice none 0 0, .int .u16 0, .int .u16 0] 36)
    replace bz := bz.alloc (.cells #[.int .u8 0, .int .u8 0, .slice none 0 0, .slice none 0 0, .int .u16 0, .int .u16 0] 36)
    go_upto_region 6 with fail
    generalize w4.alloc (.cells #[.int .u8 0, .int .u8 0, .slice none 0 0, .slice none 0 0, .int .u16 0, .int .u16 0] 36) = w5 at *
    clear d0 d1 d2 d3 d4 d5 z0 z1 z2 z3 z4 z5
    obtain ⟨d0, d1, d2, d3, d4, d5⟩ := bx.c6
    obtain ⟨z0, z1, z2, z3, z4, z5⟩ := bz.c6
    by_cases hb0 : 0 < r.bits.length
    · have HW4 : Hid (p = (decide (r.bits.length = (a.many + 7) / 8 * 8) && !(r.bits.drop a.many).contains true)) := by (show _ = _); rw [HW3.out]; simp only [fitB]; rw [if_pos hb0]
      have v1 : (0 : Int) < (r.bits.length : Int) := by omega
      have v1' : decide (0 < r.bits.length) = true := decide_eq_true hb0
      obtain ⟨m8, hm8⟩ : ∃ m, (a.many + 7) / 8 * 8 = m := ⟨_, rfl⟩
      have hm8i : ((a.many : Int) + 7) / 8 * 8 = (m8 : Int) := by omega
      have hm8l : a.many ≤ m8 := by omega
      have hmm := hok.many
      rw [hm8] at HW4
      obtain ⟨y, hy⟩ : ∃ y, decide (r.bits.length = m8) = y := ⟨_, rfl⟩
      have t1 : ((r.bits.length : Int) == (m8 : Int)) = y := by rw [← hy]; exact int_eqb _ _
      have HY := Lib.hid hy
      rw [hy] at HW4
      clear hy hm8
      cases y with
      | false =>
        clear hb0
        go_wp2_with fail
        go_ret
        exact ⟨ret_bool (by rw [HW4.out]; rfl), hb⟩
      | true =>
        have hlen : r.bits.length = m8 := of_decide_eq_true HY.out
        have hd' := hd' HEC.out
        obtain ⟨A9, hsl, rd9⟩ := slice_from_o (hR'.bits.below hb) rfl hd' a.many (by omega)
        rw [hlen] at hsl z2 v1 t1 v1' hb0
        have HL9 : Hid ((r.bits.drop a.many).length = m8 - a.many) := by (show _ = _); rw [List.length_drop, hlen]
        have E5 := Lib.hid (fun W (h : Rd W A9 (os (r.bits.drop a.many))) => contains_true A9 (m8 - a.many) (d' - a.many) (r.bits.drop a.many) W h HL9.out (by omega))
        have hmd : (a.many : Int) ≤ (d' : Int) := by omega
        have hmi : (a.many : Int) ≤ (m8 : Int) := by omega
        rw [hlen]
        clear hlen hb0
        go_wp2_with fail
        refine (E5.out _ rd9).mono ?_
        rintro e w6 ⟨rfl, rfl⟩
        go_wp2_with fail
        go_ret
        exact ⟨ret_bool (by rw [HW4.out]; simp), hb⟩
    · have HW4 : Hid (p = decide (r.words.length = a.many)) := by (show _ = _); rw [HW3.out]; simp only [fitB]; rw [if_neg hb0]
      have hz : r.bits.length = 0 := by omega
      have hmm := hok.many
      have v1' : decide (0 < r.bits.length) = false := decide_eq_false hb0
      have v1 : ¬ (0 : Int) < (r.bits.length : Int) := by omega
      have t1 := int_eqb r.words.length a.many
      obtain ⟨y, hy⟩ : ∃ y, decide (r.words.length = a.many) = y := ⟨_, rfl⟩
      rw [hy] at HW4 t1
      clear hy hb0 hz
      go_wp2_with fail
      go_ret
      exact ⟨ret_bool (by rw [HW4.out]), hb⟩
end Go.Proofs.Ytechhidfgheejaa
