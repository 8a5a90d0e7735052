/- The walk of server.answer (written by gen_mdq.py). -/
import Derived.Test.YtechhidfgheejaaMdK
import Derived.BigQuiet
namespace Go.Proofs.Ytechhidfgheejaa
open Go.RowKit
set_option linter.unusedSimpArgs false
set_option linter.unusedVariables false

/-- how long the table is that a function reads -/
def Mm.lenR (m : Mm) (f : Nat) : Nat := if readsP f = 1 then m.coils.length else if readsP f = 2 then m.inputs.length else if readsP f = 3 then m.holding.length else m.words.length
theorem len_bitsAt {c : List Bool} {t n : Nat} (h : t + n ≤ c.length) : (bitsAt c t n).length = eights n := by
  unfold bitsAt eights
  rw [List.length_append, List.length_take, List.length_drop, List.length_replicate]
  omega
theorem len_wordsAt {c : List Nat} {t n : Nat} (h : t + n ≤ c.length) : (wordsAt c t n).length = n := by
  unfold wordsAt
  rw [List.length_take, List.length_drop]
  omega
set_option maxRecDepth 100000 in
set_option maxHeartbeats 8000000 in
theorem md_answer (s : Sp) (q : Q8) (m : Mm) (p : Q8) (a : Ak) (A : Option Addr) (c : Nat) (B : Option Addr) (d : Nat) (w : World) (hM : MmR w m p.A1 p.A2 p.A3 p.A4) (hcap : m.cap p.c1 p.c2 p.c3 p.c4) (hmf : m.few 100000) (hok : a.ok) (hr : readsP a.fn ≠ 0) (hfit : a.at_ + a.many ≤ m.lenR a.fn) :
    Calls Try.prog 71 #[srvV s q ⟨p.A1, m.coils.length, p.c1⟩ ⟨p.A2, m.inputs.length, p.c2⟩ ⟨p.A3, m.holding.length, p.c3⟩ ⟨p.A4, m.words.length, p.c4⟩, .int .i64 (readsP a.fn : Nat), a.v A c B d] w fun e w' => ∃ A' c' B' d', e = .returned ((answerM m a).v A' c' B' d') ∧ RdN w.heap.size w' A' (ws (answerM m a).words) ∧ RdN w.heap.size w' B' (os (answerM m a).bits) ∧ (answerM m a).bits.length ≤ d' ∧ Below w.heap.size w w' := by
  have HAN : Hid (answerM m a = if readsP a.fn = 1 then ⟨a.fn, 0, bitsAt m.coils a.at_ a.many, [], 0, 0⟩
    else if readsP a.fn = 2 then ⟨a.fn, 0, bitsAt m.inputs a.at_ a.many, [], 0, 0⟩
    else if readsP a.fn = 3 then ⟨a.fn, 0, [], wordsAt m.holding a.at_ a.many, 0, 0⟩
    else if readsP a.fn = 4 then ⟨a.fn, 0, [], wordsAt m.words a.at_ a.many, 0, 0⟩ else ⟨a.fn, 0, [], [], 0, 0⟩) := rfl
  have HFIT : Hid (a.at_ + a.many ≤ if readsP a.fn = 1 then m.coils.length else if readsP a.fn = 2 then m.inputs.length else if readsP a.fn = 3 then m.holding.length else m.words.length) := hfit
  have hr4 := readsP_le a.fn
  obtain ⟨np, hnp⟩ : ∃ n, readsP a.fn = n := ⟨_, rfl⟩
  rw [hnp] at HAN HFIT hr hr4
  rw [hnp]
  clear hnp hfit
  obtain ⟨R, hR⟩ : ∃ r, answerM m a = r := ⟨_, rfl⟩
  rw [hR] at HAN
  rw [hR]
  clear hR
  have hfn := hok.fn
  have hat := hok.at_
  have hmn := hok.many
  have hq1 := hmf.coils
  have hq2 := hmf.inputs
  have hq3 := hmf.holding
  have hq4 := hmf.words
  simp only [Ak.v, akV, srvV]
  have hb := bx_space w (.cells #[.slice q.A1 s.coils.length q.c1, .slice p.A1 m.coils.length p.c1, .slice q.A2 s.inputs.length q.c2, .slice p.A2 m.inputs.length p.c2, .slice q.A3 s.holding.length q.c3, .slice p.A3 m.holding.length p.c3, .slice q.A4 s.words.length q.c4, .slice p.A4 m.words.length p.c4] 100) (.cells #[.int .u8 (a.fn : Int), .int .u16 (a.at_ : Int), .int .u16 (a.many : Int), .int .u16 (a.to_ : Int), .slice A a.words.length c, .slice B a.bits.length d] 41)
  have hb := hb.alloc hb.size (.cells #[.int .u8 0, .int .u8 0, .slice none 0 0, .slice none 0 0, .int .u16 0, .int .u16 0] 36)
  have bv := ((Blk.new w 100 #[.slice q.A1 s.coils.length q.c1, .slice p.A1 m.coils.length p.c1, .slice q.A2 s.inputs.length q.c2, .slice p.A2 m.inputs.length p.c2, .slice q.A3 s.holding.length q.c3, .slice p.A3 m.holding.length p.c3, .slice q.A4 s.words.length q.c4, .slice p.A4 m.words.length p.c4]).alloc (.cells #[.int .u8 (a.fn : Int), .int .u16 (a.at_ : Int), .int .u16 (a.many : Int), .int .u16 (a.to_ : Int), .slice A a.words.length c, .slice B a.bits.length d] 41)).alloc (.cells #[.int .u8 0, .int .u8 0, .slice none 0 0, .slice none 0 0, .int .u16 0, .int .u16 0] 36)
  have ba := (Blk.newAt (w.alloc (.cells #[.slice q.A1 s.coils.length q.c1, .slice p.A1 m.coils.length p.c1, .slice q.A2 s.inputs.length q.c2, .slice p.A2 m.inputs.length p.c2, .slice q.A3 s.holding.length q.c3, .slice p.A3 m.holding.length p.c3, .slice q.A4 s.words.length q.c4, .slice p.A4 m.words.length p.c4] 100)) 41 #[.int .u8 (a.fn : Int), .int .u16 (a.at_ : Int), .int .u16 (a.many : Int), .int .u16 (a.to_ : Int), .slice A a.words.length c, .slice B a.bits.length d] (w.heap.size + 1) (World.size_alloc _ _)).alloc (.cells #[.int .u8 0, .int .u8 0, .slice none 0 0, .slice none 0 0, .int .u16 0, .int .u16 0] 36)
  have bz := Blk.newAt ((w.alloc (.cells #[.slice q.A1 s.coils.length q.c1, .slice p.A1 m.coils.length p.c1, .slice q.A2 s.inputs.length q.c2, .slice p.A2 m.inputs.length p.c2, .slice q.A3 s.holding.length q.c3, .slice p.A3 m.holding.length p.c3, .slice q.A4 s.words.length q.c4, .slice p.A4 m.words.length p.c4] 100)).alloc (.cells #[.int .u8 (a.fn : Int), .int .u16 (a.at_ : Int), .int .u16 (a.many : Int), .int .u16 (a.to_ : Int), .slice A a.words.length c, .slice B a.bits.length d] 41)) 36 #[.int .u8 0, .int .u8 0, .slice none 0 0, .slice none 0 0, .int .u16 0, .int .u16 0] (w.heap.size + 1 + 1) (by simp [World.size_alloc])
  go_enter Try.func71, Try.ntmps71
  go_upto_region 1 with fail
  obtain ⟨g, hg⟩ : ∃ g, w.heap.size = g := ⟨_, rfl⟩
  obtain ⟨g1, hg1⟩ : ∃ g, w.heap.size + 1 = g := ⟨_, rfl⟩
  rw [hg1] at ba bz ⊢
  obtain ⟨g2, hg2⟩ : ∃ g, g1 + 1 = g := ⟨_, rfl⟩
  rw [hg2] at bz ⊢
  have hgw2 : w.heap.size ≤ g2 := by omega
  rw [hg] at bv ⊢
  generalize ((w.alloc (.cells #[.slice q.A1 s.coils.length q.c1, .slice p.A1 m.coils.length p.c1, .slice q.A2 s.inputs.length q.c2, .slice p.A2 m.inputs.length p.c2, .slice q.A3 s.holding.length q.c3, .slice p.A3 m.holding.length p.c3, .slice q.A4 s.words.length q.c4, .slice p.A4 m.words.length p.c4] 100)).alloc (.cells #[.int .u8 (a.fn : Int), .int .u16 (a.at_ : Int), .int .u16 (a.many : Int), .int .u16 (a.to_ : Int), .slice A a.words.length c, .slice B a.bits.length d] 41)).alloc (.cells #[.int .u8 0, .int .u8 0, .slice none 0 0, .slice none 0 0, .int .u16 0, .int .u16 0] 36) = w1 at *
  clear hg hg1 hg2
  replace hM := hM.below hb
  have hg2w : g2 < w1.heap.size := bz.lt
  obtain ⟨f0, f1, f2, f3, f4, f5⟩ := ba.c6
  go_upto_region 2 with fail
  have br := Blk.new w1 36 #[.int .u8 (a.fn : Int), .int .u8 0, .slice none 0 0, .slice none 0 0, .int .u16 0, .int .u16 0]
  have hs := (Below.refl w1.heap.size w1).alloc (Nat.le_refl _) (.cells #[.int .u8 (a.fn : Int), .int .u8 0, .slice none 0 0, .slice none 0 0, .int .u16 0, .int .u16 0] 36)
  generalize w1.alloc (.cells #[.int .u8 (a.fn : Int), .int .u8 0, .slice none 0 0, .slice none 0 0, .int .u16 0, .int .u16 0] 36) = w2 at *
  obtain ⟨gr, hgr⟩ : ∃ g, w1.heap.size = g := ⟨_, rfl⟩
  have hgr2 : g2 ≠ gr := by omega
  have hgrw : w.heap.size ≤ gr := by have := hb.size; omega
  clear f0 f1 f2 f3 f4 f5
  replace bv := bv.all hs
  replace ba := ba.all hs
  replace bz := bz.all hs
  replace hM := hM.below hs
  replace hb := bthen hb hs
  clear hs
  obtain ⟨f0, f1, f2, f3, f4, f5⟩ := ba.c6
  rw [hgr] at br ⊢
  clear hgr
  go_quiet (fail)
  have hs := below_drewN (Below.refl w2.heap.size w2) nq
  generalize w2.drewN nq = w3 at *
  clear f0 f1 f2 f3 f4 f5
  replace bv := bv.all hs
  replace ba := ba.all hs
  replace bz := bz.all hs
  replace hM := hM.below hs
  replace br := br.all hs
  replace hb := bthen hb hs
  clear hs
  obtain ⟨f0, f1, f2, f3, f4, f5⟩ := ba.c6
  clear f0 f1 f2 f3 f4 f5
  clear ba
  have v0 := bv.cell 0
  have v1 := bv.cell 1
  have v2 := bv.cell 2
  have v3 := bv.cell 3
  have v4 := bv.cell 4
  have v5 := bv.cell 5
  have v6 := bv.cell 6
  have v7 := bv.cell 7
  have hc : np = 1 ∨ np = 2 ∨ np = 3 ∨ np = 4 := by omega
  have hM3 := hM
  rcases hc with rfl | rfl | rfl | rfl
  · have HA2 : Hid (R = ⟨a.fn, 0, bitsAt m.coils a.at_ a.many, [], 0, 0⟩) := by (show _ = _); rw [HAN.out]; simp
    have hfit : a.at_ + a.many ≤ m.coils.length := by simpa using HFIT.out
    have HL := Lib.hid (len_bitsAt hfit)
    simp only [Int.cast_ofNat_Int, Int.natCast_one] at *
    have E := Lib.hid (fun W h => md_read_b (.slice q.A1 s.coils.length q.c1) p.A1 m.coils.length p.c1 m.coils a.at_ a.many W ⟨_, _, _, rfl⟩ h rfl hcap.coils hfit (by omega))
    clear HAN HFIT hfit
    obtain ⟨X, hX⟩ : ∃ X, bitsAt m.coils a.at_ a.many = X := ⟨_, rfl⟩
    rw [hX] at HA2 HL E
    obtain ⟨L, hL⟩ : ∃ L, eights a.many = L := ⟨_, rfl⟩
    rw [hL] at HL E
    clear hX hL
    go_wp2_with fail
    have br_lt : gr < w3.heap.size := br.lt
    have hb3 : w.heap.size ≤ w3.heap.size := hb.size
    have hg23 : g2 < w3.heap.size := bz.lt
    refine (E.out _ hM.coils).mono ?_
    rintro e w4 ⟨P, pc, rfl, oP, hs, hlc⟩
    clear v0 v1 v2 v3 v4 v5 v6 v7
    replace bv := bv.all hs
    replace bz := bz.all hs
    replace hM := hM.below hs
    replace br := br.all hs
    replace hb := bthen hb hs
    clear hs
    have v0 := bv.cell 0
    have v1 := bv.cell 1
    have v2 := bv.cell 2
    have v3 := bv.cell 3
    have v4 := bv.cell 4
    have v5 := bv.cell 5
    have v6 := bv.cell 6
    have v7 := bv.cell 7
    clear v0 v1 v2 v3 v4 v5 v6 v7
    obtain ⟨r0, r1, r2, r3, r4, r5⟩ := br.c6
    have rz0 := br.frozen 0
    have rz1 := br.frozen 1
    have rz2 := br.frozen 2
    have rz3 := br.frozen 3
    have rz4 := br.frozen 4
    have rz5 := br.frozen 5
    have bs5 := br.set_ 2 (.slice P L pc)
    simp only [List.setIfInBounds_toArray, List.set_cons_zero, List.set_cons_succ] at bs5
    obtain ⟨t0, t1, t2, t3, t4, t5⟩ := bs5.c6
    have bz5 := bz.far (p := ⟨gr, 2, none⟩) hgr2 (.slice P L pc)
    obtain ⟨z0, z1, z2, z3, z4, z5⟩ := bz5.c6
    have y0 := bz5.frozen 0
    have y1 := bz5.frozen 1
    have y2 := bz5.frozen 2
    have y3 := bz5.frozen 3
    have y4 := bz5.frozen 4
    have y5 := bz5.frozen 5
    have hb5 := bset1 hb hgrw 2 (.slice P L pc)
    have rP := oP.rdN.stored ⟨gr, 2, none⟩ (.slice P L pc) br_lt
    go_upto_region 12 with fail
    clear r0 r1 r2 r3 r4 r5 rz0 rz1 rz2 rz3 rz4 rz5
    generalize w4.setCell ⟨gr, 2, none⟩ (.slice P L pc) = w5 at *
    go_wp2_with fail
    refine bodyPost_ret (v := .agg #[.int .u8 (a.fn : Int), .int .u8 0, .slice P L pc, .slice none 0 0, .int .u16 0, .int .u16 0]) (by simp [results, Try.results71, go_sem, z0, z1, z2, z3, z4, z5]) rfl ?_
    refine ⟨none, 0, P, pc, ?_, ?_, ?_, ?_, bset6 hb5 hgw2 _ _ _ _ _ _⟩
    · rw [HA2.out]; simp only [Rp.v, rpV, List.length_nil]; rw [HL.out]; rfl
    · rw [HA2.out]; exact .inl rfl
    · rw [HA2.out]; exact RdN.set6 ⟨rP, hb3⟩ (by omega)
    · rw [HA2.out]; simp only; rw [HL.out]; exact hlc
  · have HA2 : Hid (R = ⟨a.fn, 0, bitsAt m.inputs a.at_ a.many, [], 0, 0⟩) := by (show _ = _); rw [HAN.out]; simp
    have hfit : a.at_ + a.many ≤ m.inputs.length := by simpa using HFIT.out
    have HL := Lib.hid (len_bitsAt hfit)
    simp only [Int.cast_ofNat_Int, Int.natCast_one] at *
    have E := Lib.hid (fun W h => md_read_b (.slice q.A2 s.inputs.length q.c2) p.A2 m.inputs.length p.c2 m.inputs a.at_ a.many W ⟨_, _, _, rfl⟩ h rfl hcap.inputs hfit (by omega))
    clear HAN HFIT hfit
    obtain ⟨X, hX⟩ : ∃ X, bitsAt m.inputs a.at_ a.many = X := ⟨_, rfl⟩
    rw [hX] at HA2 HL E
    obtain ⟨L, hL⟩ : ∃ L, eights a.many = L := ⟨_, rfl⟩
    rw [hL] at HL E
    clear hX hL
    go_wp2_with fail
    have br_lt : gr < w3.heap.size := br.lt
    have hb3 : w.heap.size ≤ w3.heap.size := hb.size
    have hg23 : g2 < w3.heap.size := bz.lt
    refine (E.out _ hM.inputs).mono ?_
    rintro e w4 ⟨P, pc, rfl, oP, hs, hlc⟩
    clear v0 v1 v2 v3 v4 v5 v6 v7
    replace bv := bv.all hs
    replace bz := bz.all hs
    replace hM := hM.below hs
    replace br := br.all hs
    replace hb := bthen hb hs
    clear hs
    have v0 := bv.cell 0
    have v1 := bv.cell 1
    have v2 := bv.cell 2
    have v3 := bv.cell 3
    have v4 := bv.cell 4
    have v5 := bv.cell 5
    have v6 := bv.cell 6
    have v7 := bv.cell 7
    clear v0 v1 v2 v3 v4 v5 v6 v7
    obtain ⟨r0, r1, r2, r3, r4, r5⟩ := br.c6
    have rz0 := br.frozen 0
    have rz1 := br.frozen 1
    have rz2 := br.frozen 2
    have rz3 := br.frozen 3
    have rz4 := br.frozen 4
    have rz5 := br.frozen 5
    have bs5 := br.set_ 2 (.slice P L pc)
    simp only [List.setIfInBounds_toArray, List.set_cons_zero, List.set_cons_succ] at bs5
    obtain ⟨t0, t1, t2, t3, t4, t5⟩ := bs5.c6
    have bz5 := bz.far (p := ⟨gr, 2, none⟩) hgr2 (.slice P L pc)
    obtain ⟨z0, z1, z2, z3, z4, z5⟩ := bz5.c6
    have y0 := bz5.frozen 0
    have y1 := bz5.frozen 1
    have y2 := bz5.frozen 2
    have y3 := bz5.frozen 3
    have y4 := bz5.frozen 4
    have y5 := bz5.frozen 5
    have hb5 := bset1 hb hgrw 2 (.slice P L pc)
    have rP := oP.rdN.stored ⟨gr, 2, none⟩ (.slice P L pc) br_lt
    go_upto_region 12 with fail
    clear r0 r1 r2 r3 r4 r5 rz0 rz1 rz2 rz3 rz4 rz5
    generalize w4.setCell ⟨gr, 2, none⟩ (.slice P L pc) = w5 at *
    go_wp2_with fail
    refine bodyPost_ret (v := .agg #[.int .u8 (a.fn : Int), .int .u8 0, .slice P L pc, .slice none 0 0, .int .u16 0, .int .u16 0]) (by simp [results, Try.results71, go_sem, z0, z1, z2, z3, z4, z5]) rfl ?_
    refine ⟨none, 0, P, pc, ?_, ?_, ?_, ?_, bset6 hb5 hgw2 _ _ _ _ _ _⟩
    · rw [HA2.out]; simp only [Rp.v, rpV, List.length_nil]; rw [HL.out]; rfl
    · rw [HA2.out]; exact .inl rfl
    · rw [HA2.out]; exact RdN.set6 ⟨rP, hb3⟩ (by omega)
    · rw [HA2.out]; simp only; rw [HL.out]; exact hlc
  · have HA2 : Hid (R = ⟨a.fn, 0, [], wordsAt m.holding a.at_ a.many, 0, 0⟩) := by (show _ = _); rw [HAN.out]; simp
    have hfit : a.at_ + a.many ≤ m.holding.length := by simpa using HFIT.out
    have HL := Lib.hid (len_wordsAt hfit)
    simp only [Int.cast_ofNat_Int, Int.natCast_one] at *
    have E := Lib.hid (fun W h => md_read_w (.slice q.A3 s.holding.length q.c3) p.A3 m.holding.length p.c3 m.holding a.at_ a.many W ⟨_, _, _, rfl⟩ h rfl hcap.holding hfit (by omega))
    clear HAN HFIT hfit
    obtain ⟨X, hX⟩ : ∃ X, wordsAt m.holding a.at_ a.many = X := ⟨_, rfl⟩
    rw [hX] at HA2 HL E
    clear hX
    go_wp2_with fail
    have br_lt : gr < w3.heap.size := br.lt
    have hb3 : w.heap.size ≤ w3.heap.size := hb.size
    have hg23 : g2 < w3.heap.size := bz.lt
    refine (E.out _ hM.holding).mono ?_
    rintro e w4 ⟨P, pc, rfl, oP, hs, hlc⟩
    clear v0 v1 v2 v3 v4 v5 v6 v7
    replace bv := bv.all hs
    replace bz := bz.all hs
    replace hM := hM.below hs
    replace br := br.all hs
    replace hb := bthen hb hs
    clear hs
    have v0 := bv.cell 0
    have v1 := bv.cell 1
    have v2 := bv.cell 2
    have v3 := bv.cell 3
    have v4 := bv.cell 4
    have v5 := bv.cell 5
    have v6 := bv.cell 6
    have v7 := bv.cell 7
    clear v0 v1 v2 v3 v4 v5 v6 v7
    obtain ⟨r0, r1, r2, r3, r4, r5⟩ := br.c6
    have rz0 := br.frozen 0
    have rz1 := br.frozen 1
    have rz2 := br.frozen 2
    have rz3 := br.frozen 3
    have rz4 := br.frozen 4
    have rz5 := br.frozen 5
    have bs5 := br.set_ 3 (.slice P a.many pc)
    simp only [List.setIfInBounds_toArray, List.set_cons_zero, List.set_cons_succ] at bs5
    obtain ⟨t0, t1, t2, t3, t4, t5⟩ := bs5.c6
    have bz5 := bz.far (p := ⟨gr, 3, none⟩) hgr2 (.slice P a.many pc)
    obtain ⟨z0, z1, z2, z3, z4, z5⟩ := bz5.c6
    have y0 := bz5.frozen 0
    have y1 := bz5.frozen 1
    have y2 := bz5.frozen 2
    have y3 := bz5.frozen 3
    have y4 := bz5.frozen 4
    have y5 := bz5.frozen 5
    have hb5 := bset1 hb hgrw 3 (.slice P a.many pc)
    have rP := oP.rdN.stored ⟨gr, 3, none⟩ (.slice P a.many pc) br_lt
    go_upto_region 12 with fail
    clear r0 r1 r2 r3 r4 r5 rz0 rz1 rz2 rz3 rz4 rz5
    generalize w4.setCell ⟨gr, 3, none⟩ (.slice P a.many pc) = w5 at *
    go_wp2_with fail
    refine bodyPost_ret (v := .agg #[.int .u8 (a.fn : Int), .int .u8 0, .slice none 0 0, .slice P a.many pc, .int .u16 0, .int .u16 0]) (by simp [results, Try.results71, go_sem, z0, z1, z2, z3, z4, z5]) rfl ?_
    refine ⟨P, pc, none, 0, ?_, ?_, ?_, ?_, bset6 hb5 hgw2 _ _ _ _ _ _⟩
    · rw [HA2.out]; simp only [Rp.v, rpV, List.length_nil]; rw [HL.out]; rfl
    · rw [HA2.out]; exact RdN.set6 ⟨rP, hb3⟩ (by omega)
    · rw [HA2.out]; exact .inl rfl
    · rw [HA2.out]; exact Nat.zero_le _
  · have HA2 : Hid (R = ⟨a.fn, 0, [], wordsAt m.words a.at_ a.many, 0, 0⟩) := by (show _ = _); rw [HAN.out]; simp
    have hfit : a.at_ + a.many ≤ m.words.length := by simpa using HFIT.out
    have HL := Lib.hid (len_wordsAt hfit)
    simp only [Int.cast_ofNat_Int, Int.natCast_one] at *
    have E := Lib.hid (fun W h => md_read_w (.slice q.A4 s.words.length q.c4) p.A4 m.words.length p.c4 m.words a.at_ a.many W ⟨_, _, _, rfl⟩ h rfl hcap.words hfit (by omega))
    clear HAN HFIT hfit
    obtain ⟨X, hX⟩ : ∃ X, wordsAt m.words a.at_ a.many = X := ⟨_, rfl⟩
    rw [hX] at HA2 HL E
    clear hX
    go_wp2_with fail
    have br_lt : gr < w3.heap.size := br.lt
    have hb3 : w.heap.size ≤ w3.heap.size := hb.size
    have hg23 : g2 < w3.heap.size := bz.lt
    refine (E.out _ hM.words).mono ?_
    rintro e w4 ⟨P, pc, rfl, oP, hs, hlc⟩
    clear v0 v1 v2 v3 v4 v5 v6 v7
    replace bv := bv.all hs
    replace bz := bz.all hs
    replace hM := hM.below hs
    replace br := br.all hs
    replace hb := bthen hb hs
    clear hs
    have v0 := bv.cell 0
    have v1 := bv.cell 1
    have v2 := bv.cell 2
    have v3 := bv.cell 3
    have v4 := bv.cell 4
    have v5 := bv.cell 5
    have v6 := bv.cell 6
    have v7 := bv.cell 7
    clear v0 v1 v2 v3 v4 v5 v6 v7
    obtain ⟨r0, r1, r2, r3, r4, r5⟩ := br.c6
    have rz0 := br.frozen 0
    have rz1 := br.frozen 1
    have rz2 := br.frozen 2
    have rz3 := br.frozen 3
    have rz4 := br.frozen 4
    have rz5 := br.frozen 5
    have bs5 := br.set_ 3 (.slice P a.many pc)
    simp only [List.setIfInBounds_toArray, List.set_cons_zero, List.set_cons_succ] at bs5
    obtain ⟨t0, t1, t2, t3, t4, t5⟩ := bs5.c6
    have bz5 := bz.far (p := ⟨gr, 3, none⟩) hgr2 (.slice P a.many pc)
    obtain ⟨z0, z1, z2, z3, z4, z5⟩ := bz5.c6
    have y0 := bz5.frozen 0
    have y1 := bz5.frozen 1
    have y2 := bz5.frozen 2
    have y3 := bz5.frozen 3
    have y4 := bz5.frozen 4
    have y5 := bz5.frozen 5
    have hb5 := bset1 hb hgrw 3 (.slice P a.many pc)
    have rP := oP.rdN.stored ⟨gr, 3, none⟩ (.slice P a.many pc) br_lt
    go_upto_region 12 with fail
    clear r0 r1 r2 r3 r4 r5 rz0 rz1 rz2 rz3 rz4 rz5
    generalize w4.setCell ⟨gr, 3, none⟩ (.slice P a.many pc) = w5 at *
    go_wp2_with fail
    refine bodyPost_ret (v := .agg #[.int .u8 (a.fn : Int), .int .u8 0, .slice none 0 0, .slice P a.many pc, .int .u16 0, .int .u16 0]) (by simp [results, Try.results71, go_sem, z0, z1, z2, z3, z4, z5]) rfl ?_
    refine ⟨P, pc, none, 0, ?_, ?_, ?_, ?_, bset6 hb5 hgw2 _ _ _ _ _ _⟩
    · rw [HA2.out]; simp only [Rp.v, rpV, List.length_nil]; rw [HL.out]; rfl
    · rw [HA2.out]; exact RdN.set6 ⟨rP, hb3⟩ (by omega)
    · rw [HA2.out]; exact .inl rfl
    · rw [HA2.out]; exact Nat.zero_le _
end Go.Proofs.Ytechhidfgheejaa
