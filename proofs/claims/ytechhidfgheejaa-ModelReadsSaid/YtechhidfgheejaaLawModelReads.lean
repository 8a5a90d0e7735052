/- The plain law of reads in two halves; the walk of the law ModelReads (written by gen_mreads.py). -/
import Derived.Test.YtechhidfgheejaaMdLawB
namespace Go.Proofs.Ytechhidfgheejaa
open Go.RowKit
set_option linter.unusedSimpArgs false
set_option linter.unusedVariables false

theorem slice_to_o {w : World} {A : Option Addr} {n c : Nat} {l : List Bool} (h : Rd w A (os l)) (hn : l.length = n) (hc : n ≤ c) (k : Nat) (hk : k ≤ n) :
    ∃ A', (∀ W, (Instr.slice 25 (.slice A n c) none (some (.int .u16 (k : Int))) none).run Try.prog W = .ok (.slice A' k c) W) ∧ Rd w A' (os (l.take k)) := by
  obtain ⟨A', e, r⟩ := h.sliced 0 k c (by omega) (by rw [os_length]; omega) (by rw [os_length]; omega)
  refine ⟨A', fun W => ?_, ?_⟩
  · rw [run_slice_h W 25 A n c (by kernel_rfl) .u16 k (by omega) (by omega), size_o]
    simp only [Result.andThen_ok, Int.toNat_natCast, e, Nat.sub_zero]
  · rw [os_take]; simpa using r
theorem wrap16 {x : Int} (h0 : 0 ≤ x) (h1 : x < 65536) : IntKind.u16.wrap x = x := by rw [IntKind.wrap_u16]; omega
def rdAk (f t c : Nat) : Ak := ⟨f, t, c, 0, [], []⟩
theorem right_rd {f t c : Nat} (hf : f = 1 ∨ f = 2 ∨ f = 3 ∨ f = 4) : rightA (rdAk f t c) = decide (1 ≤ c ∧ c ≤ if f ≤ 2 then 2000 else 125) := by
  rcases hf with rfl | rfl | rfl | rfl <;> simp [rdAk, rightA, rightN, isFn, shp, wtn]
theorem write_rd {f t c : Nat} (hf : f = 1 ∨ f = 2 ∨ f = 3 ∨ f = 4) (s : Sp) (m : Mm) : writeBad s (rdAk f t c) = false ∧ writtenM m (rdAk f t c) = m ∧ echoA (rdAk f t c) = none := by
  refine ⟨?_, ?_, ?_⟩
  · rcases hf with rfl | rfl | rfl | rfl <;> rfl
  · rcases hf with rfl | rfl | rfl | rfl <;> rfl
  · unfold echoA; split
    · rcases hf with rfl | rfl | rfl | rfl <;> rfl
    · rfl
theorem doM_rd {f t c : Nat} (hf : f = 1 ∨ f = 2 ∨ f = 3 ∨ f = 4) (s : Sp) (m : Mm) : (doM s m (rdAk f t c)).1 = m := by
  by_cases h : (doM s m (rdAk f t c)).2.ex = 0
  · obtain ⟨-, -, h3⟩ := doM_ok h
    rw [h3]
    exact (write_rd hf s m).2.1
  · exact doM_bad h
theorem doM_rdp {f t c : Nat} (hf : f = 1 ∨ f = 2 ∨ f = 3 ∨ f = 4) (s : Sp) (m : Mm) : ∃ r, doM s m (rdAk f t c) = (m, r) := ⟨(doM s m (rdAk f t c)).2, Prod.ext (doM_rd hf s m) rfl⟩
theorem readable_halves {l : List Ar} {t k c : Nat} (hk : k ≤ c) (h : readableT l t c = true) : readableT l t k = true ∧ readableT l (t + k) (c - k) = true := by
  unfold readableT at h ⊢
  rw [eachA_iff] at h ⊢
  rw [eachA_iff]
  refine ⟨fun i hi => h i (by omega), fun i hi => ?_⟩
  have := h (k + i) (by omega)
  unfold goodAt at this ⊢
  have e : hasAt (t + k) i = hasAt t (k + i) := by funext x; unfold hasAt; rw [Nat.add_assoc]
  rw [e]
  exact this
theorem check_half {s : Sp} {f t c k : Nat} (hf : f = 1 ∨ f = 2 ∨ f = 3 ∨ f = 4) (h : checkN s (rdAk f t c) = 0) (h1 : 1 ≤ k) (h2 : k < c) : checkN s (rdAk f t k) = 0 ∧ checkN s (rdAk f (t + k) (c - k)) = 0 := by
  obtain ⟨c1, c2, c3⟩ := checkN_zero h
  rw [right_rd hf, decide_eq_true_eq] at c1
  have r1 : rightA (rdAk f t k) = true := by rw [right_rd hf, decide_eq_true_eq]; omega
  have r2 : rightA (rdAk f (t + k) (c - k)) = true := by rw [right_rd hf, decide_eq_true_eq]; omega
  have key : readBad s (rdAk f t k) = false ∧ readBad s (rdAk f (t + k) (c - k)) = false := by
    rcases hf with rfl | rfl | rfl | rfl
    all_goals
      simp [readBad, Sp.tab, readsP, rdAk] at c2 ⊢
      exact readable_halves (by omega) c2
  unfold checkN
  rw [r1, r2, key.1, key.2, (write_rd hf s ⟨[], [], [], []⟩).1, (write_rd hf s ⟨[], [], [], []⟩).1]
  exact ⟨rfl, rfl⟩
theorem words_halves (c : List Nat) (t k n : Nat) (hk : k ≤ n) : wordsAt c t k ++ wordsAt c (t + k) (n - k) = wordsAt c t n := by
  unfold wordsAt
  rw [← List.drop_drop, ← List.take_add]
  congr 1
  omega
theorem bits_front {c : List Bool} {t n : Nat} (h : t + n ≤ c.length) : (bitsAt c t n).take n = (c.drop t).take n := by
  unfold bitsAt
  rw [List.take_append_of_le_length (by rw [List.length_take, List.length_drop]; omega), List.take_take, Nat.min_self]
theorem bits_halves {c : List Bool} {t k n : Nat} (hk : k ≤ n) (h : t + n ≤ c.length) : (bitsAt c t k).take k ++ (bitsAt c (t + k) (n - k)).take (n - k) = (bitsAt c t n).take n := by
  rw [bits_front (by omega), bits_front (by omega), bits_front h, ← List.drop_drop, ← List.take_add]
  congr 1
  omega
theorem reads_law {f t c k : Nat} (hf : f = 1 ∨ f = 2 ∨ f = 3 ∨ f = 4) (s : Sp) (m : Mm) {r x y : Rp} (e1 : doM s m (rdAk f t c) = (m, r)) (e2 : doM s m (rdAk f t k) = (m, x)) (e3 : doM s m (rdAk f (t + k) (c - k)) = (m, y)) (hr : r.ex = 0) (h1 : 1 ≤ k) (h2 : k < c) :
    x.ex = 0 ∧ y.ex = 0 ∧ t + c ≤ 65536 ∧ (2 < f → x.words ++ y.words = r.words) ∧ (f ≤ 2 → k ≤ x.bits.length ∧ c - k ≤ y.bits.length ∧ c ≤ r.bits.length ∧ x.bits.take k ++ y.bits.take (c - k) = r.bits.take c) := by
  obtain ⟨z1, z2, z3⟩ := doM_ok (s := s) (m := m) (a := rdAk f t c) (by rw [e1]; exact hr)
  obtain ⟨k1, k2⟩ := check_half hf z1 h1 h2
  have hx : x.ex = 0 := by have := doM_ex s m (rdAk f t k); rw [e2, k1, z2] at this; exact this
  have hy : y.ex = 0 := by have := doM_ex s m (rdAk f (t + k) (c - k)); rw [e3, k2, z2] at this; exact this
  obtain ⟨-, -, z5⟩ := doM_ok (s := s) (m := m) (a := rdAk f t k) (by rw [e2]; exact hx)
  obtain ⟨-, -, z6⟩ := doM_ok (s := s) (m := m) (a := rdAk f (t + k) (c - k)) (by rw [e3]; exact hy)
  rw [e1, (write_rd hf s m).2.1, (write_rd hf s m).2.2] at z3
  rw [e2, (write_rd hf s m).2.1, (write_rd hf s m).2.2] at z5
  rw [e3, (write_rd hf s m).2.1, (write_rd hf s m).2.2] at z6
  injection z3 with _ z3
  injection z5 with _ z5
  injection z6 with _ z6
  obtain ⟨c1, c2, c3⟩ := checkN_zero z1
  have h0 : readsP (rdAk f t c).fn ≠ 0 := (right_uses c1).2.2.2.2.2.1 (write_rd hf s m).2.2
  have hfit : t + c ≤ m.lenR f := readBad_fit c1 z2 c2 h0
  have hlen : m.lenR f ≤ 65536 := by
    unfold rightSM at z2
    simp only [Bool.and_eq_true] at z2
    obtain ⟨⟨⟨s1, s2⟩, s3⟩, s4⟩ := z2
    have := (rightT_mem s1).1
    have := (rightT_mem s2).1
    have := (rightT_mem s3).1
    have := (rightT_mem s4).1
    unfold Mm.lenR
    repeat' split
    all_goals assumption
  refine ⟨hx, hy, by omega, fun h => ?_, fun h => ?_⟩
  · rw [z3, z5, z6]
    rcases hf with rfl | rfl | rfl | rfl
    · omega
    · omega
    · exact words_halves m.holding t k c (by omega)
    · exact words_halves m.words t k c (by omega)
  · rw [z3, z5, z6]
    have e8 : ∀ n, n ≤ eights n := fun n => by unfold eights; omega
    rcases hf with rfl | rfl | rfl | rfl
    · have hc : t + c ≤ m.coils.length := hfit
      refine ⟨?_, ?_, ?_, bits_halves (c := m.coils) (by omega) hc⟩
      · show k ≤ (bitsAt m.coils t k).length; rw [len_bitsAt (by omega)]; exact e8 k
      · show c - k ≤ (bitsAt m.coils (t + k) (c - k)).length; rw [len_bitsAt (by omega)]; exact e8 _
      · show c ≤ (bitsAt m.coils t c).length; rw [len_bitsAt hc]; exact e8 c
    · have hc : t + c ≤ m.inputs.length := hfit
      refine ⟨?_, ?_, ?_, bits_halves (c := m.inputs) (by omega) hc⟩
      · show k ≤ (bitsAt m.inputs t k).length; rw [len_bitsAt (by omega)]; exact e8 k
      · show c - k ≤ (bitsAt m.inputs (t + k) (c - k)).length; rw [len_bitsAt (by omega)]; exact e8 _
      · show c ≤ (bitsAt m.inputs t c).length; rw [len_bitsAt hc]; exact e8 c
    · omega
    · omega
theorem doM_bitsle {f t c : Nat} (hf : f = 1 ∨ f = 2 ∨ f = 3 ∨ f = 4) (s : Sp) (m : Mm) (hm : m.few 300) : (doM s m (rdAk f t c)).2.bits.length ≤ 1000 := by
  by_cases hx : (doM s m (rdAk f t c)).2.ex = 0
  · obtain ⟨z1, z2, h3⟩ := doM_ok hx
    obtain ⟨c1, c2, c3⟩ := checkN_zero z1
    have h0 : readsP (rdAk f t c).fn ≠ 0 := (right_uses c1).2.2.2.2.2.1 (write_rd hf s m).2.2
    have hfit : t + c ≤ m.lenR f := readBad_fit c1 z2 c2 h0
    rw [h3, (write_rd hf s m).2.1, (write_rd hf s m).2.2]
    have q1 := hm.coils
    have q2 := hm.inputs
    rcases hf with rfl | rfl | rfl | rfl
    · have hc : t + c ≤ m.coils.length := hfit
      show (bitsAt m.coils t c).length ≤ 1000; rw [len_bitsAt hc]; unfold eights; omega
    · have hc : t + c ≤ m.inputs.length := hfit
      show (bitsAt m.inputs t c).length ≤ 1000; rw [len_bitsAt hc]; unfold eights; omega
    · exact Nat.zero_le _
    · exact Nat.zero_le _
  · unfold doM
    split
    · exact Nat.zero_le _
    split
    · exact Nat.zero_le _
    · rename_i h1 h2
      exfalso; apply hx; rw [doM_ex, if_neg h1, if_neg h2]

set_option maxRecDepth 100000 in
set_option maxHeartbeats 4000000 in
theorem ModelReads_walk (s : Sp) (q : Q8) (m : Mm) (p : Q8) (f t c : Nat) (w : World) (hS : SpR w s q) (hsk : s.ok) (hsf : s.few 140737488355328) (hM : MmR w m p.A1 p.A2 p.A3 p.A4) (hmk : m.ok) (hcap : m.cap p.c1 p.c2 p.c3 p.c4) (hf : f < 256) (ht : t < 65536) (hc : c < 65536) :
    Calls Try.prog 5 #[s.v q, m.v p.A1 p.c1 p.A2 p.c2 p.A3 p.c3 p.A4 p.c4, .int .u8 (f : Int), .int .u16 (t : Int), .int .u16 (c : Int)] w fun e w' => e = .returned (.bool true) ∧ Below w.heap.size w w' := by
  have EL := Lib.hid (fun W => law07_Light s q m p W hsf)
  obtain ⟨lt, hlt⟩ : ∃ b, lightN s m = b := ⟨_, rfl⟩
  rw [hlt] at EL
  have HLF : Hid (lt = true → s.few 40 ∧ m.few 300) := fun h => light_few (hlt.trans h)
  obtain ⟨fn, hfn⟩ : ∃ x, 1 + f % 4 = x := ⟨_, rfl⟩
  have hfi : (1 : Int) + (f : Int) % 4 = (fn : Int) := by omega
  have hf4 : fn = 1 ∨ fn = 2 ∨ fn = 3 ∨ fn = 4 := by omega
  have hf5 : fn < 256 := by omega
  simp only [Sp.v, Mm.v] at EL ⊢
  clear hlt hfn
  have hb := ((Below.refl w.heap.size w).alloc (Nat.le_refl _) (.cells #[.slice q.A1 s.coils.length q.c1, .slice q.A2 s.inputs.length q.c2, .slice q.A3 s.holding.length q.c3, .slice q.A4 s.words.length q.c4] 24)).alloc (by simp) (.cells #[.slice p.A1 m.coils.length p.c1, .slice p.A2 m.inputs.length p.c2, .slice p.A3 m.holding.length p.c3, .slice p.A4 m.words.length p.c4] 28)
  have bsp := (Blk.newAt w 24 #[.slice q.A1 s.coils.length q.c1, .slice q.A2 s.inputs.length q.c2, .slice q.A3 s.holding.length q.c3, .slice q.A4 s.words.length q.c4] (w.heap.size) rfl).alloc (.cells #[.slice p.A1 m.coils.length p.c1, .slice p.A2 m.inputs.length p.c2, .slice p.A3 m.holding.length p.c3, .slice p.A4 m.words.length p.c4] 28)
  have bm := Blk.newAt (w.alloc (.cells #[.slice q.A1 s.coils.length q.c1, .slice q.A2 s.inputs.length q.c2, .slice q.A3 s.holding.length q.c3, .slice q.A4 s.words.length q.c4] 24)) 28 #[.slice p.A1 m.coils.length p.c1, .slice p.A2 m.inputs.length p.c2, .slice p.A3 m.holding.length p.c3, .slice p.A4 m.words.length p.c4] (w.heap.size + 1) (by simp [World.size_alloc])
  go_enter Try.func5, Try.ntmps5
  go_upto_region 1 with fail
  obtain ⟨gm, hgm⟩ : ∃ g, w.heap.size + 1 = g := ⟨_, rfl⟩
  rw [hgm] at bm ⊢
  obtain ⟨gs, hgs⟩ : ∃ g, w.heap.size = g := ⟨_, rfl⟩
  rw [hgs] at bsp ⊢
  generalize (w.alloc (.cells #[.slice q.A1 s.coils.length q.c1, .slice q.A2 s.inputs.length q.c2, .slice q.A3 s.holding.length q.c3, .slice q.A4 s.words.length q.c4] 24)).alloc (.cells #[.slice p.A1 m.coils.length p.c1, .slice p.A2 m.inputs.length p.c2, .slice p.A3 m.holding.length p.c3, .slice p.A4 m.words.length p.c4] 28) = w1 at *
  have hwgs : w.heap.size ≤ gs := by omega
  have hwgm : w.heap.size ≤ gm := by omega
  clear hgs hgm
  replace hS := hS.below hb
  replace hM := hM.below hb
  have ba := Blk.new w1 41 #[.int .u8 (fn : Int), .int .u16 (t : Int), .int .u16 (c : Int), .int .u16 0, .slice none 0 0, .slice none 0 0]
  have hs := (Below.refl w1.heap.size w1).alloc (Nat.le_refl _) (.cells #[.int .u8 (fn : Int), .int .u16 (t : Int), .int .u16 (c : Int), .int .u16 0, .slice none 0 0, .slice none 0 0] 41)
  go_upto_region 2 with fail
  generalize w1.alloc (.cells #[.int .u8 (fn : Int), .int .u16 (t : Int), .int .u16 (c : Int), .int .u16 0, .slice none 0 0, .slice none 0 0] 41) = w2 at *
  obtain ⟨ga, hga⟩ : ∃ g, w1.heap.size = g := ⟨_, rfl⟩
  rw [hga] at ba
  (try rw [hga])
  clear hga
  replace bsp := bsp.all hs
  replace bm := bm.all hs
  replace hS := hS.below hs
  replace hM := hM.below hs
  replace hb := bthen hb hs
  clear hs
  clear hfi
  obtain ⟨zs0, zs1, zs2, zs3⟩ := bsp.c4
  obtain ⟨zm0, zm1, zm2, zm3⟩ := bm.c4
  obtain ⟨za0, za1, za2, za3, za4, za5⟩ := ba.c6
  go_wp2_with fail
  refine (EL.out _).mono ?_
  rintro e w3 ⟨rfl, hs⟩
  clear zs0 zs1 zs2 zs3
  clear zm0 zm1 zm2 zm3
  clear za0 za1 za2 za3 za4 za5
  replace bsp := bsp.all hs
  replace bm := bm.all hs
  replace hS := hS.below hs
  replace hM := hM.below hs
  replace ba := ba.all hs
  replace hb := bthen hb hs
  clear hs
  obtain ⟨zs0, zs1, zs2, zs3⟩ := bsp.c4
  obtain ⟨zm0, zm1, zm2, zm3⟩ := bm.c4
  obtain ⟨za0, za1, za2, za3, za4, za5⟩ := ba.c6
  cases lt with
  | false =>
    go_wp2_with fail
    refine (law07_awake _).mono ?_
    rintro e wz ⟨rfl, hs⟩
    go_wp2_with fail
    go_ret
    exact ⟨rfl, bthen hb hs⟩
  | true =>
    obtain ⟨hsf4, hmf3⟩ := HLF.out rfl
    clear HLF EL
    have hsf6 := Sp.few_le hsf4 (show 40 ≤ 1000000 by omega)
    have hmf5 := Mm.few_le hmf3 (show 300 ≤ 100000 by omega)
    obtain ⟨r, e1⟩ : ∃ r, doM s m (rdAk fn t c) = (m, r) := doM_rdp hf4 s m
    have hrl : r.words.length ≤ 100000 ∧ r.bits.length ≤ 1000 := ⟨by have := doM_words s m (rdAk fn t c) hmf5; rw [e1] at this; exact this, by have := doM_bitsle (t := t) (c := c) hf4 s m hmf3; rw [e1] at this; exact this⟩
    have hok : (rdAk fn t c).ok := ⟨hf5, ht, hc, by show (0 : Nat) < 65536; decide, by intro x hx; cases hx⟩
    have G1 := Lib.hid (fun W p' h1 h2 => law_Do s q m p' (rdAk fn t c) none 0 none 0 W m r e1 h1 hsk hsf6 h2 hmf5 ⟨.inl rfl, .inl rfl⟩ hok (Nat.zero_le _) (Nat.zero_le _))
    have HE := Lib.hid (write_rd (t := t) (c := c) hf4 s m).2.2
    rw [HE.out] at G1
    have ES := Lib.hid (fun W p' h1 h2 => law07_same m p' m p W h1 h2 (Mm.few_le hmf3 (by omega)))
    rw [sameM_self] at ES
    have EQ := Lib.hid (fun W A1 c1 B1 d1 A2 c2 B2 d2 (h : RpR W r A1 B1) (h2 : RpR W r A2 B2) => reply_Same r r A1 c1 B1 d1 A2 c2 B2 d2 W h h2 (by omega) (by omega))
    rw [sameR_self] at EQ
    simp only [Sp.v, Mm.v, Ak.v, akV, rdAk, List.length_nil, Int.natCast_zero] at G1
    simp only [Rp.v, rpV, Mm.v] at ES EQ
    have E1 := Lib.hid e1
    clear e1
    go_wp2_with fail
    refine (G1.out _ p hS hM).mono ?_
    rintro e w4 ⟨p1, Ar1, cr1, Br1, dr1, hev, HM1, HR1, hcp1, hs⟩
    simp only [Mm.v, Rp.v, rpV] at hev
    subst hev
    clear zs0 zs1 zs2 zs3
    clear zm0 zm1 zm2 zm3
    clear za0 za1 za2 za3 za4 za5
    replace bsp := bsp.all hs
    replace bm := bm.all hs
    replace hS := hS.below hs
    replace hM := hM.below hs
    replace ba := ba.all hs
    replace hb := bthen hb hs
    clear hs
    obtain ⟨zs0, zs1, zs2, zs3⟩ := bsp.c4
    obtain ⟨zm0, zm1, zm2, zm3⟩ := bm.c4
    obtain ⟨za0, za1, za2, za3, za4, za5⟩ := ba.c6
    have hs := bx_space w4 (.cells #[.slice p1.A1 m.coils.length p1.c1, .slice p1.A2 m.inputs.length p1.c2, .slice p1.A3 m.holding.length p1.c3, .slice p1.A4 m.words.length p1.c4] 28) (.cells #[.int .u8 (r.fn : Int), .int .u8 (r.ex : Int), .slice Br1 r.bits.length dr1, .slice Ar1 r.words.length cr1, .int .u16 (r.at_ : Int), .int .u16 (r.many : Int)] 36)
    have bn1 := (Blk.new w4 28 #[.slice p1.A1 m.coils.length p1.c1, .slice p1.A2 m.inputs.length p1.c2, .slice p1.A3 m.holding.length p1.c3, .slice p1.A4 m.words.length p1.c4]).alloc (.cells #[.int .u8 (r.fn : Int), .int .u8 (r.ex : Int), .slice Br1 r.bits.length dr1, .slice Ar1 r.words.length cr1, .int .u16 (r.at_ : Int), .int .u16 (r.many : Int)] 36)
    have br1 := Blk.newAt (w4.alloc (.cells #[.slice p1.A1 m.coils.length p1.c1, .slice p1.A2 m.inputs.length p1.c2, .slice p1.A3 m.holding.length p1.c3, .slice p1.A4 m.words.length p1.c4] 28)) 36 #[.int .u8 (r.fn : Int), .int .u8 (r.ex : Int), .slice Br1 r.bits.length dr1, .slice Ar1 r.words.length cr1, .int .u16 (r.at_ : Int), .int .u16 (r.many : Int)] (w4.heap.size + 1) (World.size_alloc _ _)
    go_upto_region 5 with fail
    generalize (w4.alloc (.cells #[.slice p1.A1 m.coils.length p1.c1, .slice p1.A2 m.inputs.length p1.c2, .slice p1.A3 m.holding.length p1.c3, .slice p1.A4 m.words.length p1.c4] 28)).alloc (.cells #[.int .u8 (r.fn : Int), .int .u8 (r.ex : Int), .slice Br1 r.bits.length dr1, .slice Ar1 r.words.length cr1, .int .u16 (r.at_ : Int), .int .u16 (r.many : Int)] 36) = w5 at *
    obtain ⟨gn1, hgn⟩ : ∃ g, w4.heap.size = g := ⟨_, rfl⟩
    obtain ⟨gr1, hgr⟩ : ∃ g, w4.heap.size + 1 = g := ⟨_, rfl⟩
    rw [hgr] at br1
    (try rw [hgr])
    rw [hgn] at bn1
    (try rw [hgn])
    replace HM1 := HM1.below hs
    replace HR1 := HR1.below hs
    clear hgn hgr
    clear zs0 zs1 zs2 zs3
    clear zm0 zm1 zm2 zm3
    clear za0 za1 za2 za3 za4 za5
    replace bsp := bsp.all hs
    replace bm := bm.all hs
    replace hS := hS.below hs
    replace hM := hM.below hs
    replace ba := ba.all hs
    replace hb := bthen hb hs
    clear hs
    obtain ⟨zs0, zs1, zs2, zs3⟩ := bsp.c4
    obtain ⟨zm0, zm1, zm2, zm3⟩ := bm.c4
    obtain ⟨za0, za1, za2, za3, za4, za5⟩ := ba.c6
    obtain ⟨z10, z11, z12, z13⟩ := bn1.c4
    go_wp2_with fail
    refine (G1.out _ p1 hS HM1).mono ?_
    rintro e w6 ⟨p2, Ar2, cr2, Br2, dr2, hev, HM2, HR2, hcp2, hs⟩
    simp only [Mm.v, Rp.v, rpV] at hev
    subst hev
    clear zs0 zs1 zs2 zs3
    clear zm0 zm1 zm2 zm3
    clear za0 za1 za2 za3 za4 za5
    clear z10 z11 z12 z13
    replace bsp := bsp.all hs
    replace bm := bm.all hs
    replace hS := hS.below hs
    replace hM := hM.below hs
    replace ba := ba.all hs
    replace bn1 := bn1.all hs
    replace br1 := br1.all hs
    replace HM1 := HM1.below hs
    replace HR1 := HR1.below hs
    replace hb := bthen hb hs
    clear hs
    obtain ⟨zs0, zs1, zs2, zs3⟩ := bsp.c4
    obtain ⟨zm0, zm1, zm2, zm3⟩ := bm.c4
    obtain ⟨za0, za1, za2, za3, za4, za5⟩ := ba.c6
    obtain ⟨z10, z11, z12, z13⟩ := bn1.c4
    have hs := bx_space w6 (.cells #[.slice p2.A1 m.coils.length p2.c1, .slice p2.A2 m.inputs.length p2.c2, .slice p2.A3 m.holding.length p2.c3, .slice p2.A4 m.words.length p2.c4] 28) (.cells #[.int .u8 (r.fn : Int), .int .u8 (r.ex : Int), .slice Br2 r.bits.length dr2, .slice Ar2 r.words.length cr2, .int .u16 (r.at_ : Int), .int .u16 (r.many : Int)] 36)
    have bn2 := (Blk.new w6 28 #[.slice p2.A1 m.coils.length p2.c1, .slice p2.A2 m.inputs.length p2.c2, .slice p2.A3 m.holding.length p2.c3, .slice p2.A4 m.words.length p2.c4]).alloc (.cells #[.int .u8 (r.fn : Int), .int .u8 (r.ex : Int), .slice Br2 r.bits.length dr2, .slice Ar2 r.words.length cr2, .int .u16 (r.at_ : Int), .int .u16 (r.many : Int)] 36)
    have br2 := Blk.newAt (w6.alloc (.cells #[.slice p2.A1 m.coils.length p2.c1, .slice p2.A2 m.inputs.length p2.c2, .slice p2.A3 m.holding.length p2.c3, .slice p2.A4 m.words.length p2.c4] 28)) 36 #[.int .u8 (r.fn : Int), .int .u8 (r.ex : Int), .slice Br2 r.bits.length dr2, .slice Ar2 r.words.length cr2, .int .u16 (r.at_ : Int), .int .u16 (r.many : Int)] (w6.heap.size + 1) (World.size_alloc _ _)
    go_upto_region 6 with fail
    generalize (w6.alloc (.cells #[.slice p2.A1 m.coils.length p2.c1, .slice p2.A2 m.inputs.length p2.c2, .slice p2.A3 m.holding.length p2.c3, .slice p2.A4 m.words.length p2.c4] 28)).alloc (.cells #[.int .u8 (r.fn : Int), .int .u8 (r.ex : Int), .slice Br2 r.bits.length dr2, .slice Ar2 r.words.length cr2, .int .u16 (r.at_ : Int), .int .u16 (r.many : Int)] 36) = w7 at *
    obtain ⟨gn2, hgn⟩ : ∃ g, w6.heap.size = g := ⟨_, rfl⟩
    obtain ⟨gr2, hgr⟩ : ∃ g, w6.heap.size + 1 = g := ⟨_, rfl⟩
    rw [hgr] at br2
    (try rw [hgr])
    rw [hgn] at bn2
    (try rw [hgn])
    replace HM2 := HM2.below hs
    replace HR2 := HR2.below hs
    clear hgn hgr
    clear zs0 zs1 zs2 zs3
    clear zm0 zm1 zm2 zm3
    clear za0 za1 za2 za3 za4 za5
    clear z10 z11 z12 z13
    replace bsp := bsp.all hs
    replace bm := bm.all hs
    replace hS := hS.below hs
    replace hM := hM.below hs
    replace ba := ba.all hs
    replace bn1 := bn1.all hs
    replace br1 := br1.all hs
    replace HM1 := HM1.below hs
    replace HR1 := HR1.below hs
    replace hb := bthen hb hs
    clear hs
    obtain ⟨zs0, zs1, zs2, zs3⟩ := bsp.c4
    obtain ⟨zm0, zm1, zm2, zm3⟩ := bm.c4
    obtain ⟨za0, za1, za2, za3, za4, za5⟩ := ba.c6
    obtain ⟨z10, z11, z12, z13⟩ := bn1.c4
    have hcp := hcp1 trivial
    clear hcp1 hcp2
    obtain ⟨z20, z21, z22, z23⟩ := bn2.c4
    obtain ⟨y10, y11, y12, y13, y14, y15⟩ := br1.c6
    obtain ⟨y20, y21, y22, y23, y24, y25⟩ := br2.c6
    go_wp2_with fail
    refine (ES.out _ p1 HM1 hM).mono ?_
    rintro e w8 ⟨rfl, hs⟩
    clear zs0 zs1 zs2 zs3
    clear zm0 zm1 zm2 zm3
    clear za0 za1 za2 za3 za4 za5
    clear z10 z11 z12 z13
    clear z20 z21 z22 z23
    clear y10 y11 y12 y13 y14 y15
    clear y20 y21 y22 y23 y24 y25
    replace bsp := bsp.all hs
    replace bm := bm.all hs
    replace hS := hS.below hs
    replace hM := hM.below hs
    replace ba := ba.all hs
    replace bn1 := bn1.all hs
    replace br1 := br1.all hs
    replace HM1 := HM1.below hs
    replace HR1 := HR1.below hs
    replace bn2 := bn2.all hs
    replace br2 := br2.all hs
    replace HM2 := HM2.below hs
    replace HR2 := HR2.below hs
    replace hb := bthen hb hs
    clear hs
    obtain ⟨zs0, zs1, zs2, zs3⟩ := bsp.c4
    obtain ⟨zm0, zm1, zm2, zm3⟩ := bm.c4
    obtain ⟨za0, za1, za2, za3, za4, za5⟩ := ba.c6
    obtain ⟨z10, z11, z12, z13⟩ := bn1.c4
    obtain ⟨z20, z21, z22, z23⟩ := bn2.c4
    obtain ⟨y10, y11, y12, y13, y14, y15⟩ := br1.c6
    obtain ⟨y20, y21, y22, y23, y24, y25⟩ := br2.c6
    go_wp2_with fail
    refine (ES.out _ p2 HM2 hM).mono ?_
    rintro e w9 ⟨rfl, hs⟩
    clear zs0 zs1 zs2 zs3
    clear zm0 zm1 zm2 zm3
    clear za0 za1 za2 za3 za4 za5
    clear z10 z11 z12 z13
    clear z20 z21 z22 z23
    clear y10 y11 y12 y13 y14 y15
    clear y20 y21 y22 y23 y24 y25
    replace bsp := bsp.all hs
    replace bm := bm.all hs
    replace hS := hS.below hs
    replace hM := hM.below hs
    replace ba := ba.all hs
    replace bn1 := bn1.all hs
    replace br1 := br1.all hs
    replace HM1 := HM1.below hs
    replace HR1 := HR1.below hs
    replace bn2 := bn2.all hs
    replace br2 := br2.all hs
    replace HM2 := HM2.below hs
    replace HR2 := HR2.below hs
    replace hb := bthen hb hs
    clear hs
    obtain ⟨zs0, zs1, zs2, zs3⟩ := bsp.c4
    obtain ⟨zm0, zm1, zm2, zm3⟩ := bm.c4
    obtain ⟨za0, za1, za2, za3, za4, za5⟩ := ba.c6
    obtain ⟨z10, z11, z12, z13⟩ := bn1.c4
    obtain ⟨z20, z21, z22, z23⟩ := bn2.c4
    obtain ⟨y10, y11, y12, y13, y14, y15⟩ := br1.c6
    obtain ⟨y20, y21, y22, y23, y24, y25⟩ := br2.c6
    go_wp2_with fail
    refine (EQ.out _ _ _ _ _ _ _ _ _ HR1 HR2).mono ?_
    rintro e w10 ⟨rfl, hs⟩
    clear zs0 zs1 zs2 zs3
    clear zm0 zm1 zm2 zm3
    clear za0 za1 za2 za3 za4 za5
    clear z10 z11 z12 z13
    clear z20 z21 z22 z23
    clear y10 y11 y12 y13 y14 y15
    clear y20 y21 y22 y23 y24 y25
    replace bsp := bsp.all hs
    replace bm := bm.all hs
    replace hS := hS.below hs
    replace hM := hM.below hs
    replace ba := ba.all hs
    replace bn1 := bn1.all hs
    replace br1 := br1.all hs
    replace HM1 := HM1.below hs
    replace HR1 := HR1.below hs
    replace bn2 := bn2.all hs
    replace br2 := br2.all hs
    replace HM2 := HM2.below hs
    replace HR2 := HR2.below hs
    replace hb := bthen hb hs
    clear hs
    obtain ⟨zs0, zs1, zs2, zs3⟩ := bsp.c4
    obtain ⟨zm0, zm1, zm2, zm3⟩ := bm.c4
    obtain ⟨za0, za1, za2, za3, za4, za5⟩ := ba.c6
    obtain ⟨z10, z11, z12, z13⟩ := bn1.c4
    obtain ⟨z20, z21, z22, z23⟩ := bn2.c4
    obtain ⟨y10, y11, y12, y13, y14, y15⟩ := br1.c6
    obtain ⟨y20, y21, y22, y23, y24, y25⟩ := br2.c6
    clear z10 z11 z12 z13
    clear z20 z21 z22 z23
    clear y20 y21 y22 y23 y24 y25
    clear bn1 bn2 HM1 HM2 br2 HR2
    clear ES EQ G1
    by_cases hr0 : r.ex = 0
    rotate_left
    · have v0 : ((r.ex : Int) != 0) = true := by simp; omega
      go_wp2_with fail
      refine (law07_awake _).mono ?_
      rintro e wz ⟨rfl, hs⟩
      go_wp2_with fail
      go_ret
      exact ⟨rfl, bthen hb hs⟩
    have v0 : ((r.ex : Int) != 0) = false := by simp [hr0]
    by_cases hc2 : c < 2
    · have v1 : decide ((c : Int) < 2) = true := decide_eq_true (by omega)
      clear hr0
      go_wp2_with fail
      refine (law07_awake _).mono ?_
      rintro e wz ⟨rfl, hs⟩
      go_wp2_with fail
      go_ret
      exact ⟨rfl, bthen hb hs⟩
    have v1 : decide ((c : Int) < 2) = false := decide_eq_false (by omega)
    obtain ⟨k, hk⟩ : ∃ k, c / 2 = k := ⟨_, rfl⟩
    have hki : (c : Int) / 2 = (k : Int) := by omega
    have hk1 : 1 ≤ k := by omega
    have hk2 : k < c := by omega
    obtain ⟨x, e2⟩ : ∃ r, doM s m (rdAk fn t k) = (m, r) := doM_rdp hf4 s m
    obtain ⟨y, e3⟩ : ∃ r, doM s m (rdAk fn (t + k) (c - k)) = (m, r) := doM_rdp hf4 s m
    obtain ⟨hx, hy, htc, hww, hbb⟩ := reads_law hf4 s m E1.out e2 e3 hr0 hk1 hk2
    have htk : t + k < 65536 := by omega
    have hxl : x.words.length ≤ 100000 ∧ x.bits.length ≤ 1000 := ⟨by have := doM_words s m (rdAk fn t k) hmf5; rw [e2] at this; exact this, by have := doM_bitsle (t := t) (c := k) hf4 s m hmf3; rw [e2] at this; exact this⟩
    have hyl : y.words.length ≤ 100000 ∧ y.bits.length ≤ 1000 := ⟨by have := doM_words s m (rdAk fn (t + k) (c - k)) hmf5; rw [e3] at this; exact this, by have := doM_bitsle (t := t + k) (c := c - k) hf4 s m hmf3; rw [e3] at this; exact this⟩
    have G2 := Lib.hid (fun W h1 h2 => law_Do s q m p (rdAk fn t k) none 0 none 0 W m x e2 h1 hsk hsf6 h2 hmf5 ⟨.inl rfl, .inl rfl⟩ ⟨hf5, ht, (by show k < 65536; omega), by show (0 : Nat) < 65536; decide, by intro x hx; cases hx⟩ (Nat.zero_le _) (Nat.zero_le _))
    obtain ⟨tk, htke⟩ : ∃ z, t + k = z := ⟨_, rfl⟩
    obtain ⟨ck, hcke⟩ : ∃ z, c - k = z := ⟨_, rfl⟩
    rw [htke, hcke] at e3
    rw [hcke] at hbb
    rw [htke] at htk
    have G3 := Lib.hid (fun W h1 h2 => law_Do s q m p (rdAk fn tk ck) none 0 none 0 W m y e3 h1 hsk hsf6 h2 hmf5 ⟨.inl rfl, .inl rfl⟩ ⟨hf5, htk, (by show ck < 65536; omega), by show (0 : Nat) < 65536; decide, by intro x hx; cases hx⟩ (Nat.zero_le _) (Nat.zero_le _))
    rw [(write_rd (t := t) (c := k) hf4 s m).2.2] at G2
    rw [(write_rd (t := tk) (c := ck) hf4 s m).2.2] at G3
    simp only [Sp.v, Mm.v, Ak.v, akV, rdAk, List.length_nil, Int.natCast_zero] at G2 G3
    have hti : (t : Int) + (k : Int) = (tk : Int) := by omega
    have hci : (c : Int) - (k : Int) = (ck : Int) := by omega
    have hwt : IntKind.u16.wrap (tk : Int) = (tk : Int) := wrap16 (by omega) (by omega)
    have hwc : IntKind.u16.wrap (ck : Int) = (ck : Int) := wrap16 (by omega) (by omega)
    have HWW := Lib.hid hww
    have HBB := Lib.hid hbb
    have vx : ((x.ex : Int) != 0) = false := by simp [hx]
    have vy : ((y.ex : Int) != 0) = false := by simp [hy]
    clear hww hbb hx hy e2 e3 hr0 hk htke hcke
    go_wp2_with fail
    refine (G2.out _ hS hM).mono ?_
    rintro e w11 ⟨p3, Ar3, cr3, Br3, dr3, hev, HM3, HR3, hcp3, hs⟩
    simp only [Mm.v, Rp.v, rpV] at hev
    subst hev
    clear zs0 zs1 zs2 zs3
    clear zm0 zm1 zm2 zm3
    clear za0 za1 za2 za3 za4 za5
    clear y10 y11 y12 y13 y14 y15
    replace bsp := bsp.all hs
    replace bm := bm.all hs
    replace hS := hS.below hs
    replace hM := hM.below hs
    replace ba := ba.all hs
    replace br1 := br1.all hs
    replace HR1 := HR1.below hs
    replace hb := bthen hb hs
    clear hs
    obtain ⟨zs0, zs1, zs2, zs3⟩ := bsp.c4
    obtain ⟨zm0, zm1, zm2, zm3⟩ := bm.c4
    obtain ⟨za0, za1, za2, za3, za4, za5⟩ := ba.c6
    obtain ⟨y10, y11, y12, y13, y14, y15⟩ := br1.c6
    have hs := bx_space w11 (.cells #[.slice p3.A1 m.coils.length p3.c1, .slice p3.A2 m.inputs.length p3.c2, .slice p3.A3 m.holding.length p3.c3, .slice p3.A4 m.words.length p3.c4] 28) (.cells #[.int .u8 (x.fn : Int), .int .u8 (x.ex : Int), .slice Br3 x.bits.length dr3, .slice Ar3 x.words.length cr3, .int .u16 (x.at_ : Int), .int .u16 (x.many : Int)] 36)
    have bn3 := (Blk.new w11 28 #[.slice p3.A1 m.coils.length p3.c1, .slice p3.A2 m.inputs.length p3.c2, .slice p3.A3 m.holding.length p3.c3, .slice p3.A4 m.words.length p3.c4]).alloc (.cells #[.int .u8 (x.fn : Int), .int .u8 (x.ex : Int), .slice Br3 x.bits.length dr3, .slice Ar3 x.words.length cr3, .int .u16 (x.at_ : Int), .int .u16 (x.many : Int)] 36)
    have br3 := Blk.newAt (w11.alloc (.cells #[.slice p3.A1 m.coils.length p3.c1, .slice p3.A2 m.inputs.length p3.c2, .slice p3.A3 m.holding.length p3.c3, .slice p3.A4 m.words.length p3.c4] 28)) 36 #[.int .u8 (x.fn : Int), .int .u8 (x.ex : Int), .slice Br3 x.bits.length dr3, .slice Ar3 x.words.length cr3, .int .u16 (x.at_ : Int), .int .u16 (x.many : Int)] (w11.heap.size + 1) (World.size_alloc _ _)
    go_upto_region 12 with fail
    generalize (w11.alloc (.cells #[.slice p3.A1 m.coils.length p3.c1, .slice p3.A2 m.inputs.length p3.c2, .slice p3.A3 m.holding.length p3.c3, .slice p3.A4 m.words.length p3.c4] 28)).alloc (.cells #[.int .u8 (x.fn : Int), .int .u8 (x.ex : Int), .slice Br3 x.bits.length dr3, .slice Ar3 x.words.length cr3, .int .u16 (x.at_ : Int), .int .u16 (x.many : Int)] 36) = w12 at *
    obtain ⟨gn3, hgn⟩ : ∃ g, w11.heap.size = g := ⟨_, rfl⟩
    obtain ⟨gr3, hgr⟩ : ∃ g, w11.heap.size + 1 = g := ⟨_, rfl⟩
    rw [hgr] at br3
    (try rw [hgr])
    rw [hgn] at bn3
    (try rw [hgn])
    replace HM3 := HM3.below hs
    replace HR3 := HR3.below hs
    clear hgn hgr
    clear zs0 zs1 zs2 zs3
    clear zm0 zm1 zm2 zm3
    clear za0 za1 za2 za3 za4 za5
    clear y10 y11 y12 y13 y14 y15
    replace bsp := bsp.all hs
    replace bm := bm.all hs
    replace hS := hS.below hs
    replace hM := hM.below hs
    replace ba := ba.all hs
    replace br1 := br1.all hs
    replace HR1 := HR1.below hs
    replace hb := bthen hb hs
    clear hs
    obtain ⟨zs0, zs1, zs2, zs3⟩ := bsp.c4
    obtain ⟨zm0, zm1, zm2, zm3⟩ := bm.c4
    obtain ⟨za0, za1, za2, za3, za4, za5⟩ := ba.c6
    obtain ⟨y10, y11, y12, y13, y14, y15⟩ := br1.c6
    go_wp2_with fail
    refine (G3.out _ hS hM).mono ?_
    rintro e w13 ⟨p4, Ar4, cr4, Br4, dr4, hev, HM4, HR4, hcp4, hs⟩
    simp only [Mm.v, Rp.v, rpV] at hev
    subst hev
    clear zs0 zs1 zs2 zs3
    clear zm0 zm1 zm2 zm3
    clear za0 za1 za2 za3 za4 za5
    clear y10 y11 y12 y13 y14 y15
    replace bsp := bsp.all hs
    replace bm := bm.all hs
    replace hS := hS.below hs
    replace hM := hM.below hs
    replace ba := ba.all hs
    replace br1 := br1.all hs
    replace HR1 := HR1.below hs
    replace bn3 := bn3.all hs
    replace br3 := br3.all hs
    replace HM3 := HM3.below hs
    replace HR3 := HR3.below hs
    replace hb := bthen hb hs
    clear hs
    obtain ⟨zs0, zs1, zs2, zs3⟩ := bsp.c4
    obtain ⟨zm0, zm1, zm2, zm3⟩ := bm.c4
    obtain ⟨za0, za1, za2, za3, za4, za5⟩ := ba.c6
    obtain ⟨y10, y11, y12, y13, y14, y15⟩ := br1.c6
    have hs := bx_space w13 (.cells #[.slice p4.A1 m.coils.length p4.c1, .slice p4.A2 m.inputs.length p4.c2, .slice p4.A3 m.holding.length p4.c3, .slice p4.A4 m.words.length p4.c4] 28) (.cells #[.int .u8 (y.fn : Int), .int .u8 (y.ex : Int), .slice Br4 y.bits.length dr4, .slice Ar4 y.words.length cr4, .int .u16 (y.at_ : Int), .int .u16 (y.many : Int)] 36)
    have bn4 := (Blk.new w13 28 #[.slice p4.A1 m.coils.length p4.c1, .slice p4.A2 m.inputs.length p4.c2, .slice p4.A3 m.holding.length p4.c3, .slice p4.A4 m.words.length p4.c4]).alloc (.cells #[.int .u8 (y.fn : Int), .int .u8 (y.ex : Int), .slice Br4 y.bits.length dr4, .slice Ar4 y.words.length cr4, .int .u16 (y.at_ : Int), .int .u16 (y.many : Int)] 36)
    have br4 := Blk.newAt (w13.alloc (.cells #[.slice p4.A1 m.coils.length p4.c1, .slice p4.A2 m.inputs.length p4.c2, .slice p4.A3 m.holding.length p4.c3, .slice p4.A4 m.words.length p4.c4] 28)) 36 #[.int .u8 (y.fn : Int), .int .u8 (y.ex : Int), .slice Br4 y.bits.length dr4, .slice Ar4 y.words.length cr4, .int .u16 (y.at_ : Int), .int .u16 (y.many : Int)] (w13.heap.size + 1) (World.size_alloc _ _)
    go_upto_region 13 with fail
    generalize (w13.alloc (.cells #[.slice p4.A1 m.coils.length p4.c1, .slice p4.A2 m.inputs.length p4.c2, .slice p4.A3 m.holding.length p4.c3, .slice p4.A4 m.words.length p4.c4] 28)).alloc (.cells #[.int .u8 (y.fn : Int), .int .u8 (y.ex : Int), .slice Br4 y.bits.length dr4, .slice Ar4 y.words.length cr4, .int .u16 (y.at_ : Int), .int .u16 (y.many : Int)] 36) = w14 at *
    obtain ⟨gn4, hgn⟩ : ∃ g, w13.heap.size = g := ⟨_, rfl⟩
    obtain ⟨gr4, hgr⟩ : ∃ g, w13.heap.size + 1 = g := ⟨_, rfl⟩
    rw [hgr] at br4
    (try rw [hgr])
    rw [hgn] at bn4
    (try rw [hgn])
    replace HM4 := HM4.below hs
    replace HR4 := HR4.below hs
    clear hgn hgr
    clear zs0 zs1 zs2 zs3
    clear zm0 zm1 zm2 zm3
    clear za0 za1 za2 za3 za4 za5
    clear y10 y11 y12 y13 y14 y15
    replace bsp := bsp.all hs
    replace bm := bm.all hs
    replace hS := hS.below hs
    replace hM := hM.below hs
    replace ba := ba.all hs
    replace br1 := br1.all hs
    replace HR1 := HR1.below hs
    replace bn3 := bn3.all hs
    replace br3 := br3.all hs
    replace HM3 := HM3.below hs
    replace HR3 := HR3.below hs
    replace hb := bthen hb hs
    clear hs
    obtain ⟨zs0, zs1, zs2, zs3⟩ := bsp.c4
    obtain ⟨zm0, zm1, zm2, zm3⟩ := bm.c4
    obtain ⟨za0, za1, za2, za3, za4, za5⟩ := ba.c6
    obtain ⟨y10, y11, y12, y13, y14, y15⟩ := br1.c6
    have hcx := hcp3 trivial
    have hcy := hcp4 trivial
    clear hcp3 hcp4 G2 G3
    clear zs0 zs1 zs2 zs3
    clear zm0 zm1 zm2 zm3
    clear bsp bm hS hM bn3 bn4 HM3 HM4
    obtain ⟨y30, y31, y32, y33, y34, y35⟩ := br3.c6
    obtain ⟨y40, y41, y42, y43, y44, y45⟩ := br4.c6
    by_cases hf2 : 2 < fn
    · have vf : decide ((2 : Int) < (fn : Int)) = true := decide_eq_true (by omega)
      have HXY : Hid (x.words ++ y.words = r.words) := HWW.out hf2
      have HLE : Hid (r.words.length = 0 + x.words.length + y.words.length) := by (show _ = _); rw [← HXY.out, List.length_append]; omega
      have EW := Lib.hid (fun (W : World) (A' : Option Addr) (n' c' : Nat) (h0 : r.words.length = n') (h1 : Rd W A' (ws r.words)) (h2 : Rd W Ar1 (ws r.words)) => low_Words A' Ar1 n' c' r.words.length cr1 r.words r.words W h1 h2 h0 rfl (by rw [← h0]; omega))
      rw [sameB_self] at EW
      clear HWW HBB
      go_upto_region 16 with fail
      have KK : Hid (∀ W : World, Below w14.heap.size w14 W → W.cell? ⟨gr3, 3, none⟩ = some (.slice Ar3 x.words.length cr3) ∧ W.cell? ⟨gr4, 3, none⟩ = some (.slice Ar4 y.words.length cr4) ∧ W.cell? ⟨gr1, 3, none⟩ = some (.slice Ar1 r.words.length cr1)) := fun W h => ⟨(br3.all h).cell 3, (br4.all h).cell 3, (br1.all h).cell 3⟩
      have hd : Below w14.heap.size w14 w14.drew := (Below.refl _ _).drew
      refine wp_region_held_drew (S := fun W => W.cell? ⟨gr3, 3, none⟩ = some (.slice Ar3 x.words.length cr3) ∧ W.cell? ⟨gr4, 3, none⟩ = some (.slice Ar4 y.words.length cr4) ∧ W.cell? ⟨gr1, 3, none⟩ = some (.slice Ar1 r.words.length cr1)) (by kernel_rfl) ?_ (fun hHeld => ?_)
      · (with_reducible first | exact KK.out _ j5 | exact KK.out _ j4 | exact KK.out _ j3 | exact KK.out _ j2 | exact KK.out _ j1 | exact KK.out _ hd)
      generalize w14.drew = wD at *
      refine takeRun (i := 1) (v := ?_) rfl (by kernel_rfl) (by kernel_rfl) (by kernel_rfl) (fun _ _ _ h => h) rfl ?_ (by assumption) ?_
      rotate_left
      · (intro w hSw; (try dsimp only at hSw); go_simp; (try with_reducible rfl))
      try simp only [Act.put, List.setIfInBounds_toArray, List.set_cons_zero, List.set_cons_succ]
      refine takeRun (i := 2) (v := ?_) rfl (by kernel_rfl) (by kernel_rfl) (by kernel_rfl) (fun _ _ _ h => h) rfl ?_ (by assumption) ?_
      rotate_left
      · (intro w hSw; (try dsimp only at hSw); go_simp; (try with_reducible rfl))
      try simp only [Act.put, List.setIfInBounds_toArray, List.set_cons_zero, List.set_cons_succ]
      refine takeRun (i := 4) (v := ?_) rfl (by kernel_rfl) (by kernel_rfl) (by kernel_rfl) (fun _ _ _ h => h) rfl ?_ (by assumption) ?_
      rotate_left
      · (intro w hSw; (try dsimp only at hSw); go_simp; (try with_reducible rfl))
      try simp only [Act.put, List.setIfInBounds_toArray, List.set_cons_zero, List.set_cons_succ]
      refine takeRun (i := 5) (v := ?_) rfl (by kernel_rfl) (by kernel_rfl) (by kernel_rfl) (fun _ _ _ h => h) rfl ?_ (by assumption) ?_
      rotate_left
      · (intro w hSw; (try dsimp only at hSw); go_simp; (try with_reducible rfl))
      try simp only [Act.put, List.setIfInBounds_toArray, List.set_cons_zero, List.set_cons_succ]
      refine takeRun (i := 7) (v := ?_) rfl (by kernel_rfl) (by kernel_rfl) (by kernel_rfl) (fun _ _ _ h => h) rfl ?_ (by assumption) ?_
      rotate_left
      · (intro w hSw; (try dsimp only at hSw); go_simp; (try with_reducible rfl))
      try simp only [Act.put, List.setIfInBounds_toArray, List.set_cons_zero, List.set_cons_succ]
      refine takeRun (i := 8) (v := ?_) rfl (by kernel_rfl) (by kernel_rfl) (by kernel_rfl) (fun _ _ _ h => h) rfl ?_ (by assumption) ?_
      rotate_left
      · (intro w hSw; (try dsimp only at hSw); go_simp; (try with_reducible rfl))
      try simp only [Act.put, List.setIfInBounds_toArray, List.set_cons_zero, List.set_cons_succ]
      refine goOne (i := 0) (by kernel_rfl) rfl (fun K hK => ?_)
      have r0 := (Below.refl wD.heap.size wD).alloc (Nat.le_refl _) (.cells #[] 34)
      have j1 := bthen hd r0
      go_simp
      refine hK.out _ _ ?_ (fun hHeld => ?_)
      · (with_reducible first | exact KK.out _ j5 | exact KK.out _ j4 | exact KK.out _ j3 | exact KK.out _ j2 | exact KK.out _ j1 | exact KK.out _ hd)
      clear hK K
      try simp only [Act.put, List.setIfInBounds_toArray, List.set_cons_zero, List.set_cons_succ]
      refine goOne (i := 3) (by kernel_rfl) rfl (fun K hK => ?_)
      (refine sapp_w rfl _ _ rfl wD r0 _ _ _ [] rfl (Ow.lit wD wD.heap.size _ [] (Nat.le_refl _) (Nat.zero_le _) rfl rfl) rfl Ar3 x.words.length cr3 x.words rfl (HR3.words.below j1) rfl (by omega) ?_; intro A7 c7 w7 o7 hb7 hg7; try simp only [List.nil_append] at o7)
      have j2 := bthen hd hb7
      refine hK.out _ _ ?_ (fun hHeld => ?_)
      · (with_reducible first | exact KK.out _ j5 | exact KK.out _ j4 | exact KK.out _ j3 | exact KK.out _ j2 | exact KK.out _ j1 | exact KK.out _ hd)
      clear hK K
      try simp only [Act.put, List.setIfInBounds_toArray, List.set_cons_zero, List.set_cons_succ]
      refine goOne (i := 6) (by kernel_rfl) rfl (fun K hK => ?_)
      (refine sapp_w rfl _ _ rfl wD hb7 _ _ _ _ rfl o7 (by simp) Ar4 y.words.length cr4 y.words rfl (HR4.words.below j2) rfl (by omega) ?_; intro A8 c8 w8 o8 hb8 hg8; rw [HXY.out] at o8)
      have j3 := bthen hd hb8
      refine hK.out _ _ ?_ (fun hHeld => ?_)
      · (with_reducible first | exact KK.out _ j5 | exact KK.out _ j4 | exact KK.out _ j3 | exact KK.out _ j2 | exact KK.out _ j1 | exact KK.out _ hd)
      clear hK K
      try simp only [Act.put, List.setIfInBounds_toArray, List.set_cons_zero, List.set_cons_succ]
      refine goOne (i := 9) (by kernel_rfl) rfl (fun K hK => ?_)
      go_simp
      (with_reducible refine Calls.mono (EW.out _ A8 _ c8 ?_ o8.rd (HR1.words.below j3)) ?_); (rw [HLE.out]; omega); rintro e w9 ⟨rfl, hdn⟩; have h9 := drewN_below hdn; clear hdn; have j4 := bthen j3 h9
      go_wp2_with fail
      refine hK.out _ _ ?_ (fun hHeld => ?_)
      · (with_reducible first | exact KK.out _ j5 | exact KK.out _ j4 | exact KK.out _ j3 | exact KK.out _ j2 | exact KK.out _ j1 | exact KK.out _ hd)
      clear hK K
      try simp only [Act.put, List.setIfInBounds_toArray, List.set_cons_zero, List.set_cons_succ]
      refine takeRun (i := 10) (v := ?_) rfl (by kernel_rfl) (by kernel_rfl) (by kernel_rfl) (fun _ _ _ h => h) rfl ?_ (by assumption) ?_
      rotate_left
      · (intro w hSw; (try dsimp only at hSw); go_simp; (try with_reducible rfl))
      try simp only [Act.put, List.setIfInBounds_toArray, List.set_cons_zero, List.set_cons_succ]
      refine goOne (i := 11) (by kernel_rfl) rfl (fun K hK => ?_)
      go_simp
      refine Calls.mono (law07_awake _) ?_; rintro e w10 ⟨rfl, h10⟩; have j5 := bthen j4 h10
      go_wp2_with fail
      refine hK.out _ _ ?_ (fun hHeld => ?_)
      · (with_reducible first | exact KK.out _ j5 | exact KK.out _ j4 | exact KK.out _ j3 | exact KK.out _ j2 | exact KK.out _ j1 | exact KK.out _ hd)
      clear hK K
      try simp only [Act.put, List.setIfInBounds_toArray, List.set_cons_zero, List.set_cons_succ]
      refine takeRun (i := 12) (v := ?_) rfl (by kernel_rfl) (by kernel_rfl) (by kernel_rfl) (fun _ _ _ h => h) rfl ?_ (by assumption) ?_
      rotate_left
      · (intro w hSw; (try dsimp only at hSw); go_simp; (try with_reducible rfl))
      try simp only [Act.put, List.setIfInBounds_toArray, List.set_cons_zero, List.set_cons_succ]
      refine takeRun (i := 13) (v := ?_) rfl (by kernel_rfl) (by kernel_rfl) (by kernel_rfl) (fun _ _ _ h => h) rfl ?_ (by assumption) ?_
      rotate_left
      · (intro w hSw; (try dsimp only at hSw); go_simp; (try with_reducible rfl))
      try simp only [Act.put, List.setIfInBounds_toArray, List.set_cons_zero, List.set_cons_succ]
      refine wpAnyH_done (by kernel_rfl) ?_ _
      go_wp2_with fail
      go_ret
      exact ⟨rfl, bthen hb j5⟩
    have vf : decide ((2 : Int) < (fn : Int)) = false := decide_eq_false (by omega)
    obtain ⟨b1, b2, b3, b4⟩ := HBB.out (by omega)
    have HXY : Hid (x.bits.take k ++ y.bits.take ck = r.bits.take c) := b4
    have u1 : decide ((x.bits.length : Int) < (k : Int)) = false := decide_eq_false (by omega)
    have u2 : decide ((y.bits.length : Int) < (ck : Int)) = false := decide_eq_false (by omega)
    have u3 : decide ((r.bits.length : Int) < (c : Int)) = false := decide_eq_false (by omega)
    clear b4 HWW HBB
    go_upto_region 19 with fail
    have KK : Hid (∀ W : World, Below w14.heap.size w14 W → W.cell? ⟨gr3, 2, none⟩ = some (.slice Br3 x.bits.length dr3) ∧ W.cell? ⟨gr4, 2, none⟩ = some (.slice Br4 y.bits.length dr4) ∧ W.cell? ⟨gr1, 2, none⟩ = some (.slice Br1 r.bits.length dr1)) := fun W h => ⟨(br3.all h).cell 2, (br4.all h).cell 2, (br1.all h).cell 2⟩
    have hd : Below w14.heap.size w14 w14.drew := (Below.refl _ _).drew
    obtain ⟨X3, q3, rx3⟩ := slice_to_o HR3.bits rfl hcx k b1
    obtain ⟨X4, q4, rx4⟩ := slice_to_o HR4.bits rfl hcy ck b2
    obtain ⟨X1, q1, rx1⟩ := slice_to_o HR1.bits rfl hcp c b3
    have HL1 : Hid ((r.bits.take c).length = c) := by (show _ = _); rw [List.length_take]; omega
    have HL3 : Hid ((x.bits.take k).length = k) := by (show _ = _); rw [List.length_take]; omega
    have HL4 : Hid ((y.bits.take ck).length = ck) := by (show _ = _); rw [List.length_take]; omega
    have HLE : Hid ((r.bits.take c).length = 0 + k + ck) := by (show _ = _); rw [HL1.out]; omega
    have EW := Lib.hid (fun (W : World) (A' : Option Addr) (n' c' : Nat) (h0 : (r.bits.take c).length = n') (h1 : Rd W A' (os (r.bits.take c))) (h2 : Rd W X1 (os (r.bits.take c))) => low_Bits A' X1 n' c' c dr1 (r.bits.take c) (r.bits.take c) W h1 h2 h0 HL1.out (by rw [← h0, HL1.out]; omega))
    rw [sameO_self] at EW
    refine wp_region_held_drew (S := fun W => W.cell? ⟨gr3, 2, none⟩ = some (.slice Br3 x.bits.length dr3) ∧ W.cell? ⟨gr4, 2, none⟩ = some (.slice Br4 y.bits.length dr4) ∧ W.cell? ⟨gr1, 2, none⟩ = some (.slice Br1 r.bits.length dr1)) (by kernel_rfl) ?_ (fun hHeld => ?_)
    · (with_reducible first | exact KK.out _ j5 | exact KK.out _ j4 | exact KK.out _ j3 | exact KK.out _ j2 | exact KK.out _ j1 | exact KK.out _ hd)
    generalize w14.drew = wD at *
    refine takeRun (i := 1) (v := ?_) rfl (by kernel_rfl) (by kernel_rfl) (by kernel_rfl) (fun _ _ _ h => h) rfl ?_ (by assumption) ?_
    rotate_left
    · (intro w hSw; (try dsimp only at hSw); go_simp; (try with_reducible rfl))
    try simp only [Act.put, List.setIfInBounds_toArray, List.set_cons_zero, List.set_cons_succ]
    refine takeRun (i := 2) (v := ?_) rfl (by kernel_rfl) (by kernel_rfl) (by kernel_rfl) (fun _ _ _ h => h) rfl ?_ (by assumption) ?_
    rotate_left
    · (intro w hSw; (try dsimp only at hSw); go_simp; (try with_reducible rfl))
    try simp only [Act.put, List.setIfInBounds_toArray, List.set_cons_zero, List.set_cons_succ]
    refine takeRun (i := 3) (v := ?_) rfl (by kernel_rfl) (by kernel_rfl) (by kernel_rfl) (fun _ _ _ h => h) rfl ?_ (by assumption) ?_
    rotate_left
    · (intro w hSw; (try dsimp only at hSw); go_simp; (try with_reducible rfl))
    try simp only [Act.put, List.setIfInBounds_toArray, List.set_cons_zero, List.set_cons_succ]
    refine takeRun (i := 4) (v := ?_) rfl (by kernel_rfl) (by kernel_rfl) (by kernel_rfl) (fun _ _ _ h => h) rfl ?_ (by assumption) ?_
    rotate_left
    · (intro w hSw; (try dsimp only at hSw); go_simp; (try with_reducible rfl))
    try simp only [Act.put, List.setIfInBounds_toArray, List.set_cons_zero, List.set_cons_succ]
    refine takeRun (i := 6) (v := ?_) rfl (by kernel_rfl) (by kernel_rfl) (by kernel_rfl) (fun _ _ _ h => h) rfl ?_ (by assumption) ?_
    rotate_left
    · (intro w hSw; (try dsimp only at hSw); go_simp; (try with_reducible rfl))
    try simp only [Act.put, List.setIfInBounds_toArray, List.set_cons_zero, List.set_cons_succ]
    refine takeRun (i := 7) (v := ?_) rfl (by kernel_rfl) (by kernel_rfl) (by kernel_rfl) (fun _ _ _ h => h) rfl ?_ (by assumption) ?_
    rotate_left
    · (intro w hSw; (try dsimp only at hSw); go_simp; (try with_reducible rfl))
    try simp only [Act.put, List.setIfInBounds_toArray, List.set_cons_zero, List.set_cons_succ]
    refine takeRun (i := 8) (v := ?_) rfl (by kernel_rfl) (by kernel_rfl) (by kernel_rfl) (fun _ _ _ h => h) rfl ?_ (by assumption) ?_
    rotate_left
    · (intro w hSw; (try dsimp only at hSw); go_simp; (try with_reducible rfl))
    try simp only [Act.put, List.setIfInBounds_toArray, List.set_cons_zero, List.set_cons_succ]
    refine takeRun (i := 9) (v := ?_) rfl (by kernel_rfl) (by kernel_rfl) (by kernel_rfl) (fun _ _ _ h => h) rfl ?_ (by assumption) ?_
    rotate_left
    · (intro w hSw; (try dsimp only at hSw); go_simp; (try with_reducible rfl))
    try simp only [Act.put, List.setIfInBounds_toArray, List.set_cons_zero, List.set_cons_succ]
    refine takeRun (i := 10) (v := ?_) rfl (by kernel_rfl) (by kernel_rfl) (by kernel_rfl) (fun _ _ _ h => h) rfl ?_ (by assumption) ?_
    rotate_left
    · (intro w hSw; (try dsimp only at hSw); go_simp; (try with_reducible rfl))
    try simp only [Act.put, List.setIfInBounds_toArray, List.set_cons_zero, List.set_cons_succ]
    refine takeRun (i := 11) (v := ?_) rfl (by kernel_rfl) (by kernel_rfl) (by kernel_rfl) (fun _ _ _ h => h) rfl ?_ (by assumption) ?_
    rotate_left
    · (intro w hSw; (try dsimp only at hSw); go_simp; (try with_reducible rfl))
    try simp only [Act.put, List.setIfInBounds_toArray, List.set_cons_zero, List.set_cons_succ]
    refine takeRun (i := 13) (v := ?_) rfl (by kernel_rfl) (by kernel_rfl) (by kernel_rfl) (fun _ _ _ h => h) rfl ?_ (by assumption) ?_
    rotate_left
    · (intro w hSw; (try dsimp only at hSw); go_simp; (try with_reducible rfl))
    try simp only [Act.put, List.setIfInBounds_toArray, List.set_cons_zero, List.set_cons_succ]
    refine takeRun (i := 14) (v := ?_) rfl (by kernel_rfl) (by kernel_rfl) (by kernel_rfl) (fun _ _ _ h => h) rfl ?_ (by assumption) ?_
    rotate_left
    · (intro w hSw; (try dsimp only at hSw); go_simp; (try with_reducible rfl))
    try simp only [Act.put, List.setIfInBounds_toArray, List.set_cons_zero, List.set_cons_succ]
    refine takeRun (i := 15) (v := ?_) rfl (by kernel_rfl) (by kernel_rfl) (by kernel_rfl) (fun _ _ _ h => h) rfl ?_ (by assumption) ?_
    rotate_left
    · (intro w hSw; (try dsimp only at hSw); go_simp; (try with_reducible rfl))
    try simp only [Act.put, List.setIfInBounds_toArray, List.set_cons_zero, List.set_cons_succ]
    refine takeRun (i := 16) (v := ?_) rfl (by kernel_rfl) (by kernel_rfl) (by kernel_rfl) (fun _ _ _ h => h) rfl ?_ (by assumption) ?_
    rotate_left
    · (intro w hSw; (try dsimp only at hSw); go_simp; (try with_reducible rfl))
    try simp only [Act.put, List.setIfInBounds_toArray, List.set_cons_zero, List.set_cons_succ]
    refine goOne (i := 0) (by kernel_rfl) rfl (fun K hK => ?_)
    have r0 := (Below.refl wD.heap.size wD).alloc (Nat.le_refl _) (.cells #[] 4)
    have j1 := bthen hd r0
    go_simp
    refine hK.out _ _ ?_ (fun hHeld => ?_)
    · (with_reducible first | exact KK.out _ j5 | exact KK.out _ j4 | exact KK.out _ j3 | exact KK.out _ j2 | exact KK.out _ j1 | exact KK.out _ hd)
    clear hK K
    try simp only [Act.put, List.setIfInBounds_toArray, List.set_cons_zero, List.set_cons_succ]
    refine goOne (i := 5) (by kernel_rfl) rfl (fun K hK => ?_)
    (refine sapp_o rfl _ _ rfl wD r0 _ _ _ [] rfl (Ow.lit wD wD.heap.size _ [] (Nat.le_refl _) (Nat.zero_le _) rfl rfl) rfl X3 k dr3 (x.bits.take k) rfl (rx3.below j1) HL3.out (by omega) ?_; intro A7 c7 w7 o7 hb7 hg7; try simp only [List.nil_append] at o7)
    have j2 := bthen hd hb7
    refine hK.out _ _ ?_ (fun hHeld => ?_)
    · (with_reducible first | exact KK.out _ j5 | exact KK.out _ j4 | exact KK.out _ j3 | exact KK.out _ j2 | exact KK.out _ j1 | exact KK.out _ hd)
    clear hK K
    try simp only [Act.put, List.setIfInBounds_toArray, List.set_cons_zero, List.set_cons_succ]
    refine goOne (i := 12) (by kernel_rfl) rfl (fun K hK => ?_)
    (refine sapp_o rfl _ _ rfl wD hb7 _ _ _ _ rfl o7 (by rw [HL3.out]; omega) X4 ck dr4 (y.bits.take ck) rfl (rx4.below j2) HL4.out (by omega) ?_; intro A8 c8 w8 o8 hb8 hg8; rw [HXY.out] at o8)
    have j3 := bthen hd hb8
    refine hK.out _ _ ?_ (fun hHeld => ?_)
    · (with_reducible first | exact KK.out _ j5 | exact KK.out _ j4 | exact KK.out _ j3 | exact KK.out _ j2 | exact KK.out _ j1 | exact KK.out _ hd)
    clear hK K
    try simp only [Act.put, List.setIfInBounds_toArray, List.set_cons_zero, List.set_cons_succ]
    refine goOne (i := 17) (by kernel_rfl) rfl (fun K hK => ?_)
    go_simp
    (with_reducible refine Calls.mono (EW.out _ A8 _ c8 ?_ o8.rd (rx1.below j3)) ?_); (rw [HLE.out]; omega); rintro e w9 ⟨rfl, hdn⟩; have h9 := drewN_below hdn; clear hdn; have j4 := bthen j3 h9
    go_wp2_with fail
    refine hK.out _ _ ?_ (fun hHeld => ?_)
    · (with_reducible first | exact KK.out _ j5 | exact KK.out _ j4 | exact KK.out _ j3 | exact KK.out _ j2 | exact KK.out _ j1 | exact KK.out _ hd)
    clear hK K
    try simp only [Act.put, List.setIfInBounds_toArray, List.set_cons_zero, List.set_cons_succ]
    refine takeRun (i := 18) (v := ?_) rfl (by kernel_rfl) (by kernel_rfl) (by kernel_rfl) (fun _ _ _ h => h) rfl ?_ (by assumption) ?_
    rotate_left
    · (intro w hSw; (try dsimp only at hSw); go_simp; (try with_reducible rfl))
    try simp only [Act.put, List.setIfInBounds_toArray, List.set_cons_zero, List.set_cons_succ]
    refine goOne (i := 19) (by kernel_rfl) rfl (fun K hK => ?_)
    go_simp
    refine Calls.mono (law07_awake _) ?_; rintro e w10 ⟨rfl, h10⟩; have j5 := bthen j4 h10
    go_wp2_with fail
    refine hK.out _ _ ?_ (fun hHeld => ?_)
    · (with_reducible first | exact KK.out _ j5 | exact KK.out _ j4 | exact KK.out _ j3 | exact KK.out _ j2 | exact KK.out _ j1 | exact KK.out _ hd)
    clear hK K
    try simp only [Act.put, List.setIfInBounds_toArray, List.set_cons_zero, List.set_cons_succ]
    refine takeRun (i := 20) (v := ?_) rfl (by kernel_rfl) (by kernel_rfl) (by kernel_rfl) (fun _ _ _ h => h) rfl ?_ (by assumption) ?_
    rotate_left
    · (intro w hSw; (try dsimp only at hSw); go_simp; (try with_reducible rfl))
    try simp only [Act.put, List.setIfInBounds_toArray, List.set_cons_zero, List.set_cons_succ]
    refine takeRun (i := 21) (v := ?_) rfl (by kernel_rfl) (by kernel_rfl) (by kernel_rfl) (fun _ _ _ h => h) rfl ?_ (by assumption) ?_
    rotate_left
    · (intro w hSw; (try dsimp only at hSw); go_simp; (try with_reducible rfl))
    try simp only [Act.put, List.setIfInBounds_toArray, List.set_cons_zero, List.set_cons_succ]
    refine wpAnyH_done (by kernel_rfl) ?_ _
    go_wp2_with fail
    go_ret
    exact ⟨rfl, bthen hb j5⟩
end Go.Proofs.Ytechhidfgheejaa
