/- The walk of the law ModelSwap (written by gen_mswap.py). -/
import Derived.Test.YtechhidfgheejaaMdLawB
namespace Go.Proofs.Ytechhidfgheejaa
open Go.RowKit
set_option linter.unusedSimpArgs false
set_option linter.unusedVariables false

set_option maxRecDepth 100000 in
set_option maxHeartbeats 4000000 in
theorem ModelSwap_walk (s : Sp) (q : Q8) (m : Mm) (p : Q8) (t c o : Nat) (A : Option Addr) (n cc : Nat) (ws_ : List Nat) (w : World) (hS : SpR w s q) (hsk : s.ok) (hsf : s.few 140737488355328) (hM : MmR w m p.A1 p.A2 p.A3 p.A4) (hmk : m.ok) (hcap : m.cap p.c1 p.c2 p.c3 p.c4) (ht : t < 65536) (hc : c < 65536) (ho : o < 65536) (hA : Rd w A (ws ws_)) (hn : ws_.length = n) (hws : Ws ws_) (hnc : n ≤ cc) :
    Calls Try.prog 6 #[s.v q, m.v p.A1 p.c1 p.A2 p.c2 p.A3 p.c3 p.A4 p.c4, .int .u16 (t : Int), .int .u16 (c : Int), .int .u16 (o : Int), .slice A n cc] w fun e w' => e = .returned (.bool true) ∧ Below w.heap.size w w' := by
  have HN := Lib.hid hn
  have EL := Lib.hid (fun W => law07_Light s q m p W hsf)
  obtain ⟨lt, hlt⟩ : ∃ b, lightN s m = b := ⟨_, rfl⟩
  rw [hlt] at EL
  have HLT := Lib.hid hlt
  have HLF : Hid (lt = true → s.few 40 ∧ m.few 300) := fun h => light_few (hlt.trans h)
  simp only [Sp.v, Mm.v] at EL ⊢
  clear hn hlt
  have hb := ((Below.refl w.heap.size w).alloc (Nat.le_refl _) (.cells #[.slice q.A1 s.coils.length q.c1, .slice q.A2 s.inputs.length q.c2, .slice q.A3 s.holding.length q.c3, .slice q.A4 s.words.length q.c4] 24)).alloc (by simp) (.cells #[.slice p.A1 m.coils.length p.c1, .slice p.A2 m.inputs.length p.c2, .slice p.A3 m.holding.length p.c3, .slice p.A4 m.words.length p.c4] 28)
  have bs := (Blk.newAt w 24 #[.slice q.A1 s.coils.length q.c1, .slice q.A2 s.inputs.length q.c2, .slice q.A3 s.holding.length q.c3, .slice q.A4 s.words.length q.c4] (w.heap.size) rfl).alloc (.cells #[.slice p.A1 m.coils.length p.c1, .slice p.A2 m.inputs.length p.c2, .slice p.A3 m.holding.length p.c3, .slice p.A4 m.words.length p.c4] 28)
  have bm := Blk.newAt (w.alloc (.cells #[.slice q.A1 s.coils.length q.c1, .slice q.A2 s.inputs.length q.c2, .slice q.A3 s.holding.length q.c3, .slice q.A4 s.words.length q.c4] 24)) 28 #[.slice p.A1 m.coils.length p.c1, .slice p.A2 m.inputs.length p.c2, .slice p.A3 m.holding.length p.c3, .slice p.A4 m.words.length p.c4] (w.heap.size + 1) (by simp [World.size_alloc])
  go_enter Try.func6, Try.ntmps6
  go_upto_region 1 with fail
  obtain ⟨gm, hgm⟩ : ∃ g, w.heap.size + 1 = g := ⟨_, rfl⟩
  rw [hgm] at bm ⊢
  obtain ⟨gs, hgs⟩ : ∃ g, w.heap.size = g := ⟨_, rfl⟩
  rw [hgs] at bs ⊢
  generalize (w.alloc (.cells #[.slice q.A1 s.coils.length q.c1, .slice q.A2 s.inputs.length q.c2, .slice q.A3 s.holding.length q.c3, .slice q.A4 s.words.length q.c4] 24)).alloc (.cells #[.slice p.A1 m.coils.length p.c1, .slice p.A2 m.inputs.length p.c2, .slice p.A3 m.holding.length p.c3, .slice p.A4 m.words.length p.c4] 28) = w1 at *
  clear hgs hgm
  replace hS := hS.below hb
  replace hM := hM.below hb
  replace hA := hA.below hb
  obtain ⟨s0, s1, s2, s3⟩ := bs.c4
  obtain ⟨m0, m1, m2, m3⟩ := bm.c4
  go_wp2_with fail
  refine (EL.out _).mono ?_
  rintro e w2 ⟨rfl, hs⟩
  clear s0 s1 s2 s3
  clear m0 m1 m2 m3
  replace bs := bs.all hs
  replace bm := bm.all hs
  replace hS := hS.below hs
  replace hM := hM.below hs
  replace hA := hA.below hs
  replace hb := bthen hb hs
  clear hs
  obtain ⟨s0, s1, s2, s3⟩ := bs.c4
  obtain ⟨m0, m1, m2, m3⟩ := bm.c4
  cases lt with
  | false =>
    go_wp2_with fail
    refine (law07_awake _).mono ?_
    rintro e wz ⟨rfl, hs⟩
    go_wp2_with fail
    go_ret
    exact ⟨rfl, bthen hb hs⟩
  | true =>
    obtain ⟨hsf4, hmf3⟩ := HLF.out rfl
    clear HLF HLT EL
    have hsf6 := Sp.few_le hsf4 (show 40 ≤ 1000000 by omega)
    have hmf5 := Mm.few_le hmf3 (show 300 ≤ 100000 by omega)
    by_cases h0 : n = 0
    · have v0 : ((n : Int) == 0) = true := by simp [h0]
      clear h0
      go_wp2_with fail
      refine (law07_awake _).mono ?_
      rintro e wz ⟨rfl, hs⟩
      go_wp2_with fail
      go_ret
      exact ⟨rfl, bthen hb hs⟩
    have v0 : ((n : Int) == 0) = false := by simp; omega
    by_cases h1 : 121 < n
    · have v1 : decide ((121 : Int) < (n : Int)) = true := decide_eq_true (by omega)
      go_wp2_with fail
      refine (law07_awake _).mono ?_
      rintro e wz ⟨rfl, hs⟩
      go_wp2_with fail
      go_ret
      exact ⟨rfl, bthen hb hs⟩
    have v1 : decide ((121 : Int) < (n : Int)) = false := decide_eq_false (by omega)
    have ER := Lib.hid (fun W h => md_Right s q m p W h hsk hsf6)
    obtain ⟨rs, hrs⟩ : ∃ b, rightSM s m = b := ⟨_, rfl⟩
    rw [hrs] at ER
    have HRS := Lib.hid hrs
    simp only [Sp.v, Mm.v] at ER
    clear hrs
    go_wp2_with fail
    refine (ER.out _ hS).mono ?_
    rintro e w3 ⟨rfl, hs⟩
    clear s0 s1 s2 s3
    clear m0 m1 m2 m3
    replace bs := bs.all hs
    replace bm := bm.all hs
    replace hS := hS.below hs
    replace hM := hM.below hs
    replace hA := hA.below hs
    replace hb := bthen hb hs
    clear hs
    obtain ⟨s0, s1, s2, s3⟩ := bs.c4
    obtain ⟨m0, m1, m2, m3⟩ := bm.c4
    cases rs with
    | false =>
      go_wp2_with fail
      refine (law07_awake _).mono ?_
      rintro e wz ⟨rfl, hs⟩
      go_wp2_with fail
      go_ret
      exact ⟨rfl, bthen hb hs⟩
    | true =>
      clear ER
      obtain ⟨n1, r, e1⟩ : ∃ a b, doM s m ⟨23, t, c, o, ws_, []⟩ = (a, b) := ⟨_, _, rfl⟩
      obtain ⟨n2, x, e2⟩ : ∃ a b, doM s m ⟨16, o, ws_.length, 0, ws_, []⟩ = (a, b) := ⟨_, _, rfl⟩
      obtain ⟨n3, y, e3⟩ : ∃ a b, doM s n2 ⟨3, t, c, 0, [], []⟩ = (a, b) := ⟨_, _, rfl⟩
      have SW := Lib.hid (swap_law s m t c o ws_ HRS.out (by rw [HN.out]; omega) (by rw [HN.out]; omega) e1 e2 e3)
      have hf2 : n2.few 300 := by have := hmf3.few_do s ⟨16, o, ws_.length, 0, ws_, []⟩; rw [e2] at this; exact this
      have hf1 : n1.few 300 := by have := hmf3.few_do s ⟨23, t, c, o, ws_, []⟩; rw [e1] at this; exact this
      have hry : r.words.length ≤ 100000 ∧ y.words.length ≤ 100000 := ⟨by have := doM_words s m ⟨23, t, c, o, ws_, []⟩ hmf5; rw [e1] at this; exact this, by have := doM_words s n2 ⟨3, t, c, 0, [], []⟩ (Mm.few_le hf2 (by omega)); rw [e3] at this; exact this⟩
      have G1 := Lib.hid (fun W h1 h2 h3 => law_Do s q m p ⟨23, t, c, o, ws_, []⟩ A cc none 0 W n1 r e1 h1 hsk hsf6 h2 hmf5 ⟨h3, .inl rfl⟩ ⟨by show (23 : Nat) < 256; decide, ht, hc, ho, hws⟩ (by show ws_.length ≤ _; rw [HN.out]; omega) (by simp))
      have G2 := Lib.hid (fun W h1 h2 h3 => law_Do s q m p ⟨16, o, ws_.length, 0, ws_, []⟩ A cc none 0 W n2 x e2 h1 hsk hsf6 h2 hmf5 ⟨h3, .inl rfl⟩ ⟨by show (16 : Nat) < 256; decide, ho, (by show ws_.length < _; rw [HN.out]; omega), by show (0 : Nat) < 65536; decide, hws⟩ (by show ws_.length ≤ _; rw [HN.out]; omega) (by simp))
      have G3 := Lib.hid (fun W p2 h1 h2 => law_Do s q n2 p2 ⟨3, t, c, 0, [], []⟩ none 0 none 0 W n3 y e3 h1 hsk hsf6 h2 (Mm.few_le hf2 (by omega)) ⟨.inl rfl, .inl rfl⟩ ⟨by show (3 : Nat) < 256; decide, ht, hc, by show (0 : Nat) < 65536; decide, by intro x hx; cases hx⟩ (by simp) (by simp))
      simp only [Sp.v, Mm.v, Ak.v, akV, List.length_nil, Int.cast_ofNat_Int, Int.natCast_zero, HN.out] at G1 G2 G3
      clear e1 e2 e3
      go_wp2_with fail
      refine (G1.out _ hS hM hA).mono ?_
      rintro e w4 ⟨p1, Ar1, cr1, Br1, dr1, hev, HM1, HR1, hcp1, hs⟩
      simp only [Mm.v, Rp.v, rpV] at hev
      subst hev
      clear s0 s1 s2 s3
      clear m0 m1 m2 m3
      replace bs := bs.all hs
      replace bm := bm.all hs
      replace hS := hS.below hs
      replace hM := hM.below hs
      replace hA := hA.below hs
      replace hb := bthen hb hs
      clear hs
      obtain ⟨s0, s1, s2, s3⟩ := bs.c4
      obtain ⟨m0, m1, m2, m3⟩ := bm.c4
      have hs := bx_space w4 (.cells #[.slice p1.A1 n1.coils.length p1.c1, .slice p1.A2 n1.inputs.length p1.c2, .slice p1.A3 n1.holding.length p1.c3, .slice p1.A4 n1.words.length p1.c4] 28) (.cells #[.int .u8 (r.fn : Int), .int .u8 (r.ex : Int), .slice Br1 r.bits.length dr1, .slice Ar1 r.words.length cr1, .int .u16 (r.at_ : Int), .int .u16 (r.many : Int)] 36)
      have bn1 := (Blk.new w4 28 #[.slice p1.A1 n1.coils.length p1.c1, .slice p1.A2 n1.inputs.length p1.c2, .slice p1.A3 n1.holding.length p1.c3, .slice p1.A4 n1.words.length p1.c4]).alloc (.cells #[.int .u8 (r.fn : Int), .int .u8 (r.ex : Int), .slice Br1 r.bits.length dr1, .slice Ar1 r.words.length cr1, .int .u16 (r.at_ : Int), .int .u16 (r.many : Int)] 36)
      have br1 := Blk.newAt (w4.alloc (.cells #[.slice p1.A1 n1.coils.length p1.c1, .slice p1.A2 n1.inputs.length p1.c2, .slice p1.A3 n1.holding.length p1.c3, .slice p1.A4 n1.words.length p1.c4] 28)) 36 #[.int .u8 (r.fn : Int), .int .u8 (r.ex : Int), .slice Br1 r.bits.length dr1, .slice Ar1 r.words.length cr1, .int .u16 (r.at_ : Int), .int .u16 (r.many : Int)] (w4.heap.size + 1) (World.size_alloc _ _)
      go_upto_region 4 with fail
      generalize (w4.alloc (.cells #[.slice p1.A1 n1.coils.length p1.c1, .slice p1.A2 n1.inputs.length p1.c2, .slice p1.A3 n1.holding.length p1.c3, .slice p1.A4 n1.words.length p1.c4] 28)).alloc (.cells #[.int .u8 (r.fn : Int), .int .u8 (r.ex : Int), .slice Br1 r.bits.length dr1, .slice Ar1 r.words.length cr1, .int .u16 (r.at_ : Int), .int .u16 (r.many : Int)] 36) = w5 at *
      obtain ⟨gn1, hgn⟩ : ∃ g, w4.heap.size = g := ⟨_, rfl⟩
      obtain ⟨gr1, hgr⟩ : ∃ g, w4.heap.size + 1 = g := ⟨_, rfl⟩
      rw [hgr] at br1
      (try rw [hgr])
      rw [hgn] at bn1
      (try rw [hgn])
      replace HM1 := HM1.below hs
      replace HR1 := HR1.below hs
      clear hgn hgr
      clear s0 s1 s2 s3
      clear m0 m1 m2 m3
      replace bs := bs.all hs
      replace bm := bm.all hs
      replace hS := hS.below hs
      replace hM := hM.below hs
      replace hA := hA.below hs
      replace hb := bthen hb hs
      clear hs
      obtain ⟨s0, s1, s2, s3⟩ := bs.c4
      obtain ⟨m0, m1, m2, m3⟩ := bm.c4
      have w16 : IntKind.u16.wrap (n : Int) = (n : Int) := by rw [IntKind.wrap_u16]; omega
      go_wp2_with fail
      refine (G2.out _ hS hM hA).mono ?_
      rintro e w6 ⟨p2, Ar2, cr2, Br2, dr2, hev, HM2, HR2, hcp2, hs⟩
      simp only [Mm.v, Rp.v, rpV] at hev
      subst hev
      clear s0 s1 s2 s3
      clear m0 m1 m2 m3
      replace bs := bs.all hs
      replace bm := bm.all hs
      replace hS := hS.below hs
      replace hM := hM.below hs
      replace hA := hA.below hs
      replace bn1 := bn1.all hs
      replace br1 := br1.all hs
      replace HM1 := HM1.below hs
      replace HR1 := HR1.below hs
      replace hb := bthen hb hs
      clear hs
      obtain ⟨s0, s1, s2, s3⟩ := bs.c4
      obtain ⟨m0, m1, m2, m3⟩ := bm.c4
      have hs := bx_space w6 (.cells #[.slice p2.A1 n2.coils.length p2.c1, .slice p2.A2 n2.inputs.length p2.c2, .slice p2.A3 n2.holding.length p2.c3, .slice p2.A4 n2.words.length p2.c4] 28) (.cells #[.int .u8 (x.fn : Int), .int .u8 (x.ex : Int), .slice Br2 x.bits.length dr2, .slice Ar2 x.words.length cr2, .int .u16 (x.at_ : Int), .int .u16 (x.many : Int)] 36)
      have bn2 := (Blk.new w6 28 #[.slice p2.A1 n2.coils.length p2.c1, .slice p2.A2 n2.inputs.length p2.c2, .slice p2.A3 n2.holding.length p2.c3, .slice p2.A4 n2.words.length p2.c4]).alloc (.cells #[.int .u8 (x.fn : Int), .int .u8 (x.ex : Int), .slice Br2 x.bits.length dr2, .slice Ar2 x.words.length cr2, .int .u16 (x.at_ : Int), .int .u16 (x.many : Int)] 36)
      have br2 := Blk.newAt (w6.alloc (.cells #[.slice p2.A1 n2.coils.length p2.c1, .slice p2.A2 n2.inputs.length p2.c2, .slice p2.A3 n2.holding.length p2.c3, .slice p2.A4 n2.words.length p2.c4] 28)) 36 #[.int .u8 (x.fn : Int), .int .u8 (x.ex : Int), .slice Br2 x.bits.length dr2, .slice Ar2 x.words.length cr2, .int .u16 (x.at_ : Int), .int .u16 (x.many : Int)] (w6.heap.size + 1) (World.size_alloc _ _)
      go_upto_region 5 with fail
      generalize (w6.alloc (.cells #[.slice p2.A1 n2.coils.length p2.c1, .slice p2.A2 n2.inputs.length p2.c2, .slice p2.A3 n2.holding.length p2.c3, .slice p2.A4 n2.words.length p2.c4] 28)).alloc (.cells #[.int .u8 (x.fn : Int), .int .u8 (x.ex : Int), .slice Br2 x.bits.length dr2, .slice Ar2 x.words.length cr2, .int .u16 (x.at_ : Int), .int .u16 (x.many : Int)] 36) = w7 at *
      obtain ⟨gn2, hgn⟩ : ∃ g, w6.heap.size = g := ⟨_, rfl⟩
      obtain ⟨gr2, hgr⟩ : ∃ g, w6.heap.size + 1 = g := ⟨_, rfl⟩
      rw [hgr] at br2
      (try rw [hgr])
      rw [hgn] at bn2
      (try rw [hgn])
      replace HM2 := HM2.below hs
      replace HR2 := HR2.below hs
      clear hgn hgr
      clear s0 s1 s2 s3
      clear m0 m1 m2 m3
      replace bs := bs.all hs
      replace bm := bm.all hs
      replace hS := hS.below hs
      replace hM := hM.below hs
      replace hA := hA.below hs
      replace bn1 := bn1.all hs
      replace br1 := br1.all hs
      replace HM1 := HM1.below hs
      replace HR1 := HR1.below hs
      replace hb := bthen hb hs
      clear hs
      obtain ⟨s0, s1, s2, s3⟩ := bs.c4
      obtain ⟨m0, m1, m2, m3⟩ := bm.c4
      obtain ⟨zn0, zn1, zn2, zn3⟩ := bn2.c4
      go_wp2_with fail
      refine (G3.out _ p2 hS HM2).mono ?_
      rintro e w8 ⟨p3, Ar3, cr3, Br3, dr3, hev, HM3, HR3, hcp3, hs⟩
      simp only [Mm.v, Rp.v, rpV] at hev
      subst hev
      clear s0 s1 s2 s3
      clear m0 m1 m2 m3
      clear zn0 zn1 zn2 zn3
      replace bs := bs.all hs
      replace bm := bm.all hs
      replace hS := hS.below hs
      replace hM := hM.below hs
      replace hA := hA.below hs
      replace bn1 := bn1.all hs
      replace br1 := br1.all hs
      replace HM1 := HM1.below hs
      replace HR1 := HR1.below hs
      replace bn2 := bn2.all hs
      replace br2 := br2.all hs
      replace HM2 := HM2.below hs
      replace HR2 := HR2.below hs
      replace hb := bthen hb hs
      clear hs
      obtain ⟨s0, s1, s2, s3⟩ := bs.c4
      obtain ⟨m0, m1, m2, m3⟩ := bm.c4
      obtain ⟨zn0, zn1, zn2, zn3⟩ := bn2.c4
      have hs := bx_space w8 (.cells #[.slice p3.A1 n3.coils.length p3.c1, .slice p3.A2 n3.inputs.length p3.c2, .slice p3.A3 n3.holding.length p3.c3, .slice p3.A4 n3.words.length p3.c4] 28) (.cells #[.int .u8 (y.fn : Int), .int .u8 (y.ex : Int), .slice Br3 y.bits.length dr3, .slice Ar3 y.words.length cr3, .int .u16 (y.at_ : Int), .int .u16 (y.many : Int)] 36)
      have bn3 := (Blk.new w8 28 #[.slice p3.A1 n3.coils.length p3.c1, .slice p3.A2 n3.inputs.length p3.c2, .slice p3.A3 n3.holding.length p3.c3, .slice p3.A4 n3.words.length p3.c4]).alloc (.cells #[.int .u8 (y.fn : Int), .int .u8 (y.ex : Int), .slice Br3 y.bits.length dr3, .slice Ar3 y.words.length cr3, .int .u16 (y.at_ : Int), .int .u16 (y.many : Int)] 36)
      have br3 := Blk.newAt (w8.alloc (.cells #[.slice p3.A1 n3.coils.length p3.c1, .slice p3.A2 n3.inputs.length p3.c2, .slice p3.A3 n3.holding.length p3.c3, .slice p3.A4 n3.words.length p3.c4] 28)) 36 #[.int .u8 (y.fn : Int), .int .u8 (y.ex : Int), .slice Br3 y.bits.length dr3, .slice Ar3 y.words.length cr3, .int .u16 (y.at_ : Int), .int .u16 (y.many : Int)] (w8.heap.size + 1) (World.size_alloc _ _)
      go_upto_region 6 with fail
      generalize (w8.alloc (.cells #[.slice p3.A1 n3.coils.length p3.c1, .slice p3.A2 n3.inputs.length p3.c2, .slice p3.A3 n3.holding.length p3.c3, .slice p3.A4 n3.words.length p3.c4] 28)).alloc (.cells #[.int .u8 (y.fn : Int), .int .u8 (y.ex : Int), .slice Br3 y.bits.length dr3, .slice Ar3 y.words.length cr3, .int .u16 (y.at_ : Int), .int .u16 (y.many : Int)] 36) = w9 at *
      obtain ⟨gn3, hgn⟩ : ∃ g, w8.heap.size = g := ⟨_, rfl⟩
      obtain ⟨gr3, hgr⟩ : ∃ g, w8.heap.size + 1 = g := ⟨_, rfl⟩
      rw [hgr] at br3
      (try rw [hgr])
      rw [hgn] at bn3
      (try rw [hgn])
      replace HM3 := HM3.below hs
      replace HR3 := HR3.below hs
      clear hgn hgr
      clear s0 s1 s2 s3
      clear m0 m1 m2 m3
      clear zn0 zn1 zn2 zn3
      replace bs := bs.all hs
      replace bm := bm.all hs
      replace hS := hS.below hs
      replace hM := hM.below hs
      replace hA := hA.below hs
      replace bn1 := bn1.all hs
      replace br1 := br1.all hs
      replace HM1 := HM1.below hs
      replace HR1 := HR1.below hs
      replace bn2 := bn2.all hs
      replace br2 := br2.all hs
      replace HM2 := HM2.below hs
      replace HR2 := HR2.below hs
      replace hb := bthen hb hs
      clear hs
      obtain ⟨s0, s1, s2, s3⟩ := bs.c4
      obtain ⟨m0, m1, m2, m3⟩ := bm.c4
      obtain ⟨zn0, zn1, zn2, zn3⟩ := bn2.c4
      clear zn0 zn1 zn2 zn3
      clear s0 s1 s2 s3
      clear bs hS hA bn2 HM2 HR2
      clear G1 G2 G3
      obtain ⟨zx0, zx1, zx2, zx3, zx4, zx5⟩ := br2.c6
      obtain ⟨zy0, zy1, zy2, zy3, zy4, zy5⟩ := br3.c6
      obtain ⟨zr0, zr1, zr2, zr3, zr4, zr5⟩ := br1.c6
      obtain ⟨zn0, zn1, zn2, zn3⟩ := bn1.c4
      by_cases hy0 : y.ex = 0
      · have vy : ((y.ex : Int) == 0) = true := by simp [hy0]
        have vy2 : ((y.ex : Int) != 0) = false := by simp [hy0]
        by_cases hx0 : x.ex = 0
        · have vx2 : ((x.ex : Int) != 0) = false := by simp [hx0]
          have SWB := Lib.hid (SW.out.2 hx0 hy0)
          have ES := Lib.hid (fun W h1 h2 => law07_same n1 p1 n3 p3 W h1 h2 (Mm.few_le hf1 (by omega)))
          have hsm : sameM n1 n3 = true := sameM_iff.2 SWB.out.1
          rw [hsm] at ES
          have EW := Lib.hid (fun (W : World) (h1 : Rd W Ar1 (ws r.words)) (h2 : Rd W Ar3 (ws y.words)) => low_Words Ar1 Ar3 r.words.length cr1 y.words.length cr3 r.words y.words W h1 h2 rfl rfl (by omega))
          have hsw : sameB r.words y.words = true := sameB_iff.2 SWB.out.2.2
          rw [hsw] at EW
          simp only [Mm.v] at ES
          have vr : ((r.ex : Int) == 0) = true := by have := SWB.out.2.1; simp [this]
          clear hsm hsw hx0 hy0

          obtain ⟨zk0, zk1, zk2, zk3⟩ := bn3.c4
          go_wp2_with fail
          refine (ES.out _ HM1 HM3).mono ?_
          rintro e w10 ⟨rfl, hs⟩
          clear m0 m1 m2 m3
          clear zx0 zx1 zx2 zx3 zx4 zx5
          clear zy0 zy1 zy2 zy3 zy4 zy5
          clear zr0 zr1 zr2 zr3 zr4 zr5
          clear zn0 zn1 zn2 zn3
          clear zk0 zk1 zk2 zk3
          replace bm := bm.all hs
          replace hM := hM.below hs
          replace bn1 := bn1.all hs
          replace br1 := br1.all hs
          replace HM1 := HM1.below hs
          replace HR1 := HR1.below hs
          replace br2 := br2.all hs
          replace bn3 := bn3.all hs
          replace br3 := br3.all hs
          replace HM3 := HM3.below hs
          replace HR3 := HR3.below hs
          replace hb := bthen hb hs
          clear hs
          obtain ⟨m0, m1, m2, m3⟩ := bm.c4
          obtain ⟨zx0, zx1, zx2, zx3, zx4, zx5⟩ := br2.c6
          obtain ⟨zy0, zy1, zy2, zy3, zy4, zy5⟩ := br3.c6
          obtain ⟨zr0, zr1, zr2, zr3, zr4, zr5⟩ := br1.c6
          obtain ⟨zn0, zn1, zn2, zn3⟩ := bn1.c4
          obtain ⟨zk0, zk1, zk2, zk3⟩ := bn3.c4
          go_wp2_with fail
          refine (EW.out _ HR1.words HR3.words).mono ?_
          rintro e w11 ⟨rfl, hdn⟩
          have hs := drewN_below hdn
          clear hdn
          clear m0 m1 m2 m3
          clear zx0 zx1 zx2 zx3 zx4 zx5
          clear zy0 zy1 zy2 zy3 zy4 zy5
          clear zr0 zr1 zr2 zr3 zr4 zr5
          clear zn0 zn1 zn2 zn3
          clear zk0 zk1 zk2 zk3
          replace bm := bm.all hs
          replace hM := hM.below hs
          replace bn1 := bn1.all hs
          replace br1 := br1.all hs
          replace HM1 := HM1.below hs
          replace HR1 := HR1.below hs
          replace br2 := br2.all hs
          replace bn3 := bn3.all hs
          replace br3 := br3.all hs
          replace HM3 := HM3.below hs
          replace HR3 := HR3.below hs
          replace hb := bthen hb hs
          clear hs
          obtain ⟨m0, m1, m2, m3⟩ := bm.c4
          obtain ⟨zx0, zx1, zx2, zx3, zx4, zx5⟩ := br2.c6
          obtain ⟨zy0, zy1, zy2, zy3, zy4, zy5⟩ := br3.c6
          obtain ⟨zr0, zr1, zr2, zr3, zr4, zr5⟩ := br1.c6
          obtain ⟨zn0, zn1, zn2, zn3⟩ := bn1.c4
          obtain ⟨zk0, zk1, zk2, zk3⟩ := bn3.c4
          go_wp2_with fail
          refine (law07_awake _).mono ?_
          rintro e wz ⟨rfl, hs⟩
          go_wp2_with fail
          go_ret
          exact ⟨rfl, bthen hb hs⟩
        · have vx2 : ((x.ex : Int) != 0) = true := by simp; omega
          have SWB := Lib.hid (SW.out.1 (.inl hx0))
          have ES := Lib.hid (fun W h1 h2 => law07_same n1 p1 m p W h1 h2 (Mm.few_le hf1 (by omega)))
          have hsm : sameM n1 m = true := sameM_iff.2 SWB.out.1
          rw [hsm] at ES
          simp only [Mm.v] at ES
          clear hsm
          have vr : ((r.ex : Int) == 2) = true := by have := SWB.out.2; rw [if_pos (.inl hy0)] at this; simp [this]
          clear hx0 hy0
          go_wp2_with fail
          refine (ES.out _ HM1 hM).mono ?_
          rintro e w10 ⟨rfl, hs⟩
          clear m0 m1 m2 m3
          clear zx0 zx1 zx2 zx3 zx4 zx5
          clear zy0 zy1 zy2 zy3 zy4 zy5
          clear zr0 zr1 zr2 zr3 zr4 zr5
          clear zn0 zn1 zn2 zn3
          replace bm := bm.all hs
          replace hM := hM.below hs
          replace bn1 := bn1.all hs
          replace br1 := br1.all hs
          replace HM1 := HM1.below hs
          replace HR1 := HR1.below hs
          replace br2 := br2.all hs
          replace bn3 := bn3.all hs
          replace br3 := br3.all hs
          replace HM3 := HM3.below hs
          replace HR3 := HR3.below hs
          replace hb := bthen hb hs
          clear hs
          obtain ⟨m0, m1, m2, m3⟩ := bm.c4
          obtain ⟨zx0, zx1, zx2, zx3, zx4, zx5⟩ := br2.c6
          obtain ⟨zy0, zy1, zy2, zy3, zy4, zy5⟩ := br3.c6
          obtain ⟨zr0, zr1, zr2, zr3, zr4, zr5⟩ := br1.c6
          obtain ⟨zn0, zn1, zn2, zn3⟩ := bn1.c4
          go_wp2_with fail
          refine (law07_awake _).mono ?_
          rintro e wz ⟨rfl, hs⟩
          go_wp2_with fail
          go_ret
          exact ⟨rfl, bthen hb hs⟩
      have vy : ((y.ex : Int) == 0) = false := by simp; omega
      have vy2 : ((y.ex : Int) != 0) = true := by simp; omega
      have vxs : ((x.ex : Int) != 0) = true ∨ ((x.ex : Int) != 0) = false := by cases ((x.ex : Int) != 0) <;> simp
      have SWB := Lib.hid (SW.out.1 (.inr hy0))
      by_cases hy2 : y.ex = 2
      · have vy3 : ((y.ex : Int) == 2) = true := by simp [hy2]
        have vr : ((r.ex : Int) == 2) = true := by have := SWB.out.2; rw [if_pos (.inr hy2)] at this; simp [this]
        have ES := Lib.hid (fun W h1 h2 => law07_same n1 p1 m p W h1 h2 (Mm.few_le hf1 (by omega)))
        have hsm : sameM n1 m = true := sameM_iff.2 SWB.out.1
        rw [hsm] at ES
        simp only [Mm.v] at ES
        clear hsm hy0 hy2
        rcases vxs with vx2 | vx2
        all_goals
          go_wp2_with fail
          refine (ES.out _ HM1 hM).mono ?_
          rintro e w10 ⟨rfl, hs⟩
          clear m0 m1 m2 m3
          clear zx0 zx1 zx2 zx3 zx4 zx5
          clear zy0 zy1 zy2 zy3 zy4 zy5
          clear zr0 zr1 zr2 zr3 zr4 zr5
          clear zn0 zn1 zn2 zn3
          replace bm := bm.all hs
          replace hM := hM.below hs
          replace bn1 := bn1.all hs
          replace br1 := br1.all hs
          replace HM1 := HM1.below hs
          replace HR1 := HR1.below hs
          replace br2 := br2.all hs
          replace bn3 := bn3.all hs
          replace br3 := br3.all hs
          replace HM3 := HM3.below hs
          replace HR3 := HR3.below hs
          replace hb := bthen hb hs
          clear hs
          obtain ⟨m0, m1, m2, m3⟩ := bm.c4
          obtain ⟨zx0, zx1, zx2, zx3, zx4, zx5⟩ := br2.c6
          obtain ⟨zy0, zy1, zy2, zy3, zy4, zy5⟩ := br3.c6
          obtain ⟨zr0, zr1, zr2, zr3, zr4, zr5⟩ := br1.c6
          obtain ⟨zn0, zn1, zn2, zn3⟩ := bn1.c4
          go_wp2_with fail
          refine (law07_awake _).mono ?_
          rintro e wz ⟨rfl, hs⟩
          go_wp2_with fail
          go_ret
          exact ⟨rfl, bthen hb hs⟩
      · have vy3 : ((y.ex : Int) == 2) = false := by simp; omega
        have vr : ((r.ex : Int) == (y.ex : Int)) = true := by have := SWB.out.2; rw [if_neg (by omega)] at this; simp [this]
        have ES := Lib.hid (fun W h1 h2 => law07_same n1 p1 m p W h1 h2 (Mm.few_le hf1 (by omega)))
        have hsm : sameM n1 m = true := sameM_iff.2 SWB.out.1
        rw [hsm] at ES
        simp only [Mm.v] at ES
        clear hsm hy0 hy2
        rcases vxs with vx2 | vx2
        all_goals
          go_wp2_with fail
          refine (ES.out _ HM1 hM).mono ?_
          rintro e w10 ⟨rfl, hs⟩
          clear m0 m1 m2 m3
          clear zx0 zx1 zx2 zx3 zx4 zx5
          clear zy0 zy1 zy2 zy3 zy4 zy5
          clear zr0 zr1 zr2 zr3 zr4 zr5
          clear zn0 zn1 zn2 zn3
          replace bm := bm.all hs
          replace hM := hM.below hs
          replace bn1 := bn1.all hs
          replace br1 := br1.all hs
          replace HM1 := HM1.below hs
          replace HR1 := HR1.below hs
          replace br2 := br2.all hs
          replace bn3 := bn3.all hs
          replace br3 := br3.all hs
          replace HM3 := HM3.below hs
          replace HR3 := HR3.below hs
          replace hb := bthen hb hs
          clear hs
          obtain ⟨m0, m1, m2, m3⟩ := bm.c4
          obtain ⟨zx0, zx1, zx2, zx3, zx4, zx5⟩ := br2.c6
          obtain ⟨zy0, zy1, zy2, zy3, zy4, zy5⟩ := br3.c6
          obtain ⟨zr0, zr1, zr2, zr3, zr4, zr5⟩ := br1.c6
          obtain ⟨zn0, zn1, zn2, zn3⟩ := bn1.c4
          go_wp2_with fail
          refine (law07_awake _).mono ?_
          rintro e wz ⟨rfl, hs⟩
          go_wp2_with fail
          go_ret
          exact ⟨rfl, bthen hb hs⟩
end Go.Proofs.Ytechhidfgheejaa
