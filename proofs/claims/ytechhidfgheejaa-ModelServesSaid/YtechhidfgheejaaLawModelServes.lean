/- The walk of model.Serve, and of the law ModelServes (written by gen_mserves.py). -/
import Derived.Test.YtechhidfgheejaaMdLawC
namespace Go.Proofs.Ytechhidfgheejaa
open Go.RowKit
set_option linter.unusedSimpArgs false
set_option linter.unusedVariables false

/-- rows that hold no slices lie beside a box of slices -/
theorem Rd.put4 {w : World} {g : Nat} {t : TypeId} {A : Option Addr} {xs : List Value} {x0 x1 x2 x3 : Value} (h : Rd w A xs) (hb : Blk w g t #[.slice none 0 0, .slice none 0 0, .slice none 0 0, .slice none 0 0]) (hx : ∀ u ∈ xs, u ≠ .slice none 0 0) :
    Rd ((((w.setCell ⟨g, 0, none⟩ x0).setCell ⟨g, 1, none⟩ x1).setCell ⟨g, 2, none⟩ x2).setCell ⟨g, 3, none⟩ x3) A xs := by
  rcases h with h | ⟨b, off, hA, hc⟩
  · exact .inl h
  · rcases xs with _ | ⟨y, ys⟩
    · exact .inl rfl
    · have hne : b ≠ g := by
        intro e
        subst e
        have h0 := hc 0 y rfl
        rw [Nat.add_zero, hb.cell] at h0
        have hm : y ∈ #[Value.slice none 0 0, .slice none 0 0, .slice none 0 0, .slice none 0 0] := Array.mem_of_getElem? h0
        exact hx y (List.mem_cons_self ..) (by simpa using hm)
      refine .inr ⟨b, off, hA, fun j u hu => ?_⟩
      have hf : ∀ (W : World) (i : Nat) (v : Value), (W.setCell ⟨g, i, none⟩ v).cell? ⟨b, off + j, none⟩ = W.cell? ⟨b, off + j, none⟩ := fun W i v => World.cell?_setCell_far W _ _ v (by simp only; intro e; exact hne e.symm)
      rw [hf, hf, hf, hf]
      exact hc j u hu
theorem os_no (l : List Bool) : ∀ u ∈ os l, u ≠ .slice none 0 0 := by intro u hu; simp only [os, List.mem_map] at hu; obtain ⟨x, -, rfl⟩ := hu; intro e; cases e
theorem ws_no (l : List Nat) : ∀ u ∈ ws l, u ≠ .slice none 0 0 := by intro u hu; simp only [ws, List.mem_map] at hu; obtain ⟨x, -, rfl⟩ := hu; intro e; cases e
theorem bs_no (l : List Nat) : ∀ u ∈ bs l, u ≠ .slice none 0 0 := by intro u hu; simp only [bs, List.mem_map] at hu; obtain ⟨x, -, rfl⟩ := hu; intro e; cases e
theorem MmR.put4 {w : World} {g : Nat} {t : TypeId} {m : Mm} {A1 A2 A3 A4 : Option Addr} {x0 x1 x2 x3 : Value} (h : MmR w m A1 A2 A3 A4) (hb : Blk w g t #[.slice none 0 0, .slice none 0 0, .slice none 0 0, .slice none 0 0]) :
    MmR ((((w.setCell ⟨g, 0, none⟩ x0).setCell ⟨g, 1, none⟩ x1).setCell ⟨g, 2, none⟩ x2).setCell ⟨g, 3, none⟩ x3) m A1 A2 A3 A4 := ⟨h.coils.put4 hb (os_no _), h.inputs.put4 hb (os_no _), h.holding.put4 hb (ws_no _), h.words.put4 hb (ws_no _)⟩
set_option maxRecDepth 100000 in
set_option maxHeartbeats 2000000 in
theorem md_Serve (s : Sp) (q : Q8) (m : Mm) (p : Q8) (A : Option Addr) (n c : Nat) (l : List Nat) (w : World) (n1 : Mm) (b : List Nat) (hsv : serveM s m l = (n1, b)) (hS : SpR w s q) (hsk : s.ok) (hsf : s.few 1000000) (hM : MmR w m p.A1 p.A2 p.A3 p.A4) (hmk : m.ok) (hmf : m.few 100000) (hA : Rd w A (bs l)) (hn : l.length = n) (hl : Bs l) (hnc : n ≤ c) (hbig : n ≤ 1000) :
    Calls Try.prog 13 #[s.v q, m.v p.A1 p.c1 p.A2 p.c2 p.A3 p.c3 p.A4 p.c4, .slice A n c] w fun e w' => ∃ (p' : Q8) (A' : Option Addr) (c' : Nat), e = .returned (.tuple #[n1.v p'.A1 p'.c1 p'.A2 p'.c2 p'.A3 p'.c3 p'.A4 p'.c4, .slice A' b.length c']) ∧ MmR w' n1 p'.A1 p'.A2 p'.A3 p'.A4 ∧ Rd w' A' (bs b) ∧ b.length ≤ c' ∧ Below w.heap.size w w' := by
  have HN := Lib.hid hn
  have hlk := look_small hl
  have E1 := Lib.hid (fun W h => ask_Look A n c l W h hn hl hnc (by omega))
  have HSV : Hid ((n1, b) = if (lookA l).2 ≠ 0 then (m, bytesR (wrongR (lookA l).1.fn (lookA l).2)) else ((doM s m (lookA l).1).1, bytesR (doM s m (lookA l).1).2)) := by (show _ = _); rw [← hsv]; rfl
  obtain ⟨a, ha⟩ : ∃ a, (lookA l).1 = a := ⟨_, rfl⟩
  obtain ⟨x, hx⟩ : ∃ x, (lookA l).2 = x := ⟨_, rfl⟩
  rw [ha, hx] at E1 HSV hlk
  obtain ⟨hsm, hx4, hx1⟩ := hlk
  clear ha hx hsv hn
  unfold Told at E1
  simp only [Ak.v, akV] at E1
  simp only [Sp.v, Mm.v]
  have hb := (((Below.refl w.heap.size w).alloc (Nat.le_refl _) (.cells #[.slice q.A1 s.coils.length q.c1, .slice q.A2 s.inputs.length q.c2, .slice q.A3 s.holding.length q.c3, .slice q.A4 s.words.length q.c4] 24)).alloc (by simp) (.cells #[.slice p.A1 m.coils.length p.c1, .slice p.A2 m.inputs.length p.c2, .slice p.A3 m.holding.length p.c3, .slice p.A4 m.words.length p.c4] 28)).alloc (by simp; omega) (.cells #[.slice none 0 0, .slice none 0 0, .slice none 0 0, .slice none 0 0] 28)
  have bsp := ((Blk.newAt w 24 #[.slice q.A1 s.coils.length q.c1, .slice q.A2 s.inputs.length q.c2, .slice q.A3 s.holding.length q.c3, .slice q.A4 s.words.length q.c4] (w.heap.size) rfl).alloc (.cells #[.slice p.A1 m.coils.length p.c1, .slice p.A2 m.inputs.length p.c2, .slice p.A3 m.holding.length p.c3, .slice p.A4 m.words.length p.c4] 28)).alloc (.cells #[.slice none 0 0, .slice none 0 0, .slice none 0 0, .slice none 0 0] 28)
  have bm := (Blk.newAt (w.alloc (.cells #[.slice q.A1 s.coils.length q.c1, .slice q.A2 s.inputs.length q.c2, .slice q.A3 s.holding.length q.c3, .slice q.A4 s.words.length q.c4] 24)) 28 #[.slice p.A1 m.coils.length p.c1, .slice p.A2 m.inputs.length p.c2, .slice p.A3 m.holding.length p.c3, .slice p.A4 m.words.length p.c4] (w.heap.size + 1) (by simp [World.size_alloc])).alloc (.cells #[.slice none 0 0, .slice none 0 0, .slice none 0 0, .slice none 0 0] 28)
  have b6 := Blk.newAt ((w.alloc (.cells #[.slice q.A1 s.coils.length q.c1, .slice q.A2 s.inputs.length q.c2, .slice q.A3 s.holding.length q.c3, .slice q.A4 s.words.length q.c4] 24)).alloc (.cells #[.slice p.A1 m.coils.length p.c1, .slice p.A2 m.inputs.length p.c2, .slice p.A3 m.holding.length p.c3, .slice p.A4 m.words.length p.c4] 28)) 28 #[.slice none 0 0, .slice none 0 0, .slice none 0 0, .slice none 0 0] (w.heap.size + 1 + 1) (by simp [World.size_alloc])
  go_enter Try.func13, Try.ntmps13
  go_upto_region 1 with fail
  obtain ⟨gm, hgm⟩ : ∃ g, w.heap.size + 1 = g := ⟨_, rfl⟩
  rw [hgm] at bm b6 ⊢
  obtain ⟨g6, hg6⟩ : ∃ g, gm + 1 = g := ⟨_, rfl⟩
  rw [hg6] at b6 ⊢
  obtain ⟨gs, hgs⟩ : ∃ g, w.heap.size = g := ⟨_, rfl⟩
  rw [hgs] at bsp ⊢
  generalize ((w.alloc (.cells #[.slice q.A1 s.coils.length q.c1, .slice q.A2 s.inputs.length q.c2, .slice q.A3 s.holding.length q.c3, .slice q.A4 s.words.length q.c4] 24)).alloc (.cells #[.slice p.A1 m.coils.length p.c1, .slice p.A2 m.inputs.length p.c2, .slice p.A3 m.holding.length p.c3, .slice p.A4 m.words.length p.c4] 28)).alloc (.cells #[.slice none 0 0, .slice none 0 0, .slice none 0 0, .slice none 0 0] 28) = w1 at *
  have hwgs : w.heap.size ≤ gs := by omega
  have hwgm : w.heap.size ≤ gm := by omega
  have hwg6 : w.heap.size ≤ g6 := by omega
  clear hgs hgm hg6
  replace hS := hS.below hb
  replace hM := hM.below hb
  replace hA := hA.below hb
  go_wp2_with fail
  refine (E1.out _ hA).mono ?_
  rintro e w2 ⟨Aa, ca, Ba, da, rfl, ra, rb, hs⟩
  have ra := ra.rd
  have rb := rb.rd
  replace bsp := bsp.all hs
  replace bm := bm.all hs
  replace b6 := b6.all hs
  replace hS := hS.below hs
  replace hM := hM.below hs
  replace hA := hA.below hs
  replace hb := bthen hb hs
  clear hs
  have ba := Blk.new w2 41 #[.int .u8 (a.fn : Int), .int .u16 (a.at_ : Int), .int .u16 (a.many : Int), .int .u16 (a.to_ : Int), .slice Aa a.words.length ca, .slice Ba a.bits.length da]
  have hs := (Below.refl w2.heap.size w2).alloc (Nat.le_refl _) (.cells #[.int .u8 (a.fn : Int), .int .u16 (a.at_ : Int), .int .u16 (a.many : Int), .int .u16 (a.to_ : Int), .slice Aa a.words.length ca, .slice Ba a.bits.length da] 41)
  go_upto_region 2 with fail
  generalize w2.alloc (.cells #[.int .u8 (a.fn : Int), .int .u16 (a.at_ : Int), .int .u16 (a.many : Int), .int .u16 (a.to_ : Int), .slice Aa a.words.length ca, .slice Ba a.bits.length da] 41) = w3 at *
  obtain ⟨ga, hga⟩ : ∃ g, w2.heap.size = g := ⟨_, rfl⟩
  rw [hga] at ba
  (try rw [hga])
  clear hga
  replace ra := ra.below hs
  replace rb := rb.below hs
  replace bsp := bsp.all hs
  replace bm := bm.all hs
  replace b6 := b6.all hs
  replace hS := hS.below hs
  replace hM := hM.below hs
  replace hA := hA.below hs
  replace hb := bthen hb hs
  clear hs
  clear hA
  obtain ⟨zs0, zs1, zs2, zs3⟩ := bsp.c4
  obtain ⟨zm0, zm1, zm2, zm3⟩ := bm.c4
  obtain ⟨za0, za1, za2, za3, za4, za5⟩ := ba.c6
  by_cases hx0 : x ≠ 0
  · have HS2 : Hid (n1 = m ∧ b = bytesR (wrongR a.fn x)) := by have := HSV.out; rw [if_pos hx0] at this; injection this with h1 h2; exact ⟨h1, h2⟩
    have vx : ((x : Int) != 0) = true := by simp; omega
    have EW := Lib.hid (fun W => reply_Wrong a.fn x W hsm.ok.fn (by omega))
    have EB := Lib.hid (fun W => reply_Bytes (wrongR a.fn x) none 0 none 0 W ⟨.inl rfl, .inl rfl⟩ (wrongR_ok (by omega)) (by simp [wrongR]) (by simp [wrongR]))
    obtain ⟨rv, hrv⟩ : ∃ v, (wrongR a.fn x).v none 0 none 0 = v := ⟨_, rfl⟩
    rw [hrv] at EW EB
    rw [← HS2.out.2] at EB
    have EO := Lib.hid (fun W h => md_own m p.A1 p.c1 p.A2 p.c2 p.A3 p.c3 p.A4 p.c4 W h ⟨by have := hmf.coils; omega, by have := hmf.inputs; omega, by have := hmf.holding; omega, by have := hmf.words; omega⟩)
    simp only [Mm.v] at EO
    clear hx0 hrv
    go_wp2_with fail
    refine (EW.out _).mono ?_
    rintro e w4 ⟨rfl, hs⟩
    clear zs0 zs1 zs2 zs3
    clear zm0 zm1 zm2 zm3
    clear za0 za1 za2 za3 za4 za5
    replace bsp := bsp.all hs
    replace bm := bm.all hs
    replace b6 := b6.all hs
    replace hS := hS.below hs
    replace hM := hM.below hs
    replace ba := ba.all hs
    replace ra := ra.below hs
    replace rb := rb.below hs
    replace hb := bthen hb hs
    clear hs
    obtain ⟨zs0, zs1, zs2, zs3⟩ := bsp.c4
    obtain ⟨zm0, zm1, zm2, zm3⟩ := bm.c4
    obtain ⟨za0, za1, za2, za3, za4, za5⟩ := ba.c6
    go_wp2_with fail
    refine (EB.out _).mono ?_
    rintro e w5 ⟨Ab, cb, rfl, ob, hs⟩
    clear zs0 zs1 zs2 zs3
    clear zm0 zm1 zm2 zm3
    clear za0 za1 za2 za3 za4 za5
    replace bsp := bsp.all hs
    replace bm := bm.all hs
    replace b6 := b6.all hs
    replace hS := hS.below hs
    replace hM := hM.below hs
    replace ba := ba.all hs
    replace ra := ra.below hs
    replace rb := rb.below hs
    replace hb := bthen hb hs
    clear hs
    obtain ⟨zs0, zs1, zs2, zs3⟩ := bsp.c4
    obtain ⟨zm0, zm1, zm2, zm3⟩ := bm.c4
    obtain ⟨za0, za1, za2, za3, za4, za5⟩ := ba.c6
    go_wp2_with fail
    refine (EO.out _ hM).mono ?_
    rintro e w6 ⟨P1, q1, P2, q2, P3, q3, P4, q4, k1, k2, k3, rfl, HO, hs⟩
    clear zs0 zs1 zs2 zs3
    clear zm0 zm1 zm2 zm3
    clear za0 za1 za2 za3 za4 za5
    replace bsp := bsp.all hs
    replace bm := bm.all hs
    replace b6 := b6.all hs
    replace hS := hS.below hs
    replace hM := hM.below hs
    replace ba := ba.all hs
    replace ra := ra.below hs
    replace rb := rb.below hs
    replace ob := ob.below hs
    replace hb := bthen hb hs
    clear hs
    obtain ⟨zs0, zs1, zs2, zs3⟩ := bsp.c4
    obtain ⟨zm0, zm1, zm2, zm3⟩ := bm.c4
    obtain ⟨za0, za1, za2, za3, za4, za5⟩ := ba.c6
    clear zs0 zs1 zs2 zs3
    clear zm0 zm1 zm2 zm3
    clear za0 za1 za2 za3 za4 za5
    obtain ⟨z0, z1, z2, z3⟩ := b6.c4
    have y0 := b6.frozen 0
    have y1 := b6.frozen 1
    have y2 := b6.frozen 2
    have y3 := b6.frozen 3
    go_wp2_with fail
    refine bodyPost_ret (v := .tuple #[.agg #[.slice P1 m.coils.length q1, .slice P2 m.inputs.length q2, .slice P3 m.holding.length q3, .slice P4 m.words.length q4], .slice Ab b.length cb]) (by simp [results, Try.results13, go_sem, z0, z1, z2, z3]) rfl ?_
    have hb4 := below_put4 (x0 := .slice P1 m.coils.length q1) (x1 := .slice P2 m.inputs.length q2) (x2 := .slice P3 m.holding.length q3) (x3 := .slice P4 m.words.length q4) hb hwg6
    refine ⟨⟨P1, q1, P2, q2, P3, q3, P4, q4⟩, Ab, cb, ?_, ?_, ob.rd.put4 b6 (bs_no _), (by have := ob.le.1; rw [bs_length] at this; exact this), hb4⟩
    · rw [HS2.out.1]
    · rw [HS2.out.1]
      exact HO.rd.put4 b6
  have hx0' : x = 0 := by omega
  have HS2 : Hid (n1 = (doM s m a).1 ∧ b = bytesR (doM s m a).2) := by have := HSV.out; rw [if_neg hx0] at this; injection this with h1 h2; exact ⟨h1, h2⟩
  have vx : ((x : Int) != 0) = false := by simp [hx0']
  obtain ⟨r, e1⟩ : ∃ r, doM s m a = (n1, r) := ⟨(doM s m a).2, by rw [HS2.out.1]⟩
  have hb0 : bytesR r = b := by rw [HS2.out.2, e1]
  have hrok : r.ok := by have := doM_rok (s := s) hmk hsm.ok; rw [e1] at this; exact this
  have hrw : r.words.length ≤ 100000 := by have := doM_words s m a hmf; rw [e1] at this; exact this
  have hrb : r.bits.length ≤ 3000 := by have := (doM_rright s m a).2; rw [e1] at this; exact this
  have ED := Lib.hid (fun W h1 h2 (h3 : Rd W Aa (ws a.words)) (h4 : Rd W Ba (os a.bits)) => law_Do s q m p a Aa ca Ba da W n1 r e1 h1 hsk hsf h2 hmf ⟨h3, h4⟩ hsm.ok (by have := hsm.words; omega) (by have := hsm.bits; omega))
  have EB := Lib.hid (fun W A' c' B' d' (h : RpR W r A' B') => reply_Bytes r A' c' B' d' W h hrok (by omega) (by omega))
  rw [hb0] at EB
  simp only [Sp.v, Mm.v, Ak.v, akV] at ED
  simp only [Rp.v, rpV] at EB
  clear hx0 hx0' hb0 e1
  go_wp2_with fail
  refine (ED.out _ hS hM ra rb).mono ?_
  rintro e w4 ⟨p1, Ar1, cr1, Br1, dr1, hev, HM1, HR1, hcp1, hs⟩
  simp only [Mm.v, Rp.v, rpV] at hev
  subst hev
  clear zs0 zs1 zs2 zs3
  clear zm0 zm1 zm2 zm3
  clear za0 za1 za2 za3 za4 za5
  replace bsp := bsp.all hs
  replace bm := bm.all hs
  replace b6 := b6.all hs
  replace hS := hS.below hs
  replace hM := hM.below hs
  replace ba := ba.all hs
  replace ra := ra.below hs
  replace rb := rb.below hs
  replace hb := bthen hb hs
  clear hs
  obtain ⟨zs0, zs1, zs2, zs3⟩ := bsp.c4
  obtain ⟨zm0, zm1, zm2, zm3⟩ := bm.c4
  obtain ⟨za0, za1, za2, za3, za4, za5⟩ := ba.c6
  have hs := bx_space w4 (.cells #[.slice p1.A1 n1.coils.length p1.c1, .slice p1.A2 n1.inputs.length p1.c2, .slice p1.A3 n1.holding.length p1.c3, .slice p1.A4 n1.words.length p1.c4] 28) (.cells #[.int .u8 (r.fn : Int), .int .u8 (r.ex : Int), .slice Br1 r.bits.length dr1, .slice Ar1 r.words.length cr1, .int .u16 (r.at_ : Int), .int .u16 (r.many : Int)] 36)
  have bn1 := (Blk.new w4 28 #[.slice p1.A1 n1.coils.length p1.c1, .slice p1.A2 n1.inputs.length p1.c2, .slice p1.A3 n1.holding.length p1.c3, .slice p1.A4 n1.words.length p1.c4]).alloc (.cells #[.int .u8 (r.fn : Int), .int .u8 (r.ex : Int), .slice Br1 r.bits.length dr1, .slice Ar1 r.words.length cr1, .int .u16 (r.at_ : Int), .int .u16 (r.many : Int)] 36)
  have br1 := Blk.newAt (w4.alloc (.cells #[.slice p1.A1 n1.coils.length p1.c1, .slice p1.A2 n1.inputs.length p1.c2, .slice p1.A3 n1.holding.length p1.c3, .slice p1.A4 n1.words.length p1.c4] 28)) 36 #[.int .u8 (r.fn : Int), .int .u8 (r.ex : Int), .slice Br1 r.bits.length dr1, .slice Ar1 r.words.length cr1, .int .u16 (r.at_ : Int), .int .u16 (r.many : Int)] (w4.heap.size + 1) (World.size_alloc _ _)
  go_upto_region 6 with fail
  generalize (w4.alloc (.cells #[.slice p1.A1 n1.coils.length p1.c1, .slice p1.A2 n1.inputs.length p1.c2, .slice p1.A3 n1.holding.length p1.c3, .slice p1.A4 n1.words.length p1.c4] 28)).alloc (.cells #[.int .u8 (r.fn : Int), .int .u8 (r.ex : Int), .slice Br1 r.bits.length dr1, .slice Ar1 r.words.length cr1, .int .u16 (r.at_ : Int), .int .u16 (r.many : Int)] 36) = w5 at *
  obtain ⟨gn1, hgn⟩ : ∃ g, w4.heap.size = g := ⟨_, rfl⟩
  obtain ⟨gr1, hgr⟩ : ∃ g, w4.heap.size + 1 = g := ⟨_, rfl⟩
  rw [hgr] at br1
  (try rw [hgr])
  rw [hgn] at bn1
  (try rw [hgn])
  replace HM1 := HM1.below hs
  replace HR1 := HR1.below hs
  clear hgn hgr
  clear zs0 zs1 zs2 zs3
  clear zm0 zm1 zm2 zm3
  clear za0 za1 za2 za3 za4 za5
  replace bsp := bsp.all hs
  replace bm := bm.all hs
  replace b6 := b6.all hs
  replace hS := hS.below hs
  replace hM := hM.below hs
  replace ba := ba.all hs
  replace ra := ra.below hs
  replace rb := rb.below hs
  replace hb := bthen hb hs
  clear hs
  obtain ⟨zs0, zs1, zs2, zs3⟩ := bsp.c4
  obtain ⟨zm0, zm1, zm2, zm3⟩ := bm.c4
  obtain ⟨za0, za1, za2, za3, za4, za5⟩ := ba.c6
  clear zs0 zs1 zs2 zs3
  clear zm0 zm1 zm2 zm3
  clear za0 za1 za2 za3 za4 za5
  obtain ⟨zr0, zr1, zr2, zr3, zr4, zr5⟩ := br1.c6
  obtain ⟨zn0, zn1, zn2, zn3⟩ := bn1.c4
  go_wp2_with fail
  refine (EB.out _ _ _ _ _ HR1).mono ?_
  rintro e w6 ⟨Ab, cb, rfl, ob, hs⟩
  clear zr0 zr1 zr2 zr3 zr4 zr5
  clear zn0 zn1 zn2 zn3
  replace bsp := bsp.all hs
  replace bm := bm.all hs
  replace b6 := b6.all hs
  replace hS := hS.below hs
  replace hM := hM.below hs
  replace ba := ba.all hs
  replace ra := ra.below hs
  replace rb := rb.below hs
  replace bn1 := bn1.all hs
  replace br1 := br1.all hs
  replace HM1 := HM1.below hs
  replace HR1 := HR1.below hs
  replace hb := bthen hb hs
  clear hs
  obtain ⟨zr0, zr1, zr2, zr3, zr4, zr5⟩ := br1.c6
  obtain ⟨zn0, zn1, zn2, zn3⟩ := bn1.c4
  obtain ⟨z0, z1, z2, z3⟩ := b6.c4
  have y0 := b6.frozen 0
  have y1 := b6.frozen 1
  have y2 := b6.frozen 2
  have y3 := b6.frozen 3
  go_wp2_with fail
  refine bodyPost_ret (v := .tuple #[.agg #[.slice p1.A1 n1.coils.length p1.c1, .slice p1.A2 n1.inputs.length p1.c2, .slice p1.A3 n1.holding.length p1.c3, .slice p1.A4 n1.words.length p1.c4], .slice Ab b.length cb]) (by simp [results, Try.results13, go_sem, z0, z1, z2, z3]) rfl ?_
  have hb4 := below_put4 (x0 := .slice p1.A1 n1.coils.length p1.c1) (x1 := .slice p1.A2 n1.inputs.length p1.c2) (x2 := .slice p1.A3 n1.holding.length p1.c3) (x3 := .slice p1.A4 n1.words.length p1.c4) hb hwg6
  exact ⟨p1, Ab, cb, rfl, HM1.put4 b6, ob.rd.put4 b6 (bs_no _), (by have := ob.le.1; rw [bs_length] at this; exact this), hb4⟩
set_option maxRecDepth 100000 in
set_option maxHeartbeats 4000000 in
theorem ModelServes_walk (s : Sp) (q : Q8) (m : Mm) (p : Q8) (A : Option Addr) (n c : Nat) (l : List Nat) (w : World) (hS : SpR w s q) (hsk : s.ok) (hsf : s.few 140737488355328) (hM : MmR w m p.A1 p.A2 p.A3 p.A4) (hmk : m.ok) (hcap : m.cap p.c1 p.c2 p.c3 p.c4) (hA : Rd w A (bs l)) (hn : l.length = n) (hl : Bs l) (hnc : n ≤ c) :
    Calls Try.prog 3 #[s.v q, m.v p.A1 p.c1 p.A2 p.c2 p.A3 p.c3 p.A4 p.c4, .slice A n c] w fun e w' => e = .returned (.bool true) ∧ Below w.heap.size w w' := by
  have HN := Lib.hid hn
  have EL := Lib.hid (fun W => law07_Light s q m p W hsf)
  obtain ⟨lt, hlt⟩ : ∃ b, lightN s m = b := ⟨_, rfl⟩
  rw [hlt] at EL
  have HLF : Hid (lt = true → s.few 40 ∧ m.few 300) := fun h => light_few (hlt.trans h)
  simp only [Sp.v, Mm.v] at EL ⊢
  clear hn hlt
  have hb := ((Below.refl w.heap.size w).alloc (Nat.le_refl _) (.cells #[.slice q.A1 s.coils.length q.c1, .slice q.A2 s.inputs.length q.c2, .slice q.A3 s.holding.length q.c3, .slice q.A4 s.words.length q.c4] 24)).alloc (by simp) (.cells #[.slice p.A1 m.coils.length p.c1, .slice p.A2 m.inputs.length p.c2, .slice p.A3 m.holding.length p.c3, .slice p.A4 m.words.length p.c4] 28)
  have bsp := (Blk.newAt w 24 #[.slice q.A1 s.coils.length q.c1, .slice q.A2 s.inputs.length q.c2, .slice q.A3 s.holding.length q.c3, .slice q.A4 s.words.length q.c4] (w.heap.size) rfl).alloc (.cells #[.slice p.A1 m.coils.length p.c1, .slice p.A2 m.inputs.length p.c2, .slice p.A3 m.holding.length p.c3, .slice p.A4 m.words.length p.c4] 28)
  have bm := Blk.newAt (w.alloc (.cells #[.slice q.A1 s.coils.length q.c1, .slice q.A2 s.inputs.length q.c2, .slice q.A3 s.holding.length q.c3, .slice q.A4 s.words.length q.c4] 24)) 28 #[.slice p.A1 m.coils.length p.c1, .slice p.A2 m.inputs.length p.c2, .slice p.A3 m.holding.length p.c3, .slice p.A4 m.words.length p.c4] (w.heap.size + 1) (by simp [World.size_alloc])
  go_enter Try.func3, Try.ntmps3
  go_upto_region 1 with fail
  obtain ⟨gm, hgm⟩ : ∃ g, w.heap.size + 1 = g := ⟨_, rfl⟩
  rw [hgm] at bm ⊢
  obtain ⟨gs, hgs⟩ : ∃ g, w.heap.size = g := ⟨_, rfl⟩
  rw [hgs] at bsp ⊢
  generalize (w.alloc (.cells #[.slice q.A1 s.coils.length q.c1, .slice q.A2 s.inputs.length q.c2, .slice q.A3 s.holding.length q.c3, .slice q.A4 s.words.length q.c4] 24)).alloc (.cells #[.slice p.A1 m.coils.length p.c1, .slice p.A2 m.inputs.length p.c2, .slice p.A3 m.holding.length p.c3, .slice p.A4 m.words.length p.c4] 28) = w1 at *
  have hwgs : w.heap.size ≤ gs := by omega
  have hwgm : w.heap.size ≤ gm := by omega
  clear hgs hgm
  replace hS := hS.below hb
  replace hM := hM.below hb
  replace hA := hA.below hb
  obtain ⟨s0, s1, s2, s3⟩ := bsp.c4
  obtain ⟨m0, m1, m2, m3⟩ := bm.c4
  go_wp2_with fail
  refine (EL.out _).mono ?_
  rintro e w2 ⟨rfl, hs⟩
  clear s0 s1 s2 s3
  clear m0 m1 m2 m3
  replace bsp := bsp.all hs
  replace bm := bm.all hs
  replace hS := hS.below hs
  replace hM := hM.below hs
  replace hA := hA.below hs
  replace hb := bthen hb hs
  clear hs
  obtain ⟨s0, s1, s2, s3⟩ := bsp.c4
  obtain ⟨m0, m1, m2, m3⟩ := bm.c4
  cases lt with
  | false =>
    go_wp2_with fail
    refine (law07_awake _).mono ?_
    rintro e wz ⟨rfl, hs⟩
    go_wp2_with fail
    go_ret
    exact ⟨rfl, bthen hb hs⟩
  | true =>
    obtain ⟨hsf4, hmf3⟩ := HLF.out rfl
    clear HLF EL
    have hsf6 := Sp.few_le hsf4 (show 40 ≤ 1000000 by omega)
    have hmf5 := Mm.few_le hmf3 (show 300 ≤ 100000 by omega)
    by_cases h1 : 300 < n
    · have v1 : decide ((300 : Int) < (n : Int)) = true := decide_eq_true (by omega)
      go_wp2_with fail
      refine (law07_awake _).mono ?_
      rintro e wz ⟨rfl, hs⟩
      go_wp2_with fail
      go_ret
      exact ⟨rfl, bthen hb hs⟩
    have v1 : decide ((300 : Int) < (n : Int)) = false := decide_eq_false (by omega)
    obtain ⟨n1, b, e1⟩ : ∃ x y, serveM s m l = (x, y) := ⟨_, _, rfl⟩
    have hlk := look_small hl
    have EP := serve_parse s m l hl
    rw [e1] at EP
    simp only at EP
    have HSV : Hid ((n1, b) = if (lookA l).2 ≠ 0 then (m, bytesR (wrongR (lookA l).1.fn (lookA l).2)) else ((doM s m (lookA l).1).1, bytesR (doM s m (lookA l).1).2)) := by (show _ = _); rw [← e1]; rfl
    have hbB : Bs b := by
      have hw := doM_rok (s := s) (m := m) (a := (lookA l).1) hmk hlk.1.ok
      have hw2 : (wrongR (lookA l).1.fn (lookA l).2).ok := wrongR_ok (by omega)
      have := HSV.out
      split at this
      · rename_i hq
        injection this with _ h2
        rw [h2]; exact bytesR_Bs hw2 (wrong_right (hlk.2.2 hq) (by omega))
      · injection this with _ h2
        rw [h2]; exact bytesR_Bs hw (doM_rright _ _ _).1
    have hbl : b.length ≤ 253 := by
      have := HSV.out
      split at this
      · rename_i hq
        injection this with _ h2
        rw [h2]; exact (parse_bytesR (wrong_right (hlk.2.2 hq) (by omega))).2.2.2
      · injection this with _ h2
        rw [h2]; exact (parse_bytesR (doM_rright _ _ _).1).2.2.2
    have E1 := Lib.hid (fun W h1 h2 h3 => md_Serve s q m p A n c l W n1 b e1 h1 hsk hsf6 h2 hmk hmf5 h3 HN.out hl hnc (by omega))
    have E2 := Lib.hid (fun W A' c' (h : Rd W A' (bs b)) (hc : b.length ≤ c') => reply_Parse A' b.length c' b W h rfl hbB hc (by omega))
    have E3 := Lib.hid (fun W h => ask_Look A n c l W h HN.out hl hnc (by omega))
    obtain ⟨a, ha⟩ : ∃ a, (lookA l).1 = a := ⟨_, rfl⟩
    obtain ⟨x, hx⟩ : ∃ x, (lookA l).2 = x := ⟨_, rfl⟩
    rw [ha, hx] at E3 HSV hlk EP
    obtain ⟨hsm, hx4, hx1⟩ := hlk
    obtain ⟨r, hr⟩ : ∃ r, (if x ≠ 0 then wrongR a.fn x else (doM s m a).2) = r := ⟨_, rfl⟩
    rw [hr] at EP
    rw [EP] at E2
    have HR := Lib.hid hr
    unfold Told at E3
    unfold ToldP at E2
    simp only [Ak.v, akV, Sp.v, Mm.v, Rp.v, rpV] at E1 E2 E3
    clear e1 ha hx hr EP
    go_wp2_with fail
    refine (E1.out _ hS hM hA).mono ?_
    rintro e w3 ⟨p1, Ab, cb, rfl, HM1, rdb, hbc, hs⟩
    clear s0 s1 s2 s3
    clear m0 m1 m2 m3
    replace bsp := bsp.all hs
    replace bm := bm.all hs
    replace hS := hS.below hs
    replace hM := hM.below hs
    replace hA := hA.below hs
    replace hb := bthen hb hs
    clear hs
    obtain ⟨s0, s1, s2, s3⟩ := bsp.c4
    obtain ⟨m0, m1, m2, m3⟩ := bm.c4
    have bn1 := Blk.new w3 28 #[.slice p1.A1 n1.coils.length p1.c1, .slice p1.A2 n1.inputs.length p1.c2, .slice p1.A3 n1.holding.length p1.c3, .slice p1.A4 n1.words.length p1.c4]
    have hs := (Below.refl w3.heap.size w3).alloc (Nat.le_refl _) (.cells #[.slice p1.A1 n1.coils.length p1.c1, .slice p1.A2 n1.inputs.length p1.c2, .slice p1.A3 n1.holding.length p1.c3, .slice p1.A4 n1.words.length p1.c4] 28)
    go_upto_region 4 with fail
    generalize w3.alloc (.cells #[.slice p1.A1 n1.coils.length p1.c1, .slice p1.A2 n1.inputs.length p1.c2, .slice p1.A3 n1.holding.length p1.c3, .slice p1.A4 n1.words.length p1.c4] 28) = w4 at *
    obtain ⟨gn1, hgn1⟩ : ∃ g, w3.heap.size = g := ⟨_, rfl⟩
    rw [hgn1] at bn1
    (try rw [hgn1])
    clear hgn1
    replace HM1 := HM1.below hs
    replace rdb := rdb.below hs
    clear s0 s1 s2 s3
    clear m0 m1 m2 m3
    replace bsp := bsp.all hs
    replace bm := bm.all hs
    replace hS := hS.below hs
    replace hM := hM.below hs
    replace hA := hA.below hs
    replace hb := bthen hb hs
    clear hs
    obtain ⟨s0, s1, s2, s3⟩ := bsp.c4
    obtain ⟨m0, m1, m2, m3⟩ := bm.c4
    go_wp2_with fail
    refine (E2.out _ _ _ rdb hbc).mono ?_
    rintro e w5 ⟨Ar, cr, Br, dr, rfl, rw_, rb_, hs⟩
    have rw_ := rw_.rd
    have rb_ := rb_.rd
    clear s0 s1 s2 s3
    clear m0 m1 m2 m3
    replace bsp := bsp.all hs
    replace bm := bm.all hs
    replace hS := hS.below hs
    replace hM := hM.below hs
    replace hA := hA.below hs
    replace bn1 := bn1.all hs
    replace HM1 := HM1.below hs
    replace rdb := rdb.below hs
    replace hb := bthen hb hs
    clear hs
    obtain ⟨s0, s1, s2, s3⟩ := bsp.c4
    obtain ⟨m0, m1, m2, m3⟩ := bm.c4
    have br := Blk.new w5 36 #[.int .u8 (r.fn : Int), .int .u8 (r.ex : Int), .slice Br r.bits.length dr, .slice Ar r.words.length cr, .int .u16 (r.at_ : Int), .int .u16 (r.many : Int)]
    have hs := (Below.refl w5.heap.size w5).alloc (Nat.le_refl _) (.cells #[.int .u8 (r.fn : Int), .int .u8 (r.ex : Int), .slice Br r.bits.length dr, .slice Ar r.words.length cr, .int .u16 (r.at_ : Int), .int .u16 (r.many : Int)] 36)
    go_upto_region 5 with fail
    generalize w5.alloc (.cells #[.int .u8 (r.fn : Int), .int .u8 (r.ex : Int), .slice Br r.bits.length dr, .slice Ar r.words.length cr, .int .u16 (r.at_ : Int), .int .u16 (r.many : Int)] 36) = w6 at *
    obtain ⟨gr, hgr⟩ : ∃ g, w5.heap.size = g := ⟨_, rfl⟩
    rw [hgr] at br
    (try rw [hgr])
    clear hgr
    replace rw_ := rw_.below hs
    replace rb_ := rb_.below hs
    clear s0 s1 s2 s3
    clear m0 m1 m2 m3
    replace bsp := bsp.all hs
    replace bm := bm.all hs
    replace hS := hS.below hs
    replace hM := hM.below hs
    replace hA := hA.below hs
    replace bn1 := bn1.all hs
    replace HM1 := HM1.below hs
    replace rdb := rdb.below hs
    replace hb := bthen hb hs
    clear hs
    obtain ⟨s0, s1, s2, s3⟩ := bsp.c4
    obtain ⟨m0, m1, m2, m3⟩ := bm.c4
    go_wp2_with fail
    refine (E3.out _ hA).mono ?_
    rintro e w7 ⟨Aa, ca, Ba, da, rfl, ra, rba, hs⟩
    have ra := ra.rd
    have rba := rba.rd
    clear s0 s1 s2 s3
    clear m0 m1 m2 m3
    replace bsp := bsp.all hs
    replace bm := bm.all hs
    replace hS := hS.below hs
    replace hM := hM.below hs
    replace hA := hA.below hs
    replace bn1 := bn1.all hs
    replace HM1 := HM1.below hs
    replace rdb := rdb.below hs
    replace br := br.all hs
    replace rw_ := rw_.below hs
    replace rb_ := rb_.below hs
    replace hb := bthen hb hs
    clear hs
    obtain ⟨s0, s1, s2, s3⟩ := bsp.c4
    obtain ⟨m0, m1, m2, m3⟩ := bm.c4
    have ba := Blk.new w7 41 #[.int .u8 (a.fn : Int), .int .u16 (a.at_ : Int), .int .u16 (a.many : Int), .int .u16 (a.to_ : Int), .slice Aa a.words.length ca, .slice Ba a.bits.length da]
    have hs := (Below.refl w7.heap.size w7).alloc (Nat.le_refl _) (.cells #[.int .u8 (a.fn : Int), .int .u16 (a.at_ : Int), .int .u16 (a.many : Int), .int .u16 (a.to_ : Int), .slice Aa a.words.length ca, .slice Ba a.bits.length da] 41)
    go_upto_region 6 with fail
    generalize w7.alloc (.cells #[.int .u8 (a.fn : Int), .int .u16 (a.at_ : Int), .int .u16 (a.many : Int), .int .u16 (a.to_ : Int), .slice Aa a.words.length ca, .slice Ba a.bits.length da] 41) = w8 at *
    obtain ⟨ga, hga⟩ : ∃ g, w7.heap.size = g := ⟨_, rfl⟩
    rw [hga] at ba
    (try rw [hga])
    clear hga
    replace ra := ra.below hs
    replace rba := rba.below hs
    clear s0 s1 s2 s3
    clear m0 m1 m2 m3
    replace bsp := bsp.all hs
    replace bm := bm.all hs
    replace hS := hS.below hs
    replace hM := hM.below hs
    replace hA := hA.below hs
    replace bn1 := bn1.all hs
    replace HM1 := HM1.below hs
    replace rdb := rdb.below hs
    replace br := br.all hs
    replace rw_ := rw_.below hs
    replace rb_ := rb_.below hs
    replace hb := bthen hb hs
    clear hs
    obtain ⟨s0, s1, s2, s3⟩ := bsp.c4
    obtain ⟨m0, m1, m2, m3⟩ := bm.c4
    clear s0 s1 s2 s3
    clear m0 m1 m2 m3
    clear hA rdb
    have hrok : r.ok := by
      rw [← HR.out]
      split
      · exact wrongR_ok (by omega)
      · exact doM_rok hmk hsm.ok
    have hrw : r.words.length ≤ 100000 ∧ r.bits.length ≤ 3000 := by
      rw [← HR.out]
      split
      · exact ⟨Nat.zero_le _, Nat.zero_le _⟩
      · exact ⟨doM_words s m a hmf5, (doM_rright s m a).2⟩
    clear E1 E2 E3
    by_cases hx0 : x ≠ 0
    · have HS2 : Hid (n1 = m) := by have := HSV.out; rw [if_pos hx0] at this; injection this with h1 h2
      have HR2 : Hid (r = wrongR a.fn x) := by have := HR.out; rw [if_pos hx0] at this; exact this.symm
      have vx : ((x : Int) != 0) = true := by simp; omega
      have ES := Lib.hid (fun W h1 h2 => law07_same n1 p1 m p W h1 h2 (by rw [HS2.out]; exact Mm.few_le hmf3 (by omega)))
      have hsmm : sameM n1 m = true := sameM_iff.2 HS2.out
      rw [hsmm] at ES
      have EW := Lib.hid (fun W => reply_Wrong a.fn x W hsm.ok.fn (by omega))
      have EQ := Lib.hid (fun W (h : RpR W r Ar Br) (h2 : RpR W (wrongR a.fn x) none none) => reply_Same r (wrongR a.fn x) Ar cr Br dr none 0 none 0 W h h2 (by omega) (by omega))
      have hsr : sameR r (wrongR a.fn x) = true := sameR_iff.2 HR2.out
      rw [hsr] at EQ
      obtain ⟨rv, hrv⟩ : ∃ v, (wrongR a.fn x).v none 0 none 0 = v := ⟨_, rfl⟩
      rw [hrv] at EW EQ
      simp only [Rp.v, rpV, Mm.v] at ES EQ
      clear hsmm hsr hrv hx0
      go_upto_region 9 with fail
      have KK : Hid (∀ W : World, Below w8.heap.size w8 W → W.cell? ⟨gn1, 0, none⟩ = some (.slice p1.A1 n1.coils.length p1.c1) ∧ W.cell? ⟨gn1, 1, none⟩ = some (.slice p1.A2 n1.inputs.length p1.c2) ∧ W.cell? ⟨gn1, 2, none⟩ = some (.slice p1.A3 n1.holding.length p1.c3) ∧ W.cell? ⟨gn1, 3, none⟩ = some (.slice p1.A4 n1.words.length p1.c4) ∧ W.cell? ⟨gm, 0, none⟩ = some (.slice p.A1 m.coils.length p.c1) ∧ W.cell? ⟨gm, 1, none⟩ = some (.slice p.A2 m.inputs.length p.c2) ∧ W.cell? ⟨gm, 2, none⟩ = some (.slice p.A3 m.holding.length p.c3) ∧ W.cell? ⟨gm, 3, none⟩ = some (.slice p.A4 m.words.length p.c4) ∧ W.cell? ⟨gr, 0, none⟩ = some (.int .u8 (r.fn : Int)) ∧ W.cell? ⟨gr, 1, none⟩ = some (.int .u8 (r.ex : Int)) ∧ W.cell? ⟨gr, 2, none⟩ = some (.slice Br r.bits.length dr) ∧ W.cell? ⟨gr, 3, none⟩ = some (.slice Ar r.words.length cr) ∧ W.cell? ⟨gr, 4, none⟩ = some (.int .u16 (r.at_ : Int)) ∧ W.cell? ⟨gr, 5, none⟩ = some (.int .u16 (r.many : Int)) ∧ W.cell? ⟨ga, 0, none⟩ = some (.int .u8 (a.fn : Int))) := fun W h => by
        obtain ⟨a0, a1, a2, a3⟩ := (bn1.all h).c4
        obtain ⟨b0, b1, b2, b3⟩ := (bm.all h).c4
        obtain ⟨c0, c1, c2, c3, c4, c5⟩ := (br.all h).c6
        obtain ⟨d0, -⟩ := (ba.all h).c6
        exact ⟨a0, a1, a2, a3, b0, b1, b2, b3, c0, c1, c2, c3, c4, c5, d0⟩
      have hd : Below w8.heap.size w8 w8.drew := (Below.refl _ _).drew
      refine wp_region_held_drew (S := fun W => W.cell? ⟨gn1, 0, none⟩ = some (.slice p1.A1 n1.coils.length p1.c1) ∧ W.cell? ⟨gn1, 1, none⟩ = some (.slice p1.A2 n1.inputs.length p1.c2) ∧ W.cell? ⟨gn1, 2, none⟩ = some (.slice p1.A3 n1.holding.length p1.c3) ∧ W.cell? ⟨gn1, 3, none⟩ = some (.slice p1.A4 n1.words.length p1.c4) ∧ W.cell? ⟨gm, 0, none⟩ = some (.slice p.A1 m.coils.length p.c1) ∧ W.cell? ⟨gm, 1, none⟩ = some (.slice p.A2 m.inputs.length p.c2) ∧ W.cell? ⟨gm, 2, none⟩ = some (.slice p.A3 m.holding.length p.c3) ∧ W.cell? ⟨gm, 3, none⟩ = some (.slice p.A4 m.words.length p.c4) ∧ W.cell? ⟨gr, 0, none⟩ = some (.int .u8 (r.fn : Int)) ∧ W.cell? ⟨gr, 1, none⟩ = some (.int .u8 (r.ex : Int)) ∧ W.cell? ⟨gr, 2, none⟩ = some (.slice Br r.bits.length dr) ∧ W.cell? ⟨gr, 3, none⟩ = some (.slice Ar r.words.length cr) ∧ W.cell? ⟨gr, 4, none⟩ = some (.int .u16 (r.at_ : Int)) ∧ W.cell? ⟨gr, 5, none⟩ = some (.int .u16 (r.many : Int)) ∧ W.cell? ⟨ga, 0, none⟩ = some (.int .u8 (a.fn : Int))) (by kernel_rfl) ?_ (fun hHeld => ?_)
      · (with_reducible first | exact KK.out _ k4 | exact KK.out _ k3 | exact KK.out _ k2 | exact KK.out _ k1 | exact KK.out _ hd)
      refine takeRun (i := 0) (v := ?_) rfl (by kernel_rfl) (by kernel_rfl) (by kernel_rfl) (fun _ _ _ h => h) rfl ?_ (by assumption) ?_
      rotate_left
      · (intro w hSw; (try dsimp only at hSw); go_simp; (try with_reducible rfl))
      try simp only [Act.put, List.setIfInBounds_toArray, List.set_cons_zero, List.set_cons_succ]
      refine takeRun (i := 1) (v := ?_) rfl (by kernel_rfl) (by kernel_rfl) (by kernel_rfl) (fun _ _ _ h => h) rfl ?_ (by assumption) ?_
      rotate_left
      · (intro w hSw; (try dsimp only at hSw); go_simp; (try with_reducible rfl))
      try simp only [Act.put, List.setIfInBounds_toArray, List.set_cons_zero, List.set_cons_succ]
      refine goOne (i := 2) (by kernel_rfl) rfl (fun K hK => ?_)
      go_simp
      refine Calls.mono (ES.out _ (HM1.below hd) (hM.below hd)) ?_; rintro e wa ⟨rfl, h1⟩; have k1 := bthen hd h1
      go_wp2_with fail
      refine hK.out _ _ ?_ (fun hHeld => ?_)
      · (with_reducible first | exact KK.out _ k4 | exact KK.out _ k3 | exact KK.out _ k2 | exact KK.out _ k1 | exact KK.out _ hd)
      clear hK K
      try simp only [Act.put, List.setIfInBounds_toArray, List.set_cons_zero, List.set_cons_succ]
      refine takeRun (i := 3) (v := ?_) rfl (by kernel_rfl) (by kernel_rfl) (by kernel_rfl) (fun _ _ _ h => h) rfl ?_ (by assumption) ?_
      rotate_left
      · (intro w hSw; (try dsimp only at hSw); go_simp; (try with_reducible rfl))
      try simp only [Act.put, List.setIfInBounds_toArray, List.set_cons_zero, List.set_cons_succ]
      refine takeRun (i := 4) (v := ?_) rfl (by kernel_rfl) (by kernel_rfl) (by kernel_rfl) (fun _ _ _ h => h) rfl ?_ (by assumption) ?_
      rotate_left
      · (intro w hSw; (try dsimp only at hSw); go_simp; (try with_reducible rfl))
      try simp only [Act.put, List.setIfInBounds_toArray, List.set_cons_zero, List.set_cons_succ]
      refine takeRun (i := 5) (v := ?_) rfl (by kernel_rfl) (by kernel_rfl) (by kernel_rfl) (fun _ _ _ h => h) rfl ?_ (by assumption) ?_
      rotate_left
      · (intro w hSw; (try dsimp only at hSw); go_simp; (try with_reducible rfl))
      try simp only [Act.put, List.setIfInBounds_toArray, List.set_cons_zero, List.set_cons_succ]
      refine takeRun (i := 6) (v := ?_) rfl (by kernel_rfl) (by kernel_rfl) (by kernel_rfl) (fun _ _ _ h => h) rfl ?_ (by assumption) ?_
      rotate_left
      · (intro w hSw; (try dsimp only at hSw); go_simp; (try with_reducible rfl))
      try simp only [Act.put, List.setIfInBounds_toArray, List.set_cons_zero, List.set_cons_succ]
      refine takeRun (i := 7) (v := ?_) rfl (by kernel_rfl) (by kernel_rfl) (by kernel_rfl) (fun _ _ _ h => h) rfl ?_ (by assumption) ?_
      rotate_left
      · (intro w hSw; (try dsimp only at hSw); go_simp; (try with_reducible rfl))
      try simp only [Act.put, List.setIfInBounds_toArray, List.set_cons_zero, List.set_cons_succ]
      refine goOne (i := 8) (by kernel_rfl) rfl (fun K hK => ?_)
      go_simp
      refine Calls.mono (EW.out _) ?_; rintro e wb ⟨rfl, h2⟩; have k2 := bthen k1 h2
      go_wp2_with fail
      refine hK.out _ _ ?_ (fun hHeld => ?_)
      · (with_reducible first | exact KK.out _ k4 | exact KK.out _ k3 | exact KK.out _ k2 | exact KK.out _ k1 | exact KK.out _ hd)
      clear hK K
      try simp only [Act.put, List.setIfInBounds_toArray, List.set_cons_zero, List.set_cons_succ]
      refine goOne (i := 9) (by kernel_rfl) rfl (fun K hK => ?_)
      go_simp
      refine Calls.mono (EQ.out _ ⟨rw_.below k2, rb_.below k2⟩ ⟨.inl rfl, .inl rfl⟩) ?_; rintro e wc ⟨rfl, h3⟩; have k3 := bthen k2 h3
      go_wp2_with fail
      refine hK.out _ _ ?_ (fun hHeld => ?_)
      · (with_reducible first | exact KK.out _ k4 | exact KK.out _ k3 | exact KK.out _ k2 | exact KK.out _ k1 | exact KK.out _ hd)
      clear hK K
      try simp only [Act.put, List.setIfInBounds_toArray, List.set_cons_zero, List.set_cons_succ]
      refine takeRun (i := 10) (v := ?_) rfl (by kernel_rfl) (by kernel_rfl) (by kernel_rfl) (fun _ _ _ h => h) rfl ?_ (by assumption) ?_
      rotate_left
      · (intro w hSw; (try dsimp only at hSw); go_simp; (try with_reducible rfl))
      try simp only [Act.put, List.setIfInBounds_toArray, List.set_cons_zero, List.set_cons_succ]
      refine takeRun (i := 11) (v := ?_) rfl (by kernel_rfl) (by kernel_rfl) (by kernel_rfl) (fun _ _ _ h => h) rfl ?_ (by assumption) ?_
      rotate_left
      · (intro w hSw; (try dsimp only at hSw); go_simp; (try with_reducible rfl))
      try simp only [Act.put, List.setIfInBounds_toArray, List.set_cons_zero, List.set_cons_succ]
      refine goOne (i := 12) (by kernel_rfl) rfl (fun K hK => ?_)
      go_simp
      refine Calls.mono (law07_awake _) ?_; rintro e wd ⟨rfl, h4⟩; have k4 := bthen k3 h4
      go_wp2_with fail
      refine hK.out _ _ ?_ (fun hHeld => ?_)
      · (with_reducible first | exact KK.out _ k4 | exact KK.out _ k3 | exact KK.out _ k2 | exact KK.out _ k1 | exact KK.out _ hd)
      clear hK K
      try simp only [Act.put, List.setIfInBounds_toArray, List.set_cons_zero, List.set_cons_succ]
      refine takeRun (i := 13) (v := ?_) rfl (by kernel_rfl) (by kernel_rfl) (by kernel_rfl) (fun _ _ _ h => h) rfl ?_ (by assumption) ?_
      rotate_left
      · (intro w hSw; (try dsimp only at hSw); go_simp; (try with_reducible rfl))
      try simp only [Act.put, List.setIfInBounds_toArray, List.set_cons_zero, List.set_cons_succ]
      refine takeRun (i := 14) (v := ?_) rfl (by kernel_rfl) (by kernel_rfl) (by kernel_rfl) (fun _ _ _ h => h) rfl ?_ (by assumption) ?_
      rotate_left
      · (intro w hSw; (try dsimp only at hSw); go_simp; (try with_reducible rfl))
      try simp only [Act.put, List.setIfInBounds_toArray, List.set_cons_zero, List.set_cons_succ]
      refine wpAnyH_done (by kernel_rfl) ?_ _
      go_wp2_with fail
      go_ret
      exact ⟨rfl, bthen hb k4⟩
    have hx0' : x = 0 := by omega
    have HS2 : Hid (n1 = (doM s m a).1) := by have := HSV.out; rw [if_neg hx0] at this; injection this with h1 h2
    have HRE : Hid (r = (doM s m a).2) := by have := HR.out; rw [if_neg hx0] at this; exact this.symm
    have vx : ((x : Int) != 0) = false := by simp [hx0']
    obtain ⟨n2, r2, e2⟩ : ∃ xx yy, doM s m a = (xx, yy) := ⟨_, _, rfl⟩
    have h21 : n1 = n2 := by rw [HS2.out, e2]
    have h22 : r = r2 := by rw [HRE.out, e2]
    have ED := Lib.hid (fun W h1 h2 (h3 : Rd W Aa (ws a.words)) (h4 : Rd W Ba (os a.bits)) => law_Do s q m p a Aa ca Ba da W n2 r2 e2 h1 hsk hsf6 h2 hmf5 ⟨h3, h4⟩ hsm.ok (by have := hsm.words; omega) (by have := hsm.bits; omega))
    have hf1 : n1.few 300 := by rw [HS2.out]; exact hmf3.few_do s a
    have ES := Lib.hid (fun W p' h1 h2 => law07_same n1 p1 n2 p' W h1 h2 (Mm.few_le hf1 (by omega)))
    have EQ := Lib.hid (fun W A2 c2 B2 d2 (h : RpR W r Ar Br) (h2 : RpR W r2 A2 B2) => reply_Same r r2 Ar cr Br dr A2 c2 B2 d2 W h h2 (by omega) (by omega))
    rw [sameM_iff.2 h21] at ES
    rw [sameR_iff.2 h22] at EQ
    simp only [Sp.v, Mm.v, Ak.v, akV] at ED
    simp only [Rp.v, rpV, Mm.v] at ES EQ
    clear hx0 hx0' e2 h21 h22
    obtain ⟨zs0, zs1, zs2, zs3⟩ := bsp.c4
    obtain ⟨zm0, zm1, zm2, zm3⟩ := bm.c4
    obtain ⟨za0, za1, za2, za3, za4, za5⟩ := ba.c6
    go_wp2_with fail
    refine (ED.out _ hS hM ra rba).mono ?_
    rintro e w9 ⟨p2, Ar2, cr2, Br2, dr2, hev, HM2, HR2, hcp2, hs⟩
    simp only [Mm.v, Rp.v, rpV] at hev
    subst hev
    clear zs0 zs1 zs2 zs3
    clear zm0 zm1 zm2 zm3
    clear za0 za1 za2 za3 za4 za5
    replace bsp := bsp.all hs
    replace bm := bm.all hs
    replace hS := hS.below hs
    replace hM := hM.below hs
    replace bn1 := bn1.all hs
    replace HM1 := HM1.below hs
    replace br := br.all hs
    replace rw_ := rw_.below hs
    replace rb_ := rb_.below hs
    replace ba := ba.all hs
    replace ra := ra.below hs
    replace rba := rba.below hs
    replace hb := bthen hb hs
    clear hs
    obtain ⟨zs0, zs1, zs2, zs3⟩ := bsp.c4
    obtain ⟨zm0, zm1, zm2, zm3⟩ := bm.c4
    obtain ⟨za0, za1, za2, za3, za4, za5⟩ := ba.c6
    have hs := bx_space w9 (.cells #[.slice p2.A1 n2.coils.length p2.c1, .slice p2.A2 n2.inputs.length p2.c2, .slice p2.A3 n2.holding.length p2.c3, .slice p2.A4 n2.words.length p2.c4] 28) (.cells #[.int .u8 (r2.fn : Int), .int .u8 (r2.ex : Int), .slice Br2 r2.bits.length dr2, .slice Ar2 r2.words.length cr2, .int .u16 (r2.at_ : Int), .int .u16 (r2.many : Int)] 36)
    have bn2 := (Blk.new w9 28 #[.slice p2.A1 n2.coils.length p2.c1, .slice p2.A2 n2.inputs.length p2.c2, .slice p2.A3 n2.holding.length p2.c3, .slice p2.A4 n2.words.length p2.c4]).alloc (.cells #[.int .u8 (r2.fn : Int), .int .u8 (r2.ex : Int), .slice Br2 r2.bits.length dr2, .slice Ar2 r2.words.length cr2, .int .u16 (r2.at_ : Int), .int .u16 (r2.many : Int)] 36)
    have br2 := Blk.newAt (w9.alloc (.cells #[.slice p2.A1 n2.coils.length p2.c1, .slice p2.A2 n2.inputs.length p2.c2, .slice p2.A3 n2.holding.length p2.c3, .slice p2.A4 n2.words.length p2.c4] 28)) 36 #[.int .u8 (r2.fn : Int), .int .u8 (r2.ex : Int), .slice Br2 r2.bits.length dr2, .slice Ar2 r2.words.length cr2, .int .u16 (r2.at_ : Int), .int .u16 (r2.many : Int)] (w9.heap.size + 1) (World.size_alloc _ _)
    go_upto_region 11 with fail
    generalize (w9.alloc (.cells #[.slice p2.A1 n2.coils.length p2.c1, .slice p2.A2 n2.inputs.length p2.c2, .slice p2.A3 n2.holding.length p2.c3, .slice p2.A4 n2.words.length p2.c4] 28)).alloc (.cells #[.int .u8 (r2.fn : Int), .int .u8 (r2.ex : Int), .slice Br2 r2.bits.length dr2, .slice Ar2 r2.words.length cr2, .int .u16 (r2.at_ : Int), .int .u16 (r2.many : Int)] 36) = w10 at *
    obtain ⟨gn2, hgn⟩ : ∃ g, w9.heap.size = g := ⟨_, rfl⟩
    obtain ⟨gr2, hgr⟩ : ∃ g, w9.heap.size + 1 = g := ⟨_, rfl⟩
    rw [hgr] at br2
    (try rw [hgr])
    rw [hgn] at bn2
    (try rw [hgn])
    replace HM2 := HM2.below hs
    replace HR2 := HR2.below hs
    clear hgn hgr
    clear zs0 zs1 zs2 zs3
    clear zm0 zm1 zm2 zm3
    clear za0 za1 za2 za3 za4 za5
    replace bsp := bsp.all hs
    replace bm := bm.all hs
    replace hS := hS.below hs
    replace hM := hM.below hs
    replace bn1 := bn1.all hs
    replace HM1 := HM1.below hs
    replace br := br.all hs
    replace rw_ := rw_.below hs
    replace rb_ := rb_.below hs
    replace ba := ba.all hs
    replace ra := ra.below hs
    replace rba := rba.below hs
    replace hb := bthen hb hs
    clear hs
    obtain ⟨zs0, zs1, zs2, zs3⟩ := bsp.c4
    obtain ⟨zm0, zm1, zm2, zm3⟩ := bm.c4
    obtain ⟨za0, za1, za2, za3, za4, za5⟩ := ba.c6
    clear zs0 zs1 zs2 zs3
    clear zm0 zm1 zm2 zm3
    clear za0 za1 za2 za3 za4 za5
    obtain ⟨z10, z11, z12, z13⟩ := bn1.c4
    obtain ⟨z20, z21, z22, z23⟩ := bn2.c4
    obtain ⟨z30, z31, z32, z33, z34, z35⟩ := br.c6
    obtain ⟨z40, z41, z42, z43, z44, z45⟩ := br2.c6
    go_wp2_with fail
    refine (ES.out _ p2 HM1 HM2).mono ?_
    rintro e w11 ⟨rfl, hs⟩
    clear z10 z11 z12 z13
    clear z20 z21 z22 z23
    clear z30 z31 z32 z33 z34 z35
    clear z40 z41 z42 z43 z44 z45
    replace bsp := bsp.all hs
    replace bm := bm.all hs
    replace hS := hS.below hs
    replace hM := hM.below hs
    replace bn1 := bn1.all hs
    replace HM1 := HM1.below hs
    replace br := br.all hs
    replace rw_ := rw_.below hs
    replace rb_ := rb_.below hs
    replace ba := ba.all hs
    replace ra := ra.below hs
    replace rba := rba.below hs
    replace bn2 := bn2.all hs
    replace br2 := br2.all hs
    replace HM2 := HM2.below hs
    replace HR2 := HR2.below hs
    replace hb := bthen hb hs
    clear hs
    obtain ⟨z10, z11, z12, z13⟩ := bn1.c4
    obtain ⟨z20, z21, z22, z23⟩ := bn2.c4
    obtain ⟨z30, z31, z32, z33, z34, z35⟩ := br.c6
    obtain ⟨z40, z41, z42, z43, z44, z45⟩ := br2.c6
    go_wp2_with fail
    refine (EQ.out _ _ _ _ _ ⟨rw_, rb_⟩ HR2).mono ?_
    rintro e w12 ⟨rfl, hs⟩
    clear z10 z11 z12 z13
    clear z20 z21 z22 z23
    clear z30 z31 z32 z33 z34 z35
    clear z40 z41 z42 z43 z44 z45
    replace bsp := bsp.all hs
    replace bm := bm.all hs
    replace hS := hS.below hs
    replace hM := hM.below hs
    replace bn1 := bn1.all hs
    replace HM1 := HM1.below hs
    replace br := br.all hs
    replace rw_ := rw_.below hs
    replace rb_ := rb_.below hs
    replace ba := ba.all hs
    replace ra := ra.below hs
    replace rba := rba.below hs
    replace bn2 := bn2.all hs
    replace br2 := br2.all hs
    replace HM2 := HM2.below hs
    replace HR2 := HR2.below hs
    replace hb := bthen hb hs
    clear hs
    obtain ⟨z10, z11, z12, z13⟩ := bn1.c4
    obtain ⟨z20, z21, z22, z23⟩ := bn2.c4
    obtain ⟨z30, z31, z32, z33, z34, z35⟩ := br.c6
    obtain ⟨z40, z41, z42, z43, z44, z45⟩ := br2.c6
    go_wp2_with fail
    refine (law07_awake _).mono ?_
    rintro e wz ⟨rfl, hs⟩
    go_wp2_with fail
    go_ret
    exact ⟨rfl, bthen hb hs⟩
end Go.Proofs.Ytechhidfgheejaa
