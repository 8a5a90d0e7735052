/- The plain law of what is written; the walk of the law ModelWrites (written by gen_mwrites.py). -/
import Derived.Test.YtechhidfgheejaaMdLawC
namespace Go.Proofs.Ytechhidfgheejaa
open Go.RowKit
set_option linter.unusedSimpArgs false
set_option linter.unusedVariables false

theorem putAt_nil {α : Type} (c : List α) (t : Nat) : putAt c t [] = c := by unfold putAt; simp
theorem putAt_get {α : Type} {c l : List α} {t i : Nat} {x y : α} (hf : l = [] ∨ t + l.length ≤ c.length) (hc : c[i]? = some x) (hp : (putAt c t l)[i]? = some y) :
    (¬ (t ≤ i) → y = x) ∧ (t ≤ i → ¬ (i - t < l.length) → y = x) ∧ (t ≤ i → i - t < l.length → l[i - t]? = some y) := by
  rcases hf with rfl | hf
  · rw [putAt_nil, hc] at hp
    injection hp with hp
    exact ⟨fun _ => hp.symm, fun _ _ => hp.symm, fun _ h => by simp at h⟩
  · have hi := (List.getElem?_eq_some_iff.1 hc).1
    unfold putAt at hp
    have hl1 : (c.take t).length = t := by rw [List.length_take]; omega
    have hl2 : (c.take t ++ l).length = t + l.length := by rw [List.length_append, hl1]
    refine ⟨fun h => ?_, fun h h2 => ?_, fun h h2 => ?_⟩
    · rw [List.getElem?_append_left (by omega), List.getElem?_append_left (by omega), List.getElem?_take_of_lt (by omega), hc] at hp
      injection hp with hp; exact hp.symm
    · rw [List.getElem?_append_right (by omega), hl2, List.getElem?_drop, show t + l.length + (i - (t + l.length)) = i by omega, hc] at hp
      injection hp with hp; exact hp.symm
    · rw [List.getElem?_append_left (by omega), List.getElem?_append_right (by omega), hl1] at hp
      exact hp
theorem writes_law {s : Sp} {m : Mm} {a : Ak} {n : Mm} {r : Rp} (e : doM s m a = (n, r)) (hr : r.ex = 0) :
    n.holding = putAt m.holding (targetT a) a.words ∧ n.coils = putAt m.coils (targetT a) a.bits ∧ (a.words = [] ∨ targetT a + a.words.length ≤ m.holding.length) ∧ (a.bits = [] ∨ targetT a + a.bits.length ≤ m.coils.length) ∧ checkN s a = 0 ∧ rightSM s m = true := by
  obtain ⟨h1, h2, h3⟩ := doM_ok (s := s) (m := m) (a := a) (by rw [e]; exact hr)
  rw [e] at h3
  injection h3 with h3 _
  obtain ⟨c1, c2, c3⟩ := checkN_zero h1
  obtain ⟨w1, w3⟩ := writeBad_fit c1 h2 c3
  obtain ⟨-, -, u1, u3, -, -⟩ := right_uses c1
  rw [h3]
  unfold writtenM
  by_cases p1 : writesP a.fn = 1
  · have hw : a.words = [] := u3 (by omega)
    rw [if_pos p1, hw, putAt_nil]
    exact ⟨rfl, rfl, .inl rfl, .inr (w1 p1).1, h1, h2⟩
  · rw [if_neg p1, u1 p1, putAt_nil]
    by_cases p3 : writesP a.fn = 3
    · rw [if_pos p3]
      exact ⟨rfl, rfl, .inr (w3 p3).1, .inl rfl, h1, h2⟩
    · rw [if_neg p3, u3 p3, putAt_nil]
      exact ⟨rfl, rfl, .inl rfl, .inl rfl, h1, h2⟩

set_option maxRecDepth 100000 in
set_option maxHeartbeats 4000000 in
theorem ModelWrites_walk (s : Sp) (q : Q8) (m : Mm) (p : Q8) (a : Ak) (A : Option Addr) (c : Nat) (B : Option Addr) (d : Nat) (w : World) (hS : SpR w s q) (hsk : s.ok) (hsf : s.few 140737488355328) (hM : MmR w m p.A1 p.A2 p.A3 p.A4) (hmk : m.ok) (hcap : m.cap p.c1 p.c2 p.c3 p.c4) (hR : AkR w a A B) (hok : a.ok) :
    Calls Try.prog 10 #[s.v q, m.v p.A1 p.c1 p.A2 p.c2 p.A3 p.c3 p.A4 p.c4, a.v A c B d] w fun e w' => e = .returned (.bool true) ∧ Below w.heap.size w w' := by
  have EL := Lib.hid (fun W => law07_Light s q m p W hsf)
  obtain ⟨lt, hlt⟩ : ∃ b, lightN s m = b := ⟨_, rfl⟩
  rw [hlt] at EL
  have HLF : Hid (lt = true → s.few 40 ∧ m.few 300) := fun h => light_few (hlt.trans h)
  have EF := Lib.hid (fun W => low_Few A a.words.length c B a.bits.length d W)
  obtain ⟨fw, hfw⟩ : ∃ b, fewN a.words.length a.bits.length = b := ⟨_, rfl⟩
  rw [hfw] at EF
  have HFW : Hid (fw = true → a.words.length ≤ 200 ∧ a.bits.length ≤ 2100) := fun h => by
    have h := hfw.trans h
    unfold fewN at h
    simpa using h
  simp only [Sp.v, Mm.v, Ak.v, akV] at EL ⊢
  clear hlt hfw
  have hb := (((Below.refl w.heap.size w).alloc (Nat.le_refl _) (.cells #[.slice q.A1 s.coils.length q.c1, .slice q.A2 s.inputs.length q.c2, .slice q.A3 s.holding.length q.c3, .slice q.A4 s.words.length q.c4] 24)).alloc (by simp) (.cells #[.slice p.A1 m.coils.length p.c1, .slice p.A2 m.inputs.length p.c2, .slice p.A3 m.holding.length p.c3, .slice p.A4 m.words.length p.c4] 28)).alloc (by simp; omega) (.cells #[.int .u8 (a.fn : Int), .int .u16 (a.at_ : Int), .int .u16 (a.many : Int), .int .u16 (a.to_ : Int), .slice A a.words.length c, .slice B a.bits.length d] 41)
  have bsp := ((Blk.newAt w 24 #[.slice q.A1 s.coils.length q.c1, .slice q.A2 s.inputs.length q.c2, .slice q.A3 s.holding.length q.c3, .slice q.A4 s.words.length q.c4] (w.heap.size) rfl).alloc (.cells #[.slice p.A1 m.coils.length p.c1, .slice p.A2 m.inputs.length p.c2, .slice p.A3 m.holding.length p.c3, .slice p.A4 m.words.length p.c4] 28)).alloc (.cells #[.int .u8 (a.fn : Int), .int .u16 (a.at_ : Int), .int .u16 (a.many : Int), .int .u16 (a.to_ : Int), .slice A a.words.length c, .slice B a.bits.length d] 41)
  have bm := (Blk.newAt (w.alloc (.cells #[.slice q.A1 s.coils.length q.c1, .slice q.A2 s.inputs.length q.c2, .slice q.A3 s.holding.length q.c3, .slice q.A4 s.words.length q.c4] 24)) 28 #[.slice p.A1 m.coils.length p.c1, .slice p.A2 m.inputs.length p.c2, .slice p.A3 m.holding.length p.c3, .slice p.A4 m.words.length p.c4] (w.heap.size + 1) (by simp [World.size_alloc])).alloc (.cells #[.int .u8 (a.fn : Int), .int .u16 (a.at_ : Int), .int .u16 (a.many : Int), .int .u16 (a.to_ : Int), .slice A a.words.length c, .slice B a.bits.length d] 41)
  have ba := Blk.newAt ((w.alloc (.cells #[.slice q.A1 s.coils.length q.c1, .slice q.A2 s.inputs.length q.c2, .slice q.A3 s.holding.length q.c3, .slice q.A4 s.words.length q.c4] 24)).alloc (.cells #[.slice p.A1 m.coils.length p.c1, .slice p.A2 m.inputs.length p.c2, .slice p.A3 m.holding.length p.c3, .slice p.A4 m.words.length p.c4] 28)) 41 #[.int .u8 (a.fn : Int), .int .u16 (a.at_ : Int), .int .u16 (a.many : Int), .int .u16 (a.to_ : Int), .slice A a.words.length c, .slice B a.bits.length d] (w.heap.size + 1 + 1) (by simp [World.size_alloc])
  go_enter Try.func10, Try.ntmps10
  go_upto_region 1 with fail
  obtain ⟨gm, hgm⟩ : ∃ g, w.heap.size + 1 = g := ⟨_, rfl⟩
  rw [hgm] at bm ba ⊢
  obtain ⟨ga, hga⟩ : ∃ g, gm + 1 = g := ⟨_, rfl⟩
  rw [hga] at ba ⊢
  obtain ⟨gs, hgs⟩ : ∃ g, w.heap.size = g := ⟨_, rfl⟩
  rw [hgs] at bsp ⊢
  generalize ((w.alloc (.cells #[.slice q.A1 s.coils.length q.c1, .slice q.A2 s.inputs.length q.c2, .slice q.A3 s.holding.length q.c3, .slice q.A4 s.words.length q.c4] 24)).alloc (.cells #[.slice p.A1 m.coils.length p.c1, .slice p.A2 m.inputs.length p.c2, .slice p.A3 m.holding.length p.c3, .slice p.A4 m.words.length p.c4] 28)).alloc (.cells #[.int .u8 (a.fn : Int), .int .u16 (a.at_ : Int), .int .u16 (a.many : Int), .int .u16 (a.to_ : Int), .slice A a.words.length c, .slice B a.bits.length d] 41) = w1 at *
  have hwgs : w.heap.size ≤ gs := by omega
  have hwgm : w.heap.size ≤ gm := by omega
  have hwga : w.heap.size ≤ ga := by omega
  clear hgs hgm hga
  replace hS := hS.below hb
  replace hM := hM.below hb
  replace hR := hR.below hb
  obtain ⟨zs0, zs1, zs2, zs3⟩ := bsp.c4
  obtain ⟨zm0, zm1, zm2, zm3⟩ := bm.c4
  obtain ⟨za0, za1, za2, za3, za4, za5⟩ := ba.c6
  go_wp2_with fail
  refine (EL.out _).mono ?_
  rintro e w2 ⟨rfl, hs⟩
  clear zs0 zs1 zs2 zs3
  clear zm0 zm1 zm2 zm3
  clear za0 za1 za2 za3 za4 za5
  replace bsp := bsp.all hs
  replace bm := bm.all hs
  replace ba := ba.all hs
  replace hS := hS.below hs
  replace hM := hM.below hs
  replace hR := hR.below hs
  replace hb := bthen hb hs
  clear hs
  obtain ⟨zs0, zs1, zs2, zs3⟩ := bsp.c4
  obtain ⟨zm0, zm1, zm2, zm3⟩ := bm.c4
  obtain ⟨za0, za1, za2, za3, za4, za5⟩ := ba.c6
  cases lt with
  | false =>
    go_wp2_with fail
    refine (law07_awake _).mono ?_
    rintro e wz ⟨rfl, hs⟩
    go_wp2_with fail
    go_ret
    exact ⟨rfl, bthen hb hs⟩
  | true =>
    go_wp2_with fail
    refine (EF.out _).mono ?_
    rintro e wq ⟨rfl, rfl⟩
    cases fw with
    | false =>
      go_wp2_with fail
      refine (law07_awake _).mono ?_
      rintro e wz ⟨rfl, hs⟩
      go_wp2_with fail
      go_ret
      exact ⟨rfl, bthen hb hs⟩
    | true =>
      obtain ⟨hsf4, hmf3⟩ := HLF.out (by first | rfl | trivial)
      obtain ⟨haw, hab⟩ := HFW.out (by first | rfl | trivial)
      clear HLF EL HFW EF
      have hsf6 := Sp.few_le hsf4 (show 40 ≤ 1000000 by omega)
      have hmf5 := Mm.few_le hmf3 (show 300 ≤ 100000 by omega)
      obtain ⟨n, r, e1⟩ : ∃ xx yy, doM s m a = (xx, yy) := ⟨_, _, rfl⟩
      have G1 := Lib.hid (fun W h1 h2 h3 => law_Do s q m p a A c B d W n r e1 h1 hsk hsf6 h2 hmf5 h3 hok (by omega) (by omega))
      have G2 := Lib.hid (fun W h => md_Check s q a A c B d W h hsk hsf6 hok (by omega) (by omega))
      obtain ⟨ck, hck⟩ : ∃ n, checkN s a = n := ⟨_, rfl⟩
      rw [hck] at G2
      have HCK := Lib.hid hck
      have E1 := Lib.hid e1
      have hf1 : n.few 300 := by have := hmf3.few_do s a; rw [e1] at this; exact this
      have ES := Lib.hid (fun W p' h1 h2 => law07_same n p' m p W h1 h2 (Mm.few_le hf1 (by omega)))
      have ER := Lib.hid (fun W h => md_Right s q m p W h hsk hsf6)
      obtain ⟨rs, hrs⟩ : ∃ b, rightSM s m = b := ⟨_, rfl⟩
      rw [hrs] at ER
      have HRS := Lib.hid hrs
      simp only [Sp.v, Mm.v, Ak.v, akV] at G1 G2 ES ER
      have hckl : ck < 256 := by rw [← hck]; exact checkN_lt s a
      have HEX : Hid (r.ex = if ck ≠ 0 then ck else if rs = false then 4 else 0) := by (show _ = _); have := doM_ex s m a; rw [e1, hck, hrs] at this; exact this
      clear e1 hck hrs
      go_wp2_with fail
      refine (G1.out _ hS hM hR).mono ?_
      rintro e w3 ⟨p1, Ar1, cr1, Br1, dr1, hev, HM1, HR1, hcp1, hs⟩
      simp only [Mm.v, Rp.v, rpV] at hev
      subst hev
      clear zs0 zs1 zs2 zs3
      clear zm0 zm1 zm2 zm3
      clear za0 za1 za2 za3 za4 za5
      replace bsp := bsp.all hs
      replace bm := bm.all hs
      replace ba := ba.all hs
      replace hS := hS.below hs
      replace hM := hM.below hs
      replace hR := hR.below hs
      replace hb := bthen hb hs
      clear hs
      obtain ⟨zs0, zs1, zs2, zs3⟩ := bsp.c4
      obtain ⟨zm0, zm1, zm2, zm3⟩ := bm.c4
      obtain ⟨za0, za1, za2, za3, za4, za5⟩ := ba.c6
      have hs := bx_space w3 (.cells #[.slice p1.A1 n.coils.length p1.c1, .slice p1.A2 n.inputs.length p1.c2, .slice p1.A3 n.holding.length p1.c3, .slice p1.A4 n.words.length p1.c4] 28) (.cells #[.int .u8 (r.fn : Int), .int .u8 (r.ex : Int), .slice Br1 r.bits.length dr1, .slice Ar1 r.words.length cr1, .int .u16 (r.at_ : Int), .int .u16 (r.many : Int)] 36)
      have bn1 := (Blk.new w3 28 #[.slice p1.A1 n.coils.length p1.c1, .slice p1.A2 n.inputs.length p1.c2, .slice p1.A3 n.holding.length p1.c3, .slice p1.A4 n.words.length p1.c4]).alloc (.cells #[.int .u8 (r.fn : Int), .int .u8 (r.ex : Int), .slice Br1 r.bits.length dr1, .slice Ar1 r.words.length cr1, .int .u16 (r.at_ : Int), .int .u16 (r.many : Int)] 36)
      have br1 := Blk.newAt (w3.alloc (.cells #[.slice p1.A1 n.coils.length p1.c1, .slice p1.A2 n.inputs.length p1.c2, .slice p1.A3 n.holding.length p1.c3, .slice p1.A4 n.words.length p1.c4] 28)) 36 #[.int .u8 (r.fn : Int), .int .u8 (r.ex : Int), .slice Br1 r.bits.length dr1, .slice Ar1 r.words.length cr1, .int .u16 (r.at_ : Int), .int .u16 (r.many : Int)] (w3.heap.size + 1) (World.size_alloc _ _)
      go_upto_region 4 with fail
      generalize (w3.alloc (.cells #[.slice p1.A1 n.coils.length p1.c1, .slice p1.A2 n.inputs.length p1.c2, .slice p1.A3 n.holding.length p1.c3, .slice p1.A4 n.words.length p1.c4] 28)).alloc (.cells #[.int .u8 (r.fn : Int), .int .u8 (r.ex : Int), .slice Br1 r.bits.length dr1, .slice Ar1 r.words.length cr1, .int .u16 (r.at_ : Int), .int .u16 (r.many : Int)] 36) = w4 at *
      obtain ⟨gn1, hgn⟩ : ∃ g, w3.heap.size = g := ⟨_, rfl⟩
      obtain ⟨gr1, hgr⟩ : ∃ g, w3.heap.size + 1 = g := ⟨_, rfl⟩
      rw [hgr] at br1
      (try rw [hgr])
      rw [hgn] at bn1
      (try rw [hgn])
      replace HM1 := HM1.below hs
      replace HR1 := HR1.below hs
      clear hgn hgr
      clear zs0 zs1 zs2 zs3
      clear zm0 zm1 zm2 zm3
      clear za0 za1 za2 za3 za4 za5
      replace bsp := bsp.all hs
      replace bm := bm.all hs
      replace ba := ba.all hs
      replace hS := hS.below hs
      replace hM := hM.below hs
      replace hR := hR.below hs
      replace hb := bthen hb hs
      clear hs
      obtain ⟨zs0, zs1, zs2, zs3⟩ := bsp.c4
      obtain ⟨zm0, zm1, zm2, zm3⟩ := bm.c4
      obtain ⟨za0, za1, za2, za3, za4, za5⟩ := ba.c6
      go_wp2_with fail
      refine (G2.out _ hS).mono ?_
      rintro e w5 ⟨rfl, hs⟩
      clear zs0 zs1 zs2 zs3
      clear zm0 zm1 zm2 zm3
      clear za0 za1 za2 za3 za4 za5
      replace bsp := bsp.all hs
      replace bm := bm.all hs
      replace ba := ba.all hs
      replace hS := hS.below hs
      replace hM := hM.below hs
      replace hR := hR.below hs
      replace bn1 := bn1.all hs
      replace br1 := br1.all hs
      replace HM1 := HM1.below hs
      replace HR1 := HR1.below hs
      replace hb := bthen hb hs
      clear hs
      obtain ⟨zs0, zs1, zs2, zs3⟩ := bsp.c4
      obtain ⟨zm0, zm1, zm2, zm3⟩ := bm.c4
      obtain ⟨za0, za1, za2, za3, za4, za5⟩ := ba.c6
      clear G1 G2
      obtain ⟨zn0, zn1, zn2, zn3⟩ := bn1.c4
      obtain ⟨zr0, zr1, zr2, zr3, zr4, zr5⟩ := br1.c6
      by_cases hr0 : r.ex = 0
      rotate_left
      · have v0 : ((r.ex : Int) != 0) = true := by simp; omega
        have hnm : n = m := by have := doM_bad (s := s) (m := m) (a := a) (by rw [E1.out]; exact hr0); rw [E1.out] at this; exact this
        rw [sameM_iff.2 hnm] at ES
        clear hnm
        by_cases hc0 : ck = 0
        · have hrsf : rs = false := by
            have := HEX.out
            rw [if_neg (by simpa using hc0)] at this
            cases rs with
            | false => rfl
            | true => rw [if_neg (by simp)] at this; exact absurd this hr0
          subst hrsf
          have hex4 : r.ex = 4 := by rw [HEX.out, if_neg (by simpa using hc0)]; rfl
          have v1 : ((ck : Int) == (r.ex : Int)) = false := by rw [hex4]; simp; omega
          have v2 : ((ck : Int) == 0) = true := by simp [hc0]
          have v3 : ((r.ex : Int) == 4) = true := by simp [hex4]
          clear hr0 hex4 hc0
          go_wp2_with fail
          refine (ES.out _ p1 HM1 hM).mono ?_
          rintro e w6 ⟨rfl, hs⟩
          clear zs0 zs1 zs2 zs3
          clear zm0 zm1 zm2 zm3
          clear za0 za1 za2 za3 za4 za5
          clear zn0 zn1 zn2 zn3
          clear zr0 zr1 zr2 zr3 zr4 zr5
          replace bsp := bsp.all hs
          replace bm := bm.all hs
          replace ba := ba.all hs
          replace hS := hS.below hs
          replace hM := hM.below hs
          replace hR := hR.below hs
          replace bn1 := bn1.all hs
          replace br1 := br1.all hs
          replace HM1 := HM1.below hs
          replace HR1 := HR1.below hs
          replace hb := bthen hb hs
          clear hs
          obtain ⟨zs0, zs1, zs2, zs3⟩ := bsp.c4
          obtain ⟨zm0, zm1, zm2, zm3⟩ := bm.c4
          obtain ⟨za0, za1, za2, za3, za4, za5⟩ := ba.c6
          obtain ⟨zn0, zn1, zn2, zn3⟩ := bn1.c4
          obtain ⟨zr0, zr1, zr2, zr3, zr4, zr5⟩ := br1.c6
          go_wp2_with fail
          refine (ER.out _ hS).mono ?_
          rintro e w7 ⟨rfl, hs⟩
          clear zs0 zs1 zs2 zs3
          clear zm0 zm1 zm2 zm3
          clear za0 za1 za2 za3 za4 za5
          clear zn0 zn1 zn2 zn3
          clear zr0 zr1 zr2 zr3 zr4 zr5
          replace bsp := bsp.all hs
          replace bm := bm.all hs
          replace ba := ba.all hs
          replace hS := hS.below hs
          replace hM := hM.below hs
          replace hR := hR.below hs
          replace bn1 := bn1.all hs
          replace br1 := br1.all hs
          replace HM1 := HM1.below hs
          replace HR1 := HR1.below hs
          replace hb := bthen hb hs
          clear hs
          obtain ⟨zs0, zs1, zs2, zs3⟩ := bsp.c4
          obtain ⟨zm0, zm1, zm2, zm3⟩ := bm.c4
          obtain ⟨za0, za1, za2, za3, za4, za5⟩ := ba.c6
          obtain ⟨zn0, zn1, zn2, zn3⟩ := bn1.c4
          obtain ⟨zr0, zr1, zr2, zr3, zr4, zr5⟩ := br1.c6
          go_wp2_with fail
          refine (law07_awake _).mono ?_
          rintro e wz ⟨rfl, hs⟩
          go_wp2_with fail
          go_ret
          exact ⟨rfl, bthen hb hs⟩
        · have hexc : r.ex = ck := by rw [HEX.out, if_pos hc0]
          have v1 : ((ck : Int) == (r.ex : Int)) = true := by simp [hexc]
          clear hr0 hexc hc0
          go_wp2_with fail
          refine (ES.out _ p1 HM1 hM).mono ?_
          rintro e w6 ⟨rfl, hs⟩
          clear zs0 zs1 zs2 zs3
          clear zm0 zm1 zm2 zm3
          clear za0 za1 za2 za3 za4 za5
          clear zn0 zn1 zn2 zn3
          clear zr0 zr1 zr2 zr3 zr4 zr5
          replace bsp := bsp.all hs
          replace bm := bm.all hs
          replace ba := ba.all hs
          replace hS := hS.below hs
          replace hM := hM.below hs
          replace hR := hR.below hs
          replace bn1 := bn1.all hs
          replace br1 := br1.all hs
          replace HM1 := HM1.below hs
          replace HR1 := HR1.below hs
          replace hb := bthen hb hs
          clear hs
          obtain ⟨zs0, zs1, zs2, zs3⟩ := bsp.c4
          obtain ⟨zm0, zm1, zm2, zm3⟩ := bm.c4
          obtain ⟨za0, za1, za2, za3, za4, za5⟩ := ba.c6
          obtain ⟨zn0, zn1, zn2, zn3⟩ := bn1.c4
          obtain ⟨zr0, zr1, zr2, zr3, zr4, zr5⟩ := br1.c6
          go_wp2_with fail
          refine (law07_awake _).mono ?_
          rintro e wz ⟨rfl, hs⟩
          go_wp2_with fail
          go_ret
          exact ⟨rfl, bthen hb hs⟩
      have v0 : ((r.ex : Int) != 0) = false := by simp [hr0]
      obtain ⟨l1, l2, l3, l4, l5, l6⟩ := writes_law E1.out hr0
      have hfit : fitsA a r = true := by have := doM_fits (s := s) (m := m) (a := a) (by rw [E1.out]; exact hr0); rw [E1.out] at this; exact this
      obtain ⟨k1, k2, k3, k4⟩ : n.coils.length = m.coils.length ∧ n.inputs = m.inputs ∧ n.holding.length = m.holding.length ∧ n.words = m.words := by have := doM_lens (s := s) (m := m) (a := a); rw [E1.out] at this; exact this
      have hrn : rightSM s n = true := by rw [rightSM_lens k1 (by rw [k2]) k3 (by rw [k4])]; exact l6
      have hrl : r.words.length ≤ 100000 ∧ r.bits.length ≤ 3000 := ⟨by have := doM_words s m a hmf5; rw [E1.out] at this; exact this, by have := (doM_rright s m a).2; rw [E1.out] at this; exact this⟩
      have hrok : r.ok := by have := doM_rok (s := s) hmk hok; rw [E1.out] at this; exact this
      have ck0 : ck = 0 := by rw [← HCK.out]; exact l5
      have vc : ((ck : Int) != 0) = false := by simp [ck0]
      have EFt := Lib.hid (fun W (h1 : AkR W a A B) (h2 : RpR W r Ar1 Br1) => reply_Fits a A c B d r Ar1 cr1 Br1 dr1 W h1 hok (by omega) (by omega) h2 hrok (by omega) (by omega) hcp1)
      rw [hfit] at EFt
      have ERn := Lib.hid (fun W h => md_Right s q n p1 W h hsk hsf6)
      rw [hrn] at ERn
      have EB := Lib.hid (fun (W : World) (h1 : Rd W p1.A2 (os n.inputs)) (h2 : Rd W p.A2 (os m.inputs)) => low_Bits p1.A2 p.A2 n.inputs.length p1.c2 m.inputs.length p.c2 n.inputs m.inputs W h1 h2 rfl rfl (by have := hf1.inputs; omega))
      rw [sameO_iff.2 k2] at EB
      have EW := Lib.hid (fun (W : World) (h1 : Rd W p1.A4 (ws n.words)) (h2 : Rd W p.A4 (ws m.words)) => low_Words p1.A4 p.A4 n.words.length p1.c4 m.words.length p.c4 n.words m.words W h1 h2 rfl rfl (by have := hf1.words; omega))
      rw [sameB_iff.2 k4] at EW
      simp only [Sp.v, Mm.v, Ak.v, akV, Rp.v, rpV] at EFt ERn
      have w3 : ((n.holding.length : Int) != (m.holding.length : Int)) = false := by rw [k3]; simp
      have w1_ : ((n.coils.length : Int) != (m.coils.length : Int)) = false := by rw [k1]; simp
      obtain ⟨T, hT⟩ : ∃ T, targetT a = T := ⟨_, rfl⟩
      rw [hT] at l1 l2 l3 l4
      have HL1 := Lib.hid l1
      have HL2 := Lib.hid l2
      have HL3 := Lib.hid l3
      have HL4 := Lib.hid l4
      have HK1 := Lib.hid k1
      have HK3 := Lib.hid k3
      have HT := Lib.hid hT
      have hTb : T ≤ 65535 := by rw [← hT]; have := hok.at_; have := hok.to_; unfold targetT; split <;> omega
      have hq1 := hf1.coils
      have hq3 := hf1.holding
      have hnok : n.ok := by have := doM_mok (s := s) hmk hok; rw [E1.out] at this; exact this
      clear l1 l2 l3 l4 l5 l6 k1 k2 k3 k4 hfit hrn ck0 hr0 hT ES ER
      go_wp2_with fail
      refine (EFt.out _ hR HR1).mono ?_
      rintro e w6 ⟨rfl, hs⟩
      clear zs0 zs1 zs2 zs3
      clear zm0 zm1 zm2 zm3
      clear za0 za1 za2 za3 za4 za5
      clear zn0 zn1 zn2 zn3
      clear zr0 zr1 zr2 zr3 zr4 zr5
      replace bsp := bsp.all hs
      replace bm := bm.all hs
      replace ba := ba.all hs
      replace hS := hS.below hs
      replace hM := hM.below hs
      replace hR := hR.below hs
      replace bn1 := bn1.all hs
      replace br1 := br1.all hs
      replace HM1 := HM1.below hs
      replace HR1 := HR1.below hs
      replace hb := bthen hb hs
      clear hs
      obtain ⟨zs0, zs1, zs2, zs3⟩ := bsp.c4
      obtain ⟨zm0, zm1, zm2, zm3⟩ := bm.c4
      obtain ⟨za0, za1, za2, za3, za4, za5⟩ := ba.c6
      obtain ⟨zn0, zn1, zn2, zn3⟩ := bn1.c4
      obtain ⟨zr0, zr1, zr2, zr3, zr4, zr5⟩ := br1.c6
      go_wp2_with fail
      refine (ERn.out _ hS).mono ?_
      rintro e w7 ⟨rfl, hs⟩
      clear zs0 zs1 zs2 zs3
      clear zm0 zm1 zm2 zm3
      clear za0 za1 za2 za3 za4 za5
      clear zn0 zn1 zn2 zn3
      clear zr0 zr1 zr2 zr3 zr4 zr5
      replace bsp := bsp.all hs
      replace bm := bm.all hs
      replace ba := ba.all hs
      replace hS := hS.below hs
      replace hM := hM.below hs
      replace hR := hR.below hs
      replace bn1 := bn1.all hs
      replace br1 := br1.all hs
      replace HM1 := HM1.below hs
      replace HR1 := HR1.below hs
      replace hb := bthen hb hs
      clear hs
      obtain ⟨zs0, zs1, zs2, zs3⟩ := bsp.c4
      obtain ⟨zm0, zm1, zm2, zm3⟩ := bm.c4
      obtain ⟨za0, za1, za2, za3, za4, za5⟩ := ba.c6
      obtain ⟨zn0, zn1, zn2, zn3⟩ := bn1.c4
      obtain ⟨zr0, zr1, zr2, zr3, zr4, zr5⟩ := br1.c6
      go_wp2_with fail
      refine (EB.out _ HM1.inputs hM.inputs).mono ?_
      rintro e w8 ⟨rfl, hdn⟩
      have hs := drewN_below hdn
      clear hdn
      clear zs0 zs1 zs2 zs3
      clear zm0 zm1 zm2 zm3
      clear za0 za1 za2 za3 za4 za5
      clear zn0 zn1 zn2 zn3
      clear zr0 zr1 zr2 zr3 zr4 zr5
      replace bsp := bsp.all hs
      replace bm := bm.all hs
      replace ba := ba.all hs
      replace hS := hS.below hs
      replace hM := hM.below hs
      replace hR := hR.below hs
      replace bn1 := bn1.all hs
      replace br1 := br1.all hs
      replace HM1 := HM1.below hs
      replace HR1 := HR1.below hs
      replace hb := bthen hb hs
      clear hs
      obtain ⟨zs0, zs1, zs2, zs3⟩ := bsp.c4
      obtain ⟨zm0, zm1, zm2, zm3⟩ := bm.c4
      obtain ⟨za0, za1, za2, za3, za4, za5⟩ := ba.c6
      obtain ⟨zn0, zn1, zn2, zn3⟩ := bn1.c4
      obtain ⟨zr0, zr1, zr2, zr3, zr4, zr5⟩ := br1.c6
      go_wp2_with fail
      refine (EW.out _ HM1.words hM.words).mono ?_
      rintro e w9 ⟨rfl, hdn⟩
      have hs := drewN_below hdn
      clear hdn
      clear zs0 zs1 zs2 zs3
      clear zm0 zm1 zm2 zm3
      clear za0 za1 za2 za3 za4 za5
      clear zn0 zn1 zn2 zn3
      clear zr0 zr1 zr2 zr3 zr4 zr5
      replace bsp := bsp.all hs
      replace bm := bm.all hs
      replace ba := ba.all hs
      replace hS := hS.below hs
      replace hM := hM.below hs
      replace hR := hR.below hs
      replace bn1 := bn1.all hs
      replace br1 := br1.all hs
      replace HM1 := HM1.below hs
      replace HR1 := HR1.below hs
      replace hb := bthen hb hs
      clear hs
      obtain ⟨zs0, zs1, zs2, zs3⟩ := bsp.c4
      obtain ⟨zm0, zm1, zm2, zm3⟩ := bm.c4
      obtain ⟨za0, za1, za2, za3, za4, za5⟩ := ba.c6
      obtain ⟨zn0, zn1, zn2, zn3⟩ := bn1.c4
      obtain ⟨zr0, zr1, zr2, zr3, zr4, zr5⟩ := br1.c6
      clear zs0 zs1 zs2 zs3
      clear zr0 zr1 zr2 zr3 zr4 zr5
      clear bsp hS br1 HR1
      clear EFt ERn EB EW
      have hat := hok.at_
      go_upto_if 121 with fail
      go_cut [10] (fun v wc => v = .int .i64 (T : Int) ∧ w9 = wc)
      case first =>
        by_cases h23 : a.fn = 23
        · have hT2 : a.to_ = T := by rw [← HT.out]; unfold targetT; rw [if_pos h23]
          rw [hT2] at za3
          have vf : ((a.fn : Int) == 23) = true := by simp [h23]
          clear h23 hT2
          go_wp2_with fail
          go_meet
          exact ⟨rfl, rfl⟩
        · have hT2 : a.at_ = T := by rw [← HT.out]; unfold targetT; rw [if_neg h23]
          have HT2 := Lib.hid hT2
          have vf : ((a.fn : Int) == 23) = false := by simp; omega
          clear h23 hT2
          go_wp2_with fail
          go_meet
          exact ⟨by rw [HT2.out], rfl⟩
      case rest =>
        obtain ⟨rfl, rfl⟩ := hcut
        go_wp2_with fail
        go_loop [128] (fun i => ∃ j : Nat, j ≤ n.holding.length ∧ i = .int .i64 (j : Int)) (fun i => n.holding.length - (intOf i).toNat)
        case atStart => exact ⟨0, by omega, rfl⟩
        case round =>
          obtain ⟨j, hj, rfl⟩ := hrel
          by_cases hlt : j < n.holding.length
          · obtain ⟨b1, o1, y, hA1, hy, cy⟩ := HM1.holding.word (k := j) hlt
            obtain ⟨b2, o2, x, hA2, hx, cx⟩ := hM.holding.word (k := j) (by rw [← HK3.out]; exact hlt)
            rw [hA1] at zn2
            rw [hA2] at zm2
            clear hA1 hA2
            rw [HL1.out] at hy
            obtain ⟨p1_, p2_, p3_⟩ := putAt_get HL3.out hx hy
            have f0 : (0 : Int) ≤ (j : Int) := by omega
            have f1 : (j : Int) < (n.holding.length : Int) := by omega
            have f2 : (j : Int) < (m.holding.length : Int) := by have := HK3.out; omega
            clear hx hy
            by_cases c1 : T ≤ j
            · have v1 : decide ((T : Int) ≤ (j : Int)) = true := decide_eq_true (by omega)
              obtain ⟨dd, hdd⟩ : ∃ d, j - T = d := ⟨_, rfl⟩
              have hdi : (j : Int) - (T : Int) = (dd : Int) := by omega
              rw [hdd] at p2_ p3_
              clear hdd
              by_cases c2 : dd < a.words.length
              · have v2 : decide ((dd : Int) < (a.words.length : Int)) = true := decide_eq_true (by omega)
                obtain ⟨b3, o3, z, hA3, hz, cz⟩ := hR.words.word (k := dd) c2
                have hzy : y = z := by have := p3_ c1 c2; rw [hz] at this; injection this with this; exact this.symm
                subst hzy
                subst hA3
                have g0 : (0 : Int) ≤ (dd : Int) := by omega
                have g1 : (dd : Int) < (a.words.length : Int) := by omega
                clear hz p1_ p2_ p3_
                have vxx : ((y : Int) != (y : Int)) = false := by simp
                go_wp2_with fail
                go_round
                case rel => exact ⟨j + 1, by omega, by go_num⟩
                case measure => simp [intOf]; omega
              · have v2 : decide ((dd : Int) < (a.words.length : Int)) = false := decide_eq_false (by omega)
                have hxy := p2_ c1 c2
                subst hxy
                clear p1_ p2_ p3_
                have vxx : ((y : Int) != (y : Int)) = false := by simp
                go_wp2_with fail
                go_round
                case rel => exact ⟨j + 1, by omega, by go_num⟩
                case measure => simp [intOf]; omega
            · have v1 : decide ((T : Int) ≤ (j : Int)) = false := decide_eq_false (by omega)
              have hxy := p1_ c1
              subst hxy
              clear p1_ p2_ p3_
              have vxx : ((y : Int) != (y : Int)) = false := by simp
              go_wp2_with fail
              go_round
              case rel => exact ⟨j + 1, by omega, by go_num⟩
              case measure => simp [intOf]; omega
          · go_wp2_with fail
            go_loop [166] (fun i => ∃ j : Nat, j ≤ n.coils.length ∧ i = .int .i64 (j : Int)) (fun i => n.coils.length - (intOf i).toNat)
            case atStart => exact ⟨0, by omega, rfl⟩
            case round =>
              clear hlt hj
              obtain ⟨j, hj, rfl⟩ := hrel
              by_cases hlt : j < n.coils.length
              · obtain ⟨b1, o1, y, hA1, hy, cy⟩ := HM1.coils.bit (k := j) hlt
                obtain ⟨b2, o2, x, hA2, hx, cx⟩ := hM.coils.bit (k := j) (by rw [← HK1.out]; exact hlt)
                rw [hA1] at zn0
                rw [hA2] at zm0
                clear hA1 hA2
                rw [HL2.out] at hy
                obtain ⟨p1_, p2_, p3_⟩ := putAt_get HL4.out hx hy
                have f0 : (0 : Int) ≤ (j : Int) := by omega
                have f1 : (j : Int) < (n.coils.length : Int) := by omega
                have f2 : (j : Int) < (m.coils.length : Int) := by have := HK1.out; omega
                clear hx hy
                by_cases c1 : T ≤ j
                · have v1 : decide ((T : Int) ≤ (j : Int)) = true := decide_eq_true (by omega)
                  obtain ⟨dd, hdd⟩ : ∃ d, j - T = d := ⟨_, rfl⟩
                  have hdi : (j : Int) - (T : Int) = (dd : Int) := by omega
                  rw [hdd] at p2_ p3_
                  clear hdd
                  by_cases c2 : dd < a.bits.length
                  · have v2 : decide ((dd : Int) < (a.bits.length : Int)) = true := decide_eq_true (by omega)
                    obtain ⟨b3, o3, z, hA3, hz, cz⟩ := hR.bits.bit (k := dd) c2
                    have hzy : y = z := by have := p3_ c1 c2; rw [hz] at this; injection this with this; exact this.symm
                    subst hzy
                    subst hA3
                    have g0 : (0 : Int) ≤ (dd : Int) := by omega
                    have g1 : (dd : Int) < (a.bits.length : Int) := by omega
                    clear hz p1_ p2_ p3_
                    cases y
                    all_goals
                      go_wp2_with fail
                      go_round
                      case rel => exact ⟨j + 1, by omega, by go_num⟩
                      case measure => simp [intOf]; omega
                  · have v2 : decide ((dd : Int) < (a.bits.length : Int)) = false := decide_eq_false (by omega)
                    have hxy := p2_ c1 c2
                    subst hxy
                    clear p1_ p2_ p3_
                    cases y
                    all_goals
                      go_wp2_with fail
                      go_round
                      case rel => exact ⟨j + 1, by omega, by go_num⟩
                      case measure => simp [intOf]; omega
                · have v1 : decide ((T : Int) ≤ (j : Int)) = false := decide_eq_false (by omega)
                  have hxy := p1_ c1
                  subst hxy
                  clear p1_ p2_ p3_
                  cases y
                  all_goals
                    go_wp2_with fail
                    go_round
                    case rel => exact ⟨j + 1, by omega, by go_num⟩
                    case measure => simp [intOf]; omega
              · have qc : (T ≤ n.coils.length ∧ T + a.bits.length ≤ n.coils.length) ∨ (n.coils.length < T ∧ a.bits.length ≤ 0) := by
                  have h1 := HL4.out
                  have h2 := HK1.out
                  rcases h1 with h1 | h1
                  · have : a.bits.length = 0 := by rw [h1]; rfl
                    omega
                  · omega
                have qh : (T ≤ n.holding.length ∧ T + a.words.length ≤ n.holding.length) ∨ (n.holding.length < T ∧ a.words.length ≤ 0) := by
                  have h1 := HL3.out
                  have h2 := HK3.out
                  rcases h1 with h1 | h1
                  · have : a.words.length = 0 := by rw [h1]; rfl
                    omega
                  · omega
                rcases qc with ⟨qc1, qc2⟩ | ⟨qc1, qc2⟩ <;> rcases qh with ⟨qh1, qh2⟩ | ⟨qh1, qh2⟩
                all_goals
                  go_wp2_with fail
                  all_goals
                    refine (law07_awake _).mono ?_
                    rintro e wz ⟨rfl, hs⟩
                    go_wp2_with fail
                    go_ret
                    exact ⟨rfl, bthen hb hs⟩
end Go.Proofs.Ytechhidfgheejaa
