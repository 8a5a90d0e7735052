/- The walk of the law ModelWhole, a part (written by gen_mwhole.py). -/
import Derived.Test.YtechhidfgheejaaMdWholeB
namespace Go.Proofs.Ytechhidfgheejaa
open Go.RowKit
set_option linter.unusedSimpArgs false
set_option linter.unusedVariables false
set_option maxRecDepth 100000 in
set_option maxHeartbeats 16000000 in
theorem ModelWhole_tf (lo at_ mn : Nat) (wh wr_ : Bool) (fr co : Nat) (w : World) (hlo : lo < 256) (hat : at_ < 256) (hmn : mn < 256) (hfr : fr < 256) (hco : co < 256) (hwr : wr_ = true) (hwh : wh = false) :
    Calls Try.prog 7 #[.int .u8 (lo : Int), .int .u8 (at_ : Int), .int .u8 (mn : Int), .bool wh, .bool wr_, .int .u8 (fr : Int), .int .u8 (co : Int)] w fun e w' => e = .returned (.bool true) ∧ Below w.heap.size w w' := by
  subst hwr hwh
  obtain ⟨N, hN⟩ : ∃ x, 20 + lo % 41 = x := ⟨_, rfl⟩
  obtain ⟨A, hA⟩ : ∃ x, at_ % 10 = x := ⟨_, rfl⟩
  obtain ⟨M, hM⟩ : ∃ x, 1 + mn % 10 = x := ⟨_, rfl⟩
  obtain ⟨k, hk⟩ : ∃ x, fr % N = x := ⟨_, rfl⟩
  obtain ⟨c, hc⟩ : ∃ x, 1 + co % 20 = x := ⟨_, rfl⟩
  have iN : (20 : Int) + (lo : Int) % 41 = (N : Int) := by omega
  have iA : (at_ : Int) % 10 = (A : Int) := by omega
  have iM : (1 : Int) + (mn : Int) % 10 = (M : Int) := by omega
  have ik : (fr : Int) % (N : Int) = (k : Int) := by rw [← hk]; simp
  have ic : (1 : Int) + (co : Int) % 20 = (c : Int) := by omega
  have bN1 : 20 ≤ N := by omega
  have bN2 : N ≤ 60 := by omega
  have bA : A ≤ 9 := by omega
  have bM1 : 1 ≤ M := by omega
  have bM2 : M ≤ 10 := by omega
  have bk : k < N := by rw [← hk]; exact Nat.mod_lt _ (by omega)
  have bc1 : 1 ≤ c := by omega
  have bc2 : c ≤ 20 := by omega
  obtain ⟨n1, r1, e1⟩ : ∃ x y, doM (whS A M true false) (whM N) (whAk k c) = (x, y) := ⟨_, _, rfl⟩
  obtain ⟨n2, r2, e2⟩ : ∃ x y, doM (whS A M true false) (whM N) (whAk1 k) = (x, y) := ⟨_, _, rfl⟩
  have D1 := Lib.hid (wh_do (wr := true) (wh := false) (A := A) (M := M) (n := N) (k := k) (c := c) (by omega) bM1 (by omega) bc1 (by omega))
  have D2 := Lib.hid (wh_do1 (wr := true) (wh := false) (A := A) (M := M) (n := N) (k := k) (by omega) bM1 (by omega))
  rw [e1] at D1
  rw [e2] at D2
  have hsk : (whS A M true false).ok := ⟨(by intro x hx; cases hx), (by intro x hx; cases hx), (by intro x hx; simp [whS] at hx; subst hx; exact ⟨by simp only; omega, by simp only; omega, by simp only; omega, by simp only; omega⟩), (by intro x hx; cases hx)⟩
  have hsf : (whS A M true false).few 1000000 := ⟨by simp [whS], by simp [whS], by simp [whS], by simp [whS]⟩
  have hmf : (whM N).few 100000 := ⟨by simp [whM], by simp [whM], by simp [whM]; omega, by simp [whM]⟩
  have hn1 : n1.few 100000 := by have := hmf.few_do (whS A M true false) (whAk k c); rw [e1] at this; exact this
  have hn2 : n2.few 100000 := by have := hmf.few_do (whS A M true false) (whAk1 k); rw [e2] at this; exact this
  have G1 := Lib.hid (fun W gl gh gw (h1 : SpR W (whS A M true false) (whQ gl)) (h2 : MmR W (whM N) (whP gh N).A1 (whP gh N).A2 (whP gh N).A3 (whP gh N).A4) (h3 : Rd W (some ⟨gw, 0, none⟩) (ws (upTo c))) => law_DoN (whS A M true false) (whQ gl) (whM N) (whP gh N) (whAk k c) (some ⟨gw, 0, none⟩) c none 0 W n1 r1 e1 h1 hsk hsf h2 hmf ⟨h3, .inl rfl⟩ ⟨by show (16 : Nat) < 256; decide, by show k < 65536; omega, by show c < 65536; omega, by show (0 : Nat) < 65536; decide, upTo_Ws (by omega)⟩ (by show (upTo c).length ≤ _; rw [upTo_len]; omega) (Nat.zero_le _))
  have G2 := Lib.hid (fun W gl gh gw (h1 : SpR W (whS A M true false) (whQ gl)) (h2 : MmR W (whM N) (whP gh N).A1 (whP gh N).A2 (whP gh N).A3 (whP gh N).A4) (h3 : Rd W (some ⟨gw, 0, none⟩) (ws [1])) => law_DoN (whS A M true false) (whQ gl) (whM N) (whP gh N) (whAk1 k) (some ⟨gw, 0, none⟩) c none 0 W n2 r2 e2 h1 hsk hsf h2 hmf ⟨h3, .inl rfl⟩ ⟨by show (6 : Nat) < 256; decide, by show k < 65536; omega, by show (0 : Nat) < 65536; decide, by show (0 : Nat) < 65536; decide, Ws.one (by decide)⟩ (by show 1 ≤ _; omega) (Nat.zero_le _))
  simp only [Sp.v, Mm.v, Ak.v, akV, whS, whM, whAk, whAk1, whQ, whP, List.length_nil, List.length_cons, List.length_replicate, upTo_len, Int.cast_ofNat_Int, Int.natCast_zero, Nat.zero_add] at G1 G2
  have ES1 := Lib.hid (fun W p1 gh h1 h2 => law07_same n1 p1 (whM N) (whP gh N) W h1 h2 (Mm.few_le hn1 (by omega)))
  have ES2 := Lib.hid (fun W p1 gh h1 h2 => law07_same n2 p1 (whM N) (whP gh N) W h1 h2 (Mm.few_le hn2 (by omega)))
  rw [D1.out.2] at ES1
  rw [D2.out.2] at ES2
  simp only [Mm.v, whM, whP, List.length_nil, List.length_replicate] at ES1 ES2
  obtain ⟨ok1, hok1⟩ : ∃ b, whOk A M true false k c = b := ⟨_, rfl⟩
  obtain ⟨ok2, hok2⟩ : ∃ b, whOne A M true false k = b := ⟨_, rfl⟩
  have HO1 := Lib.hid hok1
  have HO2 := Lib.hid hok2
  rw [hok1] at D1 ES1
  rw [hok2] at D2 ES2
  clear hok1 hok2 hN hA hM hk hc e1 e2
  have hb := (Below.refl w.heap.size w).alloc (Nat.le_refl _) (.cells #[.int .i64 (A : Int), .int .i64 (M : Int), .bool true, .bool true, .bool false] 66)
  have ba := Blk.new w 66 #[.int .i64 (A : Int), .int .i64 (M : Int), .bool true, .bool true, .bool false]
  go_enter Try.func7, Try.ntmps7
  go_upto_region 3 with fail
  obtain ⟨ga, hga⟩ : ∃ g, w.heap.size = g := ⟨_, rfl⟩
  rw [hga] at ba
  (try rw [hga])
  generalize w.alloc (.cells #[.int .i64 (A : Int), .int .i64 (M : Int), .bool true, .bool true, .bool false] 66) = w1 at *
  clear hga iN iA iM
  obtain ⟨za0, za1, za2, za3, za4⟩ := ba.c5
  obtain ⟨gl, hgl⟩ : ∃ g, w1.heap.size = g := ⟨_, rfl⟩
  have hs := bx_space w1 (.cells #[.int .i64 (A : Int), .int .i64 (M : Int), .bool true, .bool true, .bool false] 66) (.cells #[.slice none 0 0, .slice none 0 0, .slice (some ⟨gl, 0, none⟩) 1 1, .slice none 0 0] 24)
  have bl := (Blk.newAt w1 66 #[.int .i64 (A : Int), .int .i64 (M : Int), .bool true, .bool true, .bool false] gl hgl).alloc (.cells #[.slice none 0 0, .slice none 0 0, .slice (some ⟨gl, 0, none⟩) 1 1, .slice none 0 0] 24)
  have bsp := Blk.newAt (w1.alloc (.cells #[.int .i64 (A : Int), .int .i64 (M : Int), .bool true, .bool true, .bool false] 66)) 24 #[.slice none 0 0, .slice none 0 0, .slice (some ⟨gl, 0, none⟩) 1 1, .slice none 0 0] (gl + 1) (by rw [World.size_alloc, hgl])
  go_upto_region 4 with fail
  obtain ⟨gsp, hgsp⟩ : ∃ g, gl + 1 = g := ⟨_, rfl⟩
  rw [hgsp] at bsp
  (try rw [hgsp])
  generalize (w1.alloc (.cells #[.int .i64 (A : Int), .int .i64 (M : Int), .bool true, .bool true, .bool false] 66)).alloc (.cells #[.slice none 0 0, .slice none 0 0, .slice (some ⟨gl, 0, none⟩) 1 1, .slice none 0 0] 24) = w2 at *
  clear hgl hgsp
  clear za0 za1 za2 za3 za4
  replace ba := ba.all hs
  replace hb := bthen hb hs
  clear hs
  obtain ⟨za0, za1, za2, za3, za4⟩ := ba.c5
  go_wp2_with (at_make; refine mkn_w rfl _ _ rfl w2 (Below.refl _ _) _ _ _ _ N rfl rfl rfl rfl (by omega) ?_)
  intro w3 oh hs hg3 hs3
  obtain ⟨gh, hgh⟩ : ∃ g, w2.heap.size = g := ⟨_, rfl⟩
  rw [hgh] at oh
  (try rw [hgh])
  clear hgh hg3 hs3
  clear za0 za1 za2 za3 za4
  replace ba := ba.all hs
  replace bl := bl.all hs
  replace bsp := bsp.all hs
  replace hb := bthen hb hs
  clear hs
  obtain ⟨za0, za1, za2, za3, za4⟩ := ba.c5
  have bm := Blk.new w3 28 #[.slice none 0 0, .slice none 0 0, .slice (some ⟨gh, 0, none⟩) N N, .slice none 0 0]
  have hs := (Below.refl w3.heap.size w3).alloc (Nat.le_refl _) (.cells #[.slice none 0 0, .slice none 0 0, .slice (some ⟨gh, 0, none⟩) N N, .slice none 0 0] 28)
  go_upto_region 5 with fail
  generalize w3.alloc (.cells #[.slice none 0 0, .slice none 0 0, .slice (some ⟨gh, 0, none⟩) N N, .slice none 0 0] 28) = w4 at *
  obtain ⟨gm, hgm⟩ : ∃ g, w3.heap.size = g := ⟨_, rfl⟩
  rw [hgm] at bm
  (try rw [hgm])
  clear hgm
  clear za0 za1 za2 za3 za4
  replace ba := ba.all hs
  replace bl := bl.all hs
  replace bsp := bsp.all hs
  replace oh := oh.below hs
  replace hb := bthen hb hs
  clear hs
  obtain ⟨za0, za1, za2, za3, za4⟩ := ba.c5
  go_wp2_with (at_make; refine mkn_w rfl _ _ rfl w4 (Below.refl _ _) _ _ _ _ c rfl rfl rfl rfl (by omega) ?_)
  intro w5 ow hs hg5 hs5
  have hb45 : Below w4.heap.size w4 w5 := hs
  obtain ⟨gw, hgw⟩ : ∃ g, w4.heap.size = g := ⟨_, rfl⟩
  rw [hgw] at ow
  (try rw [hgw])
  have hwgw : w.heap.size ≤ gw := by have := hb.size; omega
  have hgw5 : gw < w5.heap.size := by omega
  have hga5 : ga < gw ∧ gl < gw ∧ gsp < gw ∧ gm < gw ∧ gh < gw := by
    have h1 := ba.lt
    have h2 := bl.lt
    have h3 := bsp.lt
    have h4 := bm.lt
    have h5 : gh < w4.heap.size := (oh.under gh rfl).2
    omega
  obtain ⟨q1, q2, q3, q4, q5⟩ := hga5
  have hgwk : w4.heap.size ≤ gw := by omega
  clear hgw hg5 hs5
  have HB4 := Lib.hid hb
  have BA4 := Lib.hid ba
  have BL4 := Lib.hid bl
  have BS4 := Lib.hid bsp
  have BM4 := Lib.hid bm
  have OH4 := Lib.hid oh
  clear za0 za1 za2 za3 za4
  replace ba := ba.all hs
  replace bl := bl.all hs
  replace bsp := bsp.all hs
  replace oh := oh.below hs
  replace bm := bm.all hs
  replace hb := bthen hb hs
  clear hs
  obtain ⟨za0, za1, za2, za3, za4⟩ := ba.c5
  clear za0 za1 za2 za3 za4
  clear ba bl bsp bm oh hb ik ic
  have ho0 : Ow w5 gw 34 (some ⟨gw, 0, none⟩) c (ws (fillTo c 0)) := by
    have : fillTo c 0 = List.replicate c 0 := by unfold fillTo upTo; simp
    rw [this]; exact ow
  clear ow
  go_wp2_with fail
  go_loopw [61] (fun i wr => ∃ j : Nat, j ≤ c ∧ i = .int .i64 (j : Int) ∧ Below w4.heap.size w4 wr ∧ Ow wr gw 34 (some ⟨gw, 0, none⟩) c (ws (fillTo c j)) ∧ gw < wr.heap.size) (fun i _ => c - (intOf i).toNat)
  case atStart => exact ⟨0, by omega, rfl, hb45, ho0, hgw5⟩
  case round =>
    obtain ⟨j, hj, rfl, hbr, hor, hgr⟩ := hrel
    by_cases hlt : j < c
    · obtain ⟨⟨u, hu, cu⟩, fu, -, -⟩ := hor.at_ (j := j) (by rw [ws_length, fillTo_len hj]; exact hlt)
      have ho2 := hor.stored j (.int .u16 ((j + 1 : Nat) : Int))
      rw [ws_set, fillTo_set hlt] at ho2
      have f0 : (0 : Int) ≤ (j : Int) := by omega
      have f1 : (j : Int) < (c : Int) := by omega
      have f2 : (j : Int) + 1 = ((j + 1 : Nat) : Int) := by omega
      have hb6 := bset1 hbr hgwk j (.int .u16 ((j + 1 : Nat) : Int))
      rw [← f2] at ho2 hb6
      clear hu f2
      go_wp2_with fail
      go_roundw
      case rel => exact ⟨j + 1, by omega, by go_num, hb6, ho2, by simpa [World.setCell] using hgr⟩
      case measure => simp [intOf]; omega
    · have HFL : Hid (fillTo c j = upTo c) := by
        (show _ = _)
        have : j = c := by omega
        rw [this]; unfold fillTo; simp
      rw [HFL.out] at hor
      have hb := bthen HB4.out hbr
      have ba := BA4.out.all hbr
      have bl := BL4.out.all hbr
      have bsp := BS4.out.all hbr
      have bm := BM4.out.all hbr
      have oh := OH4.out.below hbr
      have hSP : SpR wr (whS A M true false) (whQ gl) := ⟨.inl rfl, .inl rfl, bl.rdl rfl, .inl rfl⟩
      have hMM : MmR wr (whM N) (whP gh N).A1 (whP gh N).A2 (whP gh N).A3 (whP gh N).A4 := ⟨.inl rfl, .inl rfl, oh.rd, .inl rfl⟩
      have hXW := hor.rd
      simp only [whS, whQ] at hSP
      simp only [whM, whP] at hMM
      clear HB4 BA4 BL4 BS4 BM4 OH4 hbr hor hgr HFL bl oh hb45 ho0
      go_upto_region 12 with fail
      generalize hwz : wr = w6 at *
      clear hwz hlt hj
      obtain ⟨za0, za1, za2, za3, za4⟩ := ba.c5
      go_cut [23] (fun v wc => v = .bool ok1 ∧ w6 = wc)
      case first =>
        by_cases q1_ : A ≤ k
        rotate_left
        · have v1 : decide ((A : Int) ≤ (k : Int)) = false := decide_eq_false (by omega)
          have hv : Hid (ok1 = false) := by (show _ = _); rw [← HO1.out]; unfold whOk; simp [q1_]
          go_wp2_with fail
          go_meet
          exact ⟨by rw [hv.out], rfl⟩
        have v1 : decide ((A : Int) ≤ (k : Int)) = true := decide_eq_true (by omega)
        by_cases q2_ : k + c ≤ A + M
        rotate_left
        · have v2 : decide ((k : Int) + (c : Int) ≤ (A : Int) + (M : Int)) = false := decide_eq_false (by omega)
          have hv : Hid (ok1 = false) := by (show _ = _); rw [← HO1.out]; unfold whOk; simp [q2_]
          go_wp2_with fail
          go_meet
          exact ⟨by rw [hv.out], rfl⟩
        have v2 : decide ((k : Int) + (c : Int) ≤ (A : Int) + (M : Int)) = true := decide_eq_true (by omega)
        have hv : Hid (ok1 = true) := by (show _ = _); rw [← HO1.out]; unfold whOk; simp [q1_, q2_]
        go_wp2_with fail
        go_meet
        exact ⟨by rw [hv.out], rfl⟩
      case rest =>
        obtain ⟨rfl, rfl⟩ := hcut
        clear za0 za1 za2 za3 za4
        obtain ⟨zs0, zs1, zs2, zs3⟩ := bsp.c4
        obtain ⟨zm0, zm1, zm2, zm3⟩ := bm.c4
        go_wp2_with fail
        refine (G1.out _ gl gh gw hSP hMM hXW).mono ?_
        rintro e w7 ⟨p1, Ar1, cr1, Br1, dr1, hev, HN1, hs⟩
        simp only [Mm.v, Rp.v, rpV] at hev
        subst hev
        have HM1 := HN1.rd
        clear HN1
        clear zs0 zs1 zs2 zs3
        clear zm0 zm1 zm2 zm3
        replace hSP := hSP.below hs
        replace hMM := hMM.below hs
        replace hXW := hXW.below hs
        replace ba := ba.all hs
        replace bsp := bsp.all hs
        replace bm := bm.all hs
        replace hb := bthen hb hs
        clear hs
        obtain ⟨zs0, zs1, zs2, zs3⟩ := bsp.c4
        obtain ⟨zm0, zm1, zm2, zm3⟩ := bm.c4
        have hs := bx_space w7 (.cells #[.slice p1.A1 n1.coils.length p1.c1, .slice p1.A2 n1.inputs.length p1.c2, .slice p1.A3 n1.holding.length p1.c3, .slice p1.A4 n1.words.length p1.c4] 28) (.cells #[.int .u8 (r1.fn : Int), .int .u8 (r1.ex : Int), .slice Br1 r1.bits.length dr1, .slice Ar1 r1.words.length cr1, .int .u16 (r1.at_ : Int), .int .u16 (r1.many : Int)] 36)
        have bn1 := (Blk.new w7 28 #[.slice p1.A1 n1.coils.length p1.c1, .slice p1.A2 n1.inputs.length p1.c2, .slice p1.A3 n1.holding.length p1.c3, .slice p1.A4 n1.words.length p1.c4]).alloc (.cells #[.int .u8 (r1.fn : Int), .int .u8 (r1.ex : Int), .slice Br1 r1.bits.length dr1, .slice Ar1 r1.words.length cr1, .int .u16 (r1.at_ : Int), .int .u16 (r1.many : Int)] 36)
        have br1 := Blk.newAt (w7.alloc (.cells #[.slice p1.A1 n1.coils.length p1.c1, .slice p1.A2 n1.inputs.length p1.c2, .slice p1.A3 n1.holding.length p1.c3, .slice p1.A4 n1.words.length p1.c4] 28)) 36 #[.int .u8 (r1.fn : Int), .int .u8 (r1.ex : Int), .slice Br1 r1.bits.length dr1, .slice Ar1 r1.words.length cr1, .int .u16 (r1.at_ : Int), .int .u16 (r1.many : Int)] (w7.heap.size + 1) (World.size_alloc _ _)
        go_upto_region 14 with fail
        generalize (w7.alloc (.cells #[.slice p1.A1 n1.coils.length p1.c1, .slice p1.A2 n1.inputs.length p1.c2, .slice p1.A3 n1.holding.length p1.c3, .slice p1.A4 n1.words.length p1.c4] 28)).alloc (.cells #[.int .u8 (r1.fn : Int), .int .u8 (r1.ex : Int), .slice Br1 r1.bits.length dr1, .slice Ar1 r1.words.length cr1, .int .u16 (r1.at_ : Int), .int .u16 (r1.many : Int)] 36) = w8 at *
        obtain ⟨gn1, hgn⟩ : ∃ g, w7.heap.size = g := ⟨_, rfl⟩
        obtain ⟨gr1, hgr⟩ : ∃ g, w7.heap.size + 1 = g := ⟨_, rfl⟩
        rw [hgr] at br1
        (try rw [hgr])
        rw [hgn] at bn1
        (try rw [hgn])
        replace HM1 := HM1.below hs
        clear hgn hgr
        clear zs0 zs1 zs2 zs3
        clear zm0 zm1 zm2 zm3
        replace hSP := hSP.below hs
        replace hMM := hMM.below hs
        replace hXW := hXW.below hs
        replace ba := ba.all hs
        replace bsp := bsp.all hs
        replace bm := bm.all hs
        replace hb := bthen hb hs
        clear hs
        obtain ⟨zs0, zs1, zs2, zs3⟩ := bsp.c4
        obtain ⟨zm0, zm1, zm2, zm3⟩ := bm.c4
        clear zs0 zs1 zs2 zs3
        clear zm0 zm1 zm2 zm3
        have hX1 : Rd w8 (some ⟨gw, 0, none⟩) (ws [1]) := by
          have := hXW.take 1
          have e : (ws (upTo c)).take 1 = ws [1] := by
            obtain ⟨c', rfl⟩ : ∃ c', c = c' + 1 := ⟨c - 1, by omega⟩
            unfold upTo ws
            rw [List.range_succ_eq_map]
            rfl
          rw [e] at this; exact this
        have hsl := slice_one_w gw c c bc1
        have hwk : IntKind.u16.wrap (k : Int) = (k : Int) := by rw [IntKind.wrap_u16]; omega
        go_cut [26, 27] (fun v v2 wc => ∃ (g26 g27 : Nat) (p2 : Q8) (A2 : Option Addr) (c2 : Nat) (B2 : Option Addr) (d2 : Nat), v = .pointer (some ⟨g26, 0, none⟩) ∧ v2 = .pointer (some ⟨g27, 0, none⟩) ∧ Blk wc g26 28 #[.slice p2.A1 n2.coils.length p2.c1, .slice p2.A2 n2.inputs.length p2.c2, .slice p2.A3 n2.holding.length p2.c3, .slice p2.A4 n2.words.length p2.c4] ∧ Blk wc g27 36 #[.int .u8 (r2.fn : Int), .int .u8 (r2.ex : Int), .slice B2 r2.bits.length d2, .slice A2 r2.words.length c2, .int .u16 (r2.at_ : Int), .int .u16 (r2.many : Int)] ∧ MmR wc n2 p2.A1 p2.A2 p2.A3 p2.A4 ∧ Below w8.heap.size w8 wc)
        case first =>
          have KK : Hid (∀ W : World, Below w8.heap.size w8 W → W.cell? ⟨gsp, 0, none⟩ = some (.slice none 0 0) ∧ W.cell? ⟨gsp, 1, none⟩ = some (.slice none 0 0) ∧ W.cell? ⟨gsp, 2, none⟩ = some (.slice (some ⟨gl, 0, none⟩) 1 1) ∧ W.cell? ⟨gsp, 3, none⟩ = some (.slice none 0 0) ∧ W.cell? ⟨gm, 0, none⟩ = some (.slice none 0 0) ∧ W.cell? ⟨gm, 1, none⟩ = some (.slice none 0 0) ∧ W.cell? ⟨gm, 2, none⟩ = some (.slice (some ⟨gh, 0, none⟩) N N) ∧ W.cell? ⟨gm, 3, none⟩ = some (.slice none 0 0)) := fun W h => by
            obtain ⟨a0, a1, a2, a3⟩ := (bsp.all h).c4
            obtain ⟨b0, b1, b2, b3⟩ := (bm.all h).c4
            exact ⟨a0, a1, a2, a3, b0, b1, b2, b3⟩
          have hbc : Below w8.heap.size w8 w8.drew := (Below.refl _ _).drew
          refine wp_region_held_drew (S := fun W => W.cell? ⟨gsp, 0, none⟩ = some (.slice none 0 0) ∧ W.cell? ⟨gsp, 1, none⟩ = some (.slice none 0 0) ∧ W.cell? ⟨gsp, 2, none⟩ = some (.slice (some ⟨gl, 0, none⟩) 1 1) ∧ W.cell? ⟨gsp, 3, none⟩ = some (.slice none 0 0) ∧ W.cell? ⟨gm, 0, none⟩ = some (.slice none 0 0) ∧ W.cell? ⟨gm, 1, none⟩ = some (.slice none 0 0) ∧ W.cell? ⟨gm, 2, none⟩ = some (.slice (some ⟨gh, 0, none⟩) N N) ∧ W.cell? ⟨gm, 3, none⟩ = some (.slice none 0 0)) (by kernel_rfl) ?_ (fun hHeld => ?_)
          · (with_reducible exact KK.out _ hbc)
          generalize w8.drew = wD at *
          refine takeRun (i := 0) (v := ?_) rfl (by kernel_rfl) (by kernel_rfl) (by kernel_rfl) (fun _ _ _ h => h) rfl ?_ (by assumption) ?_
          rotate_left
          · (intro w hSw; (try dsimp only at hSw); go_simp; (try with_reducible rfl))
          try simp only [Act.put, List.setIfInBounds_toArray, List.set_cons_zero, List.set_cons_succ]
          refine takeRun (i := 1) (v := ?_) rfl (by kernel_rfl) (by kernel_rfl) (by kernel_rfl) (fun _ _ _ h => h) rfl ?_ (by assumption) ?_
          rotate_left
          · (intro w hSw; (try dsimp only at hSw); go_simp; (try with_reducible rfl))
          try simp only [Act.put, List.setIfInBounds_toArray, List.set_cons_zero, List.set_cons_succ]
          refine takeRun (i := 2) (v := ?_) rfl (by kernel_rfl) (by kernel_rfl) (by kernel_rfl) (fun _ _ _ h => h) rfl ?_ (by assumption) ?_
          rotate_left
          · (intro w hSw; (try dsimp only at hSw); go_simp; (try with_reducible rfl))
          try simp only [Act.put, List.setIfInBounds_toArray, List.set_cons_zero, List.set_cons_succ]
          refine takeRun (i := 3) (v := ?_) rfl (by kernel_rfl) (by kernel_rfl) (by kernel_rfl) (fun _ _ _ h => h) rfl ?_ (by assumption) ?_
          rotate_left
          · (intro w hSw; (try dsimp only at hSw); go_simp; (try with_reducible rfl))
          try simp only [Act.put, List.setIfInBounds_toArray, List.set_cons_zero, List.set_cons_succ]
          refine takeRun (i := 4) (v := ?_) rfl (by kernel_rfl) (by kernel_rfl) (by kernel_rfl) (fun _ _ _ h => h) rfl ?_ (by assumption) ?_
          rotate_left
          · (intro w hSw; (try dsimp only at hSw); go_simp; (try with_reducible rfl))
          try simp only [Act.put, List.setIfInBounds_toArray, List.set_cons_zero, List.set_cons_succ]
          refine takeRun (i := 5) (v := ?_) rfl (by kernel_rfl) (by kernel_rfl) (by kernel_rfl) (fun _ _ _ h => h) rfl ?_ (by assumption) ?_
          rotate_left
          · (intro w hSw; (try dsimp only at hSw); go_simp; (try with_reducible rfl))
          try simp only [Act.put, List.setIfInBounds_toArray, List.set_cons_zero, List.set_cons_succ]
          refine takeRun (i := 6) (v := ?_) rfl (by kernel_rfl) (by kernel_rfl) (by kernel_rfl) (fun _ _ _ h => h) rfl ?_ (by assumption) ?_
          rotate_left
          · (intro w hSw; (try dsimp only at hSw); go_simp; (try with_reducible rfl))
          try simp only [Act.put, List.setIfInBounds_toArray, List.set_cons_zero, List.set_cons_succ]
          refine goThreeW (i := 7) (j := 11) (k := 12) (by kernel_rfl) rfl rfl rfl (fun K hK => ?_) (fun K hK => ?_) (fun K hK => ?_) 
          · go_simp
            refine Calls.mono (G2.out _ gl gh gw (hSP.below hbc) (hMM.below hbc) (hX1.below hbc)) ?_
            rintro e y1 ⟨p2, A2, c2, B2, d2, hev, HN2, hs⟩
            simp only [Mm.v, Rp.v, rpV] at hev
            subst hev
            have HM2 := HN2.rd
            replace hbc := bthen hbc hs
            clear hs HN2
            go_wp2_with fail
            refine hK.out _ _ ?_ (fun hHeld => ?_)
            · (with_reducible exact KK.out _ hbc)
            clear hK K
            try simp only [Act.put, List.setIfInBounds_toArray, List.set_cons_zero, List.set_cons_succ]
            refine takeRun (i := 8) (v := ?_) rfl (by kernel_rfl) (by kernel_rfl) (by kernel_rfl) (fun _ _ _ h => h) rfl ?_ (by assumption) ?_
            rotate_left
            · (intro w hSw; (try dsimp only at hSw); go_simp; (try with_reducible rfl))
            try simp only [Act.put, List.setIfInBounds_toArray, List.set_cons_zero, List.set_cons_succ]
            refine takeRun (i := 9) (v := ?_) rfl (by kernel_rfl) (by kernel_rfl) (by kernel_rfl) (fun _ _ _ h => h) rfl ?_ (by assumption) ?_
            rotate_left
            · (intro w hSw; (try dsimp only at hSw); go_simp; (try with_reducible rfl))
            try simp only [Act.put, List.setIfInBounds_toArray, List.set_cons_zero, List.set_cons_succ]
            refine takeRun (i := 10) (v := ?_) rfl (by kernel_rfl) (by kernel_rfl) (by kernel_rfl) (fun _ _ _ h => h) rfl ?_ (by assumption) ?_
            rotate_left
            · (intro w hSw; (try dsimp only at hSw); go_simp; (try with_reducible rfl))
            try simp only [Act.put, List.setIfInBounds_toArray, List.set_cons_zero, List.set_cons_succ]
            refine goTwoW (i := 11) (j := 12) (by kernel_rfl) rfl rfl (fun K hK => ?_) (fun K hK => ?_) 
            · have b26 := Blk.new y1 28 #[.slice none 0 0, .slice none 0 0, .slice none 0 0, .slice none 0 0]
              have hs := (Below.refl y1.heap.size y1).alloc (Nat.le_refl _) (.cells #[.slice none 0 0, .slice none 0 0, .slice none 0 0, .slice none 0 0] 28)
              have aw26 := HM2.away (Nat.le_refl y1.heap.size)
              go_simp
              generalize y1.alloc (.cells #[.slice none 0 0, .slice none 0 0, .slice none 0 0, .slice none 0 0] 28) = y2 at *
              obtain ⟨g26, hg26⟩ : ∃ g, y1.heap.size = g := ⟨_, rfl⟩
              have hge26 : w8.heap.size ≤ g26 := by have := hbc.size; omega
              rw [hg26] at b26 aw26
              (try rw [hg26])
              replace HM2 := HM2.below hs
              replace aw26 := aw26.below hs
              replace hbc := bthen hbc hs
              clear hs hg26
              refine hK.out _ _ ?_ (fun hHeld => ?_)
              · (with_reducible exact KK.out _ hbc)
              clear hK K
              try simp only [Act.put, List.setIfInBounds_toArray, List.set_cons_zero, List.set_cons_succ]
              refine goOne (i := 12) (by kernel_rfl) rfl (fun K hK => ?_)
              have b27 := Blk.new y2 36 #[.int .u8 0, .int .u8 0, .slice none 0 0, .slice none 0 0, .int .u16 0, .int .u16 0]
              have hs := (Below.refl y2.heap.size y2).alloc (Nat.le_refl _) (.cells #[.int .u8 0, .int .u8 0, .slice none 0 0, .slice none 0 0, .int .u16 0, .int .u16 0] 36)
              have aw27 := HM2.away (Nat.le_refl y2.heap.size)
              go_simp
              generalize y2.alloc (.cells #[.int .u8 0, .int .u8 0, .slice none 0 0, .slice none 0 0, .int .u16 0, .int .u16 0] 36) = y3 at *
              obtain ⟨g27, hg27⟩ : ∃ g, y2.heap.size = g := ⟨_, rfl⟩
              have hge27 : w8.heap.size ≤ g27 := by have := hbc.size; omega
              rw [hg27] at b27 aw27
              (try rw [hg27])
              replace b26 := b26.all hs
              replace HM2 := HM2.below hs
              replace aw26 := aw26.below hs
              replace aw27 := aw27.below hs
              replace hbc := bthen hbc hs
              clear hs hg27
              refine hK.out _ _ ?_ (fun hHeld => ?_)
              · (with_reducible exact KK.out _ hbc)
              clear hK K
              try simp only [Act.put, List.setIfInBounds_toArray, List.set_cons_zero, List.set_cons_succ]
              refine goOne (i := 13) (by kernel_rfl) rfl (fun K hK => ?_)
              have h67 := b26.ne b27 (by decide)
              obtain ⟨z0, z1, z2, z3⟩ := b26.c4
              have e0 := b26.frozen 0
              have e1 := b26.frozen 1
              have e2 := b26.frozen 2
              have e3 := b26.frozen 3
              replace aw27 := MmA.put4 (x0 := .slice p2.A1 n2.coils.length p2.c1) (x1 := .slice p2.A2 n2.inputs.length p2.c2) (x2 := .slice p2.A3 n2.holding.length p2.c3) (x3 := .slice p2.A4 n2.words.length p2.c4) aw26 aw27
              have b26f := Blk.put4 (x0 := .slice p2.A1 n2.coils.length p2.c1) (x1 := .slice p2.A2 n2.inputs.length p2.c2) (x2 := .slice p2.A3 n2.holding.length p2.c3) (x3 := .slice p2.A4 n2.words.length p2.c4) b26
              replace b27 := Blk.far4 (x0 := .slice p2.A1 n2.coils.length p2.c1) (x1 := .slice p2.A2 n2.inputs.length p2.c2) (x2 := .slice p2.A3 n2.holding.length p2.c3) (x3 := .slice p2.A4 n2.words.length p2.c4) b27 h67.symm
              replace hbc := below_put4 (x0 := .slice p2.A1 n2.coils.length p2.c1) (x1 := .slice p2.A2 n2.inputs.length p2.c2) (x2 := .slice p2.A3 n2.holding.length p2.c3) (x3 := .slice p2.A4 n2.words.length p2.c4) hbc hge26
              go_simp
              generalize ((((y3.setCell ⟨g26, 0, none⟩ (.slice p2.A1 n2.coils.length p2.c1)).setCell ⟨g26, 1, none⟩ (.slice p2.A2 n2.inputs.length p2.c2)).setCell ⟨g26, 2, none⟩ (.slice p2.A3 n2.holding.length p2.c3)).setCell ⟨g26, 3, none⟩ (.slice p2.A4 n2.words.length p2.c4)) = y4 at *
              clear z0 z1 z2 z3 e0 e1 e2 e3 b26 aw26 HM2
              refine hK.out _ _ ?_ (fun hHeld => ?_)
              · (with_reducible exact KK.out _ hbc)
              clear hK K
              try simp only [Act.put, List.setIfInBounds_toArray, List.set_cons_zero, List.set_cons_succ]
              refine goOne (i := 14) (by kernel_rfl) rfl (fun K hK => ?_)
              obtain ⟨z0, z1, z2, z3, z4, z5⟩ := b27.c6
              have e0 := b27.frozen 0
              have e1 := b27.frozen 1
              have e2 := b27.frozen 2
              have e3 := b27.frozen 3
              have e4 := b27.frozen 4
              have e5 := b27.frozen 5
              have HM2 := MmA.put6 (x0 := .int .u8 (r2.fn : Int)) (x1 := .int .u8 (r2.ex : Int)) (x2 := .slice B2 r2.bits.length d2) (x3 := .slice A2 r2.words.length c2) (x4 := .int .u16 (r2.at_ : Int)) (x5 := .int .u16 (r2.many : Int)) aw27
              have b27f := Blk.put6 (x0 := .int .u8 (r2.fn : Int)) (x1 := .int .u8 (r2.ex : Int)) (x2 := .slice B2 r2.bits.length d2) (x3 := .slice A2 r2.words.length c2) (x4 := .int .u16 (r2.at_ : Int)) (x5 := .int .u16 (r2.many : Int)) b27
              replace b26f := Blk.far6 (x0 := .int .u8 (r2.fn : Int)) (x1 := .int .u8 (r2.ex : Int)) (x2 := .slice B2 r2.bits.length d2) (x3 := .slice A2 r2.words.length c2) (x4 := .int .u16 (r2.at_ : Int)) (x5 := .int .u16 (r2.many : Int)) b26f h67
              replace hbc := below_put6 (x0 := .int .u8 (r2.fn : Int)) (x1 := .int .u8 (r2.ex : Int)) (x2 := .slice B2 r2.bits.length d2) (x3 := .slice A2 r2.words.length c2) (x4 := .int .u16 (r2.at_ : Int)) (x5 := .int .u16 (r2.many : Int)) hbc hge27
              go_simp
              generalize ((((((y4.setCell ⟨g27, 0, none⟩ (.int .u8 (r2.fn : Int))).setCell ⟨g27, 1, none⟩ (.int .u8 (r2.ex : Int))).setCell ⟨g27, 2, none⟩ (.slice B2 r2.bits.length d2)).setCell ⟨g27, 3, none⟩ (.slice A2 r2.words.length c2)).setCell ⟨g27, 4, none⟩ (.int .u16 (r2.at_ : Int))).setCell ⟨g27, 5, none⟩ (.int .u16 (r2.many : Int))) = y5 at *
              clear z0 z1 z2 z3 z4 z5 e0 e1 e2 e3 e4 e5 b27 aw27
              refine hK.out _ _ ?_ (fun hHeld => ?_)
              · (with_reducible exact KK.out _ hbc)
              clear hK K
              try simp only [Act.put, List.setIfInBounds_toArray, List.set_cons_zero, List.set_cons_succ]
              refine wpAnyH_done (by kernel_rfl) ?_ _
              go_wp2_with fail
              go_meet
              exact ⟨g26, g27, p2, A2, c2, B2, d2, rfl, rfl, b26f, b27f, HM2, hbc⟩
            · have b27 := Blk.new y1 36 #[.int .u8 0, .int .u8 0, .slice none 0 0, .slice none 0 0, .int .u16 0, .int .u16 0]
              have hs := (Below.refl y1.heap.size y1).alloc (Nat.le_refl _) (.cells #[.int .u8 0, .int .u8 0, .slice none 0 0, .slice none 0 0, .int .u16 0, .int .u16 0] 36)
              have aw27 := HM2.away (Nat.le_refl y1.heap.size)
              go_simp
              generalize y1.alloc (.cells #[.int .u8 0, .int .u8 0, .slice none 0 0, .slice none 0 0, .int .u16 0, .int .u16 0] 36) = y6 at *
              obtain ⟨g27, hg27⟩ : ∃ g, y1.heap.size = g := ⟨_, rfl⟩
              have hge27 : w8.heap.size ≤ g27 := by have := hbc.size; omega
              rw [hg27] at b27 aw27
              (try rw [hg27])
              replace HM2 := HM2.below hs
              replace aw27 := aw27.below hs
              replace hbc := bthen hbc hs
              clear hs hg27
              refine hK.out _ _ ?_ (fun hHeld => ?_)
              · (with_reducible exact KK.out _ hbc)
              clear hK K
              try simp only [Act.put, List.setIfInBounds_toArray, List.set_cons_zero, List.set_cons_succ]
              refine goOne (i := 11) (by kernel_rfl) rfl (fun K hK => ?_)
              have b26 := Blk.new y6 28 #[.slice none 0 0, .slice none 0 0, .slice none 0 0, .slice none 0 0]
              have hs := (Below.refl y6.heap.size y6).alloc (Nat.le_refl _) (.cells #[.slice none 0 0, .slice none 0 0, .slice none 0 0, .slice none 0 0] 28)
              have aw26 := HM2.away (Nat.le_refl y6.heap.size)
              go_simp
              generalize y6.alloc (.cells #[.slice none 0 0, .slice none 0 0, .slice none 0 0, .slice none 0 0] 28) = y7 at *
              obtain ⟨g26, hg26⟩ : ∃ g, y6.heap.size = g := ⟨_, rfl⟩
              have hge26 : w8.heap.size ≤ g26 := by have := hbc.size; omega
              rw [hg26] at b26 aw26
              (try rw [hg26])
              replace b27 := b27.all hs
              replace HM2 := HM2.below hs
              replace aw27 := aw27.below hs
              replace aw26 := aw26.below hs
              replace hbc := bthen hbc hs
              clear hs hg26
              refine hK.out _ _ ?_ (fun hHeld => ?_)
              · (with_reducible exact KK.out _ hbc)
              clear hK K
              try simp only [Act.put, List.setIfInBounds_toArray, List.set_cons_zero, List.set_cons_succ]
              refine goOne (i := 13) (by kernel_rfl) rfl (fun K hK => ?_)
              have h67 := b26.ne b27 (by decide)
              obtain ⟨z0, z1, z2, z3⟩ := b26.c4
              have e0 := b26.frozen 0
              have e1 := b26.frozen 1
              have e2 := b26.frozen 2
              have e3 := b26.frozen 3
              replace aw27 := MmA.put4 (x0 := .slice p2.A1 n2.coils.length p2.c1) (x1 := .slice p2.A2 n2.inputs.length p2.c2) (x2 := .slice p2.A3 n2.holding.length p2.c3) (x3 := .slice p2.A4 n2.words.length p2.c4) aw26 aw27
              have b26f := Blk.put4 (x0 := .slice p2.A1 n2.coils.length p2.c1) (x1 := .slice p2.A2 n2.inputs.length p2.c2) (x2 := .slice p2.A3 n2.holding.length p2.c3) (x3 := .slice p2.A4 n2.words.length p2.c4) b26
              replace b27 := Blk.far4 (x0 := .slice p2.A1 n2.coils.length p2.c1) (x1 := .slice p2.A2 n2.inputs.length p2.c2) (x2 := .slice p2.A3 n2.holding.length p2.c3) (x3 := .slice p2.A4 n2.words.length p2.c4) b27 h67.symm
              replace hbc := below_put4 (x0 := .slice p2.A1 n2.coils.length p2.c1) (x1 := .slice p2.A2 n2.inputs.length p2.c2) (x2 := .slice p2.A3 n2.holding.length p2.c3) (x3 := .slice p2.A4 n2.words.length p2.c4) hbc hge26
              go_simp
              generalize ((((y7.setCell ⟨g26, 0, none⟩ (.slice p2.A1 n2.coils.length p2.c1)).setCell ⟨g26, 1, none⟩ (.slice p2.A2 n2.inputs.length p2.c2)).setCell ⟨g26, 2, none⟩ (.slice p2.A3 n2.holding.length p2.c3)).setCell ⟨g26, 3, none⟩ (.slice p2.A4 n2.words.length p2.c4)) = y8 at *
              clear z0 z1 z2 z3 e0 e1 e2 e3 b26 aw26 HM2
              refine hK.out _ _ ?_ (fun hHeld => ?_)
              · (with_reducible exact KK.out _ hbc)
              clear hK K
              try simp only [Act.put, List.setIfInBounds_toArray, List.set_cons_zero, List.set_cons_succ]
              refine goOne (i := 14) (by kernel_rfl) rfl (fun K hK => ?_)
              obtain ⟨z0, z1, z2, z3, z4, z5⟩ := b27.c6
              have e0 := b27.frozen 0
              have e1 := b27.frozen 1
              have e2 := b27.frozen 2
              have e3 := b27.frozen 3
              have e4 := b27.frozen 4
              have e5 := b27.frozen 5
              have HM2 := MmA.put6 (x0 := .int .u8 (r2.fn : Int)) (x1 := .int .u8 (r2.ex : Int)) (x2 := .slice B2 r2.bits.length d2) (x3 := .slice A2 r2.words.length c2) (x4 := .int .u16 (r2.at_ : Int)) (x5 := .int .u16 (r2.many : Int)) aw27
              have b27f := Blk.put6 (x0 := .int .u8 (r2.fn : Int)) (x1 := .int .u8 (r2.ex : Int)) (x2 := .slice B2 r2.bits.length d2) (x3 := .slice A2 r2.words.length c2) (x4 := .int .u16 (r2.at_ : Int)) (x5 := .int .u16 (r2.many : Int)) b27
              replace b26f := Blk.far6 (x0 := .int .u8 (r2.fn : Int)) (x1 := .int .u8 (r2.ex : Int)) (x2 := .slice B2 r2.bits.length d2) (x3 := .slice A2 r2.words.length c2) (x4 := .int .u16 (r2.at_ : Int)) (x5 := .int .u16 (r2.many : Int)) b26f h67
              replace hbc := below_put6 (x0 := .int .u8 (r2.fn : Int)) (x1 := .int .u8 (r2.ex : Int)) (x2 := .slice B2 r2.bits.length d2) (x3 := .slice A2 r2.words.length c2) (x4 := .int .u16 (r2.at_ : Int)) (x5 := .int .u16 (r2.many : Int)) hbc hge27
              go_simp
              generalize ((((((y8.setCell ⟨g27, 0, none⟩ (.int .u8 (r2.fn : Int))).setCell ⟨g27, 1, none⟩ (.int .u8 (r2.ex : Int))).setCell ⟨g27, 2, none⟩ (.slice B2 r2.bits.length d2)).setCell ⟨g27, 3, none⟩ (.slice A2 r2.words.length c2)).setCell ⟨g27, 4, none⟩ (.int .u16 (r2.at_ : Int))).setCell ⟨g27, 5, none⟩ (.int .u16 (r2.many : Int))) = y9 at *
              clear z0 z1 z2 z3 z4 z5 e0 e1 e2 e3 e4 e5 b27 aw27
              refine hK.out _ _ ?_ (fun hHeld => ?_)
              · (with_reducible exact KK.out _ hbc)
              clear hK K
              try simp only [Act.put, List.setIfInBounds_toArray, List.set_cons_zero, List.set_cons_succ]
              refine wpAnyH_done (by kernel_rfl) ?_ _
              go_wp2_with fail
              go_meet
              exact ⟨g26, g27, p2, A2, c2, B2, d2, rfl, rfl, b26f, b27f, HM2, hbc⟩
          · have b26 := Blk.new wD 28 #[.slice none 0 0, .slice none 0 0, .slice none 0 0, .slice none 0 0]
            have hs := (Below.refl wD.heap.size wD).alloc (Nat.le_refl _) (.cells #[.slice none 0 0, .slice none 0 0, .slice none 0 0, .slice none 0 0] 28)
            go_simp
            generalize wD.alloc (.cells #[.slice none 0 0, .slice none 0 0, .slice none 0 0, .slice none 0 0] 28) = y10 at *
            obtain ⟨g26, hg26⟩ : ∃ g, wD.heap.size = g := ⟨_, rfl⟩
            have hge26 : w8.heap.size ≤ g26 := by have := hbc.size; omega
            rw [hg26] at b26
            (try rw [hg26])
            replace hbc := bthen hbc hs
            clear hs hg26
            refine hK.out _ _ ?_ (fun hHeld => ?_)
            · (with_reducible exact KK.out _ hbc)
            clear hK K
            try simp only [Act.put, List.setIfInBounds_toArray, List.set_cons_zero, List.set_cons_succ]
            refine goTwoW (i := 7) (j := 12) (by kernel_rfl) rfl rfl (fun K hK => ?_) (fun K hK => ?_) 
            · have lt26 := b26.lt
              go_simp
              refine Calls.mono (G2.out _ gl gh gw (hSP.below hbc) (hMM.below hbc) (hX1.below hbc)) ?_
              rintro e y11 ⟨p2, A2, c2, B2, d2, hev, HN2, hs⟩
              simp only [Mm.v, Rp.v, rpV] at hev
              subst hev
              have aw26 := HN2.away lt26
              have HM2 := HN2.rd
              replace b26 := b26.all hs
              replace hbc := bthen hbc hs
              clear hs HN2 lt26
              go_wp2_with fail
              refine hK.out _ _ ?_ (fun hHeld => ?_)
              · (with_reducible exact KK.out _ hbc)
              clear hK K
              try simp only [Act.put, List.setIfInBounds_toArray, List.set_cons_zero, List.set_cons_succ]
              refine takeRun (i := 8) (v := ?_) rfl (by kernel_rfl) (by kernel_rfl) (by kernel_rfl) (fun _ _ _ h => h) rfl ?_ (by assumption) ?_
              rotate_left
              · (intro w hSw; (try dsimp only at hSw); go_simp; (try with_reducible rfl))
              try simp only [Act.put, List.setIfInBounds_toArray, List.set_cons_zero, List.set_cons_succ]
              refine takeRun (i := 9) (v := ?_) rfl (by kernel_rfl) (by kernel_rfl) (by kernel_rfl) (fun _ _ _ h => h) rfl ?_ (by assumption) ?_
              rotate_left
              · (intro w hSw; (try dsimp only at hSw); go_simp; (try with_reducible rfl))
              try simp only [Act.put, List.setIfInBounds_toArray, List.set_cons_zero, List.set_cons_succ]
              refine takeRun (i := 10) (v := ?_) rfl (by kernel_rfl) (by kernel_rfl) (by kernel_rfl) (fun _ _ _ h => h) rfl ?_ (by assumption) ?_
              rotate_left
              · (intro w hSw; (try dsimp only at hSw); go_simp; (try with_reducible rfl))
              try simp only [Act.put, List.setIfInBounds_toArray, List.set_cons_zero, List.set_cons_succ]
              refine goOne (i := 12) (by kernel_rfl) rfl (fun K hK => ?_)
              have b27 := Blk.new y11 36 #[.int .u8 0, .int .u8 0, .slice none 0 0, .slice none 0 0, .int .u16 0, .int .u16 0]
              have hs := (Below.refl y11.heap.size y11).alloc (Nat.le_refl _) (.cells #[.int .u8 0, .int .u8 0, .slice none 0 0, .slice none 0 0, .int .u16 0, .int .u16 0] 36)
              have aw27 := HM2.away (Nat.le_refl y11.heap.size)
              go_simp
              generalize y11.alloc (.cells #[.int .u8 0, .int .u8 0, .slice none 0 0, .slice none 0 0, .int .u16 0, .int .u16 0] 36) = y12 at *
              obtain ⟨g27, hg27⟩ : ∃ g, y11.heap.size = g := ⟨_, rfl⟩
              have hge27 : w8.heap.size ≤ g27 := by have := hbc.size; omega
              rw [hg27] at b27 aw27
              (try rw [hg27])
              replace b26 := b26.all hs
              replace HM2 := HM2.below hs
              replace aw26 := aw26.below hs
              replace aw27 := aw27.below hs
              replace hbc := bthen hbc hs
              clear hs hg27
              refine hK.out _ _ ?_ (fun hHeld => ?_)
              · (with_reducible exact KK.out _ hbc)
              clear hK K
              try simp only [Act.put, List.setIfInBounds_toArray, List.set_cons_zero, List.set_cons_succ]
              refine goOne (i := 13) (by kernel_rfl) rfl (fun K hK => ?_)
              have h67 := b26.ne b27 (by decide)
              obtain ⟨z0, z1, z2, z3⟩ := b26.c4
              have e0 := b26.frozen 0
              have e1 := b26.frozen 1
              have e2 := b26.frozen 2
              have e3 := b26.frozen 3
              replace aw27 := MmA.put4 (x0 := .slice p2.A1 n2.coils.length p2.c1) (x1 := .slice p2.A2 n2.inputs.length p2.c2) (x2 := .slice p2.A3 n2.holding.length p2.c3) (x3 := .slice p2.A4 n2.words.length p2.c4) aw26 aw27
              have b26f := Blk.put4 (x0 := .slice p2.A1 n2.coils.length p2.c1) (x1 := .slice p2.A2 n2.inputs.length p2.c2) (x2 := .slice p2.A3 n2.holding.length p2.c3) (x3 := .slice p2.A4 n2.words.length p2.c4) b26
              replace b27 := Blk.far4 (x0 := .slice p2.A1 n2.coils.length p2.c1) (x1 := .slice p2.A2 n2.inputs.length p2.c2) (x2 := .slice p2.A3 n2.holding.length p2.c3) (x3 := .slice p2.A4 n2.words.length p2.c4) b27 h67.symm
              replace hbc := below_put4 (x0 := .slice p2.A1 n2.coils.length p2.c1) (x1 := .slice p2.A2 n2.inputs.length p2.c2) (x2 := .slice p2.A3 n2.holding.length p2.c3) (x3 := .slice p2.A4 n2.words.length p2.c4) hbc hge26
              go_simp
              generalize ((((y12.setCell ⟨g26, 0, none⟩ (.slice p2.A1 n2.coils.length p2.c1)).setCell ⟨g26, 1, none⟩ (.slice p2.A2 n2.inputs.length p2.c2)).setCell ⟨g26, 2, none⟩ (.slice p2.A3 n2.holding.length p2.c3)).setCell ⟨g26, 3, none⟩ (.slice p2.A4 n2.words.length p2.c4)) = y13 at *
              clear z0 z1 z2 z3 e0 e1 e2 e3 b26 aw26 HM2
              refine hK.out _ _ ?_ (fun hHeld => ?_)
              · (with_reducible exact KK.out _ hbc)
              clear hK K
              try simp only [Act.put, List.setIfInBounds_toArray, List.set_cons_zero, List.set_cons_succ]
              refine goOne (i := 14) (by kernel_rfl) rfl (fun K hK => ?_)
              obtain ⟨z0, z1, z2, z3, z4, z5⟩ := b27.c6
              have e0 := b27.frozen 0
              have e1 := b27.frozen 1
              have e2 := b27.frozen 2
              have e3 := b27.frozen 3
              have e4 := b27.frozen 4
              have e5 := b27.frozen 5
              have HM2 := MmA.put6 (x0 := .int .u8 (r2.fn : Int)) (x1 := .int .u8 (r2.ex : Int)) (x2 := .slice B2 r2.bits.length d2) (x3 := .slice A2 r2.words.length c2) (x4 := .int .u16 (r2.at_ : Int)) (x5 := .int .u16 (r2.many : Int)) aw27
              have b27f := Blk.put6 (x0 := .int .u8 (r2.fn : Int)) (x1 := .int .u8 (r2.ex : Int)) (x2 := .slice B2 r2.bits.length d2) (x3 := .slice A2 r2.words.length c2) (x4 := .int .u16 (r2.at_ : Int)) (x5 := .int .u16 (r2.many : Int)) b27
              replace b26f := Blk.far6 (x0 := .int .u8 (r2.fn : Int)) (x1 := .int .u8 (r2.ex : Int)) (x2 := .slice B2 r2.bits.length d2) (x3 := .slice A2 r2.words.length c2) (x4 := .int .u16 (r2.at_ : Int)) (x5 := .int .u16 (r2.many : Int)) b26f h67
              replace hbc := below_put6 (x0 := .int .u8 (r2.fn : Int)) (x1 := .int .u8 (r2.ex : Int)) (x2 := .slice B2 r2.bits.length d2) (x3 := .slice A2 r2.words.length c2) (x4 := .int .u16 (r2.at_ : Int)) (x5 := .int .u16 (r2.many : Int)) hbc hge27
              go_simp
              generalize ((((((y13.setCell ⟨g27, 0, none⟩ (.int .u8 (r2.fn : Int))).setCell ⟨g27, 1, none⟩ (.int .u8 (r2.ex : Int))).setCell ⟨g27, 2, none⟩ (.slice B2 r2.bits.length d2)).setCell ⟨g27, 3, none⟩ (.slice A2 r2.words.length c2)).setCell ⟨g27, 4, none⟩ (.int .u16 (r2.at_ : Int))).setCell ⟨g27, 5, none⟩ (.int .u16 (r2.many : Int))) = y14 at *
              clear z0 z1 z2 z3 z4 z5 e0 e1 e2 e3 e4 e5 b27 aw27
              refine hK.out _ _ ?_ (fun hHeld => ?_)
              · (with_reducible exact KK.out _ hbc)
              clear hK K
              try simp only [Act.put, List.setIfInBounds_toArray, List.set_cons_zero, List.set_cons_succ]
              refine wpAnyH_done (by kernel_rfl) ?_ _
              go_wp2_with fail
              go_meet
              exact ⟨g26, g27, p2, A2, c2, B2, d2, rfl, rfl, b26f, b27f, HM2, hbc⟩
            · have b27 := Blk.new y10 36 #[.int .u8 0, .int .u8 0, .slice none 0 0, .slice none 0 0, .int .u16 0, .int .u16 0]
              have hs := (Below.refl y10.heap.size y10).alloc (Nat.le_refl _) (.cells #[.int .u8 0, .int .u8 0, .slice none 0 0, .slice none 0 0, .int .u16 0, .int .u16 0] 36)
              go_simp
              generalize y10.alloc (.cells #[.int .u8 0, .int .u8 0, .slice none 0 0, .slice none 0 0, .int .u16 0, .int .u16 0] 36) = y15 at *
              obtain ⟨g27, hg27⟩ : ∃ g, y10.heap.size = g := ⟨_, rfl⟩
              have hge27 : w8.heap.size ≤ g27 := by have := hbc.size; omega
              rw [hg27] at b27
              (try rw [hg27])
              replace b26 := b26.all hs
              replace hbc := bthen hbc hs
              clear hs hg27
              refine hK.out _ _ ?_ (fun hHeld => ?_)
              · (with_reducible exact KK.out _ hbc)
              clear hK K
              try simp only [Act.put, List.setIfInBounds_toArray, List.set_cons_zero, List.set_cons_succ]
              refine goOne (i := 7) (by kernel_rfl) rfl (fun K hK => ?_)
              have lt26 := b26.lt
              have lt27 := b27.lt
              go_simp
              refine Calls.mono (G2.out _ gl gh gw (hSP.below hbc) (hMM.below hbc) (hX1.below hbc)) ?_
              rintro e y16 ⟨p2, A2, c2, B2, d2, hev, HN2, hs⟩
              simp only [Mm.v, Rp.v, rpV] at hev
              subst hev
              have aw26 := HN2.away lt26
              have aw27 := HN2.away lt27
              have HM2 := HN2.rd
              replace b26 := b26.all hs
              replace b27 := b27.all hs
              replace hbc := bthen hbc hs
              clear hs HN2 lt26 lt27
              go_wp2_with fail
              refine hK.out _ _ ?_ (fun hHeld => ?_)
              · (with_reducible exact KK.out _ hbc)
              clear hK K
              try simp only [Act.put, List.setIfInBounds_toArray, List.set_cons_zero, List.set_cons_succ]
              refine takeRun (i := 8) (v := ?_) rfl (by kernel_rfl) (by kernel_rfl) (by kernel_rfl) (fun _ _ _ h => h) rfl ?_ (by assumption) ?_
              rotate_left
              · (intro w hSw; (try dsimp only at hSw); go_simp; (try with_reducible rfl))
              try simp only [Act.put, List.setIfInBounds_toArray, List.set_cons_zero, List.set_cons_succ]
              refine takeRun (i := 9) (v := ?_) rfl (by kernel_rfl) (by kernel_rfl) (by kernel_rfl) (fun _ _ _ h => h) rfl ?_ (by assumption) ?_
              rotate_left
              · (intro w hSw; (try dsimp only at hSw); go_simp; (try with_reducible rfl))
              try simp only [Act.put, List.setIfInBounds_toArray, List.set_cons_zero, List.set_cons_succ]
              refine takeRun (i := 10) (v := ?_) rfl (by kernel_rfl) (by kernel_rfl) (by kernel_rfl) (fun _ _ _ h => h) rfl ?_ (by assumption) ?_
              rotate_left
              · (intro w hSw; (try dsimp only at hSw); go_simp; (try with_reducible rfl))
              try simp only [Act.put, List.setIfInBounds_toArray, List.set_cons_zero, List.set_cons_succ]
              refine goOne (i := 13) (by kernel_rfl) rfl (fun K hK => ?_)
              have h67 := b26.ne b27 (by decide)
              obtain ⟨z0, z1, z2, z3⟩ := b26.c4
              have e0 := b26.frozen 0
              have e1 := b26.frozen 1
              have e2 := b26.frozen 2
              have e3 := b26.frozen 3
              replace aw27 := MmA.put4 (x0 := .slice p2.A1 n2.coils.length p2.c1) (x1 := .slice p2.A2 n2.inputs.length p2.c2) (x2 := .slice p2.A3 n2.holding.length p2.c3) (x3 := .slice p2.A4 n2.words.length p2.c4) aw26 aw27
              have b26f := Blk.put4 (x0 := .slice p2.A1 n2.coils.length p2.c1) (x1 := .slice p2.A2 n2.inputs.length p2.c2) (x2 := .slice p2.A3 n2.holding.length p2.c3) (x3 := .slice p2.A4 n2.words.length p2.c4) b26
              replace b27 := Blk.far4 (x0 := .slice p2.A1 n2.coils.length p2.c1) (x1 := .slice p2.A2 n2.inputs.length p2.c2) (x2 := .slice p2.A3 n2.holding.length p2.c3) (x3 := .slice p2.A4 n2.words.length p2.c4) b27 h67.symm
              replace hbc := below_put4 (x0 := .slice p2.A1 n2.coils.length p2.c1) (x1 := .slice p2.A2 n2.inputs.length p2.c2) (x2 := .slice p2.A3 n2.holding.length p2.c3) (x3 := .slice p2.A4 n2.words.length p2.c4) hbc hge26
              go_simp
              generalize ((((y16.setCell ⟨g26, 0, none⟩ (.slice p2.A1 n2.coils.length p2.c1)).setCell ⟨g26, 1, none⟩ (.slice p2.A2 n2.inputs.length p2.c2)).setCell ⟨g26, 2, none⟩ (.slice p2.A3 n2.holding.length p2.c3)).setCell ⟨g26, 3, none⟩ (.slice p2.A4 n2.words.length p2.c4)) = y17 at *
              clear z0 z1 z2 z3 e0 e1 e2 e3 b26 aw26 HM2
              refine hK.out _ _ ?_ (fun hHeld => ?_)
              · (with_reducible exact KK.out _ hbc)
              clear hK K
              try simp only [Act.put, List.setIfInBounds_toArray, List.set_cons_zero, List.set_cons_succ]
              refine goOne (i := 14) (by kernel_rfl) rfl (fun K hK => ?_)
              obtain ⟨z0, z1, z2, z3, z4, z5⟩ := b27.c6
              have e0 := b27.frozen 0
              have e1 := b27.frozen 1
              have e2 := b27.frozen 2
              have e3 := b27.frozen 3
              have e4 := b27.frozen 4
              have e5 := b27.frozen 5
              have HM2 := MmA.put6 (x0 := .int .u8 (r2.fn : Int)) (x1 := .int .u8 (r2.ex : Int)) (x2 := .slice B2 r2.bits.length d2) (x3 := .slice A2 r2.words.length c2) (x4 := .int .u16 (r2.at_ : Int)) (x5 := .int .u16 (r2.many : Int)) aw27
              have b27f := Blk.put6 (x0 := .int .u8 (r2.fn : Int)) (x1 := .int .u8 (r2.ex : Int)) (x2 := .slice B2 r2.bits.length d2) (x3 := .slice A2 r2.words.length c2) (x4 := .int .u16 (r2.at_ : Int)) (x5 := .int .u16 (r2.many : Int)) b27
              replace b26f := Blk.far6 (x0 := .int .u8 (r2.fn : Int)) (x1 := .int .u8 (r2.ex : Int)) (x2 := .slice B2 r2.bits.length d2) (x3 := .slice A2 r2.words.length c2) (x4 := .int .u16 (r2.at_ : Int)) (x5 := .int .u16 (r2.many : Int)) b26f h67
              replace hbc := below_put6 (x0 := .int .u8 (r2.fn : Int)) (x1 := .int .u8 (r2.ex : Int)) (x2 := .slice B2 r2.bits.length d2) (x3 := .slice A2 r2.words.length c2) (x4 := .int .u16 (r2.at_ : Int)) (x5 := .int .u16 (r2.many : Int)) hbc hge27
              go_simp
              generalize ((((((y17.setCell ⟨g27, 0, none⟩ (.int .u8 (r2.fn : Int))).setCell ⟨g27, 1, none⟩ (.int .u8 (r2.ex : Int))).setCell ⟨g27, 2, none⟩ (.slice B2 r2.bits.length d2)).setCell ⟨g27, 3, none⟩ (.slice A2 r2.words.length c2)).setCell ⟨g27, 4, none⟩ (.int .u16 (r2.at_ : Int))).setCell ⟨g27, 5, none⟩ (.int .u16 (r2.many : Int))) = y18 at *
              clear z0 z1 z2 z3 z4 z5 e0 e1 e2 e3 e4 e5 b27 aw27
              refine hK.out _ _ ?_ (fun hHeld => ?_)
              · (with_reducible exact KK.out _ hbc)
              clear hK K
              try simp only [Act.put, List.setIfInBounds_toArray, List.set_cons_zero, List.set_cons_succ]
              refine wpAnyH_done (by kernel_rfl) ?_ _
              go_wp2_with fail
              go_meet
              exact ⟨g26, g27, p2, A2, c2, B2, d2, rfl, rfl, b26f, b27f, HM2, hbc⟩
          · have b27 := Blk.new wD 36 #[.int .u8 0, .int .u8 0, .slice none 0 0, .slice none 0 0, .int .u16 0, .int .u16 0]
            have hs := (Below.refl wD.heap.size wD).alloc (Nat.le_refl _) (.cells #[.int .u8 0, .int .u8 0, .slice none 0 0, .slice none 0 0, .int .u16 0, .int .u16 0] 36)
            go_simp
            generalize wD.alloc (.cells #[.int .u8 0, .int .u8 0, .slice none 0 0, .slice none 0 0, .int .u16 0, .int .u16 0] 36) = y19 at *
            obtain ⟨g27, hg27⟩ : ∃ g, wD.heap.size = g := ⟨_, rfl⟩
            have hge27 : w8.heap.size ≤ g27 := by have := hbc.size; omega
            rw [hg27] at b27
            (try rw [hg27])
            replace hbc := bthen hbc hs
            clear hs hg27
            refine hK.out _ _ ?_ (fun hHeld => ?_)
            · (with_reducible exact KK.out _ hbc)
            clear hK K
            try simp only [Act.put, List.setIfInBounds_toArray, List.set_cons_zero, List.set_cons_succ]
            refine goTwoW (i := 7) (j := 11) (by kernel_rfl) rfl rfl (fun K hK => ?_) (fun K hK => ?_) 
            · have lt27 := b27.lt
              go_simp
              refine Calls.mono (G2.out _ gl gh gw (hSP.below hbc) (hMM.below hbc) (hX1.below hbc)) ?_
              rintro e y20 ⟨p2, A2, c2, B2, d2, hev, HN2, hs⟩
              simp only [Mm.v, Rp.v, rpV] at hev
              subst hev
              have aw27 := HN2.away lt27
              have HM2 := HN2.rd
              replace b27 := b27.all hs
              replace hbc := bthen hbc hs
              clear hs HN2 lt27
              go_wp2_with fail
              refine hK.out _ _ ?_ (fun hHeld => ?_)
              · (with_reducible exact KK.out _ hbc)
              clear hK K
              try simp only [Act.put, List.setIfInBounds_toArray, List.set_cons_zero, List.set_cons_succ]
              refine takeRun (i := 8) (v := ?_) rfl (by kernel_rfl) (by kernel_rfl) (by kernel_rfl) (fun _ _ _ h => h) rfl ?_ (by assumption) ?_
              rotate_left
              · (intro w hSw; (try dsimp only at hSw); go_simp; (try with_reducible rfl))
              try simp only [Act.put, List.setIfInBounds_toArray, List.set_cons_zero, List.set_cons_succ]
              refine takeRun (i := 9) (v := ?_) rfl (by kernel_rfl) (by kernel_rfl) (by kernel_rfl) (fun _ _ _ h => h) rfl ?_ (by assumption) ?_
              rotate_left
              · (intro w hSw; (try dsimp only at hSw); go_simp; (try with_reducible rfl))
              try simp only [Act.put, List.setIfInBounds_toArray, List.set_cons_zero, List.set_cons_succ]
              refine takeRun (i := 10) (v := ?_) rfl (by kernel_rfl) (by kernel_rfl) (by kernel_rfl) (fun _ _ _ h => h) rfl ?_ (by assumption) ?_
              rotate_left
              · (intro w hSw; (try dsimp only at hSw); go_simp; (try with_reducible rfl))
              try simp only [Act.put, List.setIfInBounds_toArray, List.set_cons_zero, List.set_cons_succ]
              refine goOne (i := 11) (by kernel_rfl) rfl (fun K hK => ?_)
              have b26 := Blk.new y20 28 #[.slice none 0 0, .slice none 0 0, .slice none 0 0, .slice none 0 0]
              have hs := (Below.refl y20.heap.size y20).alloc (Nat.le_refl _) (.cells #[.slice none 0 0, .slice none 0 0, .slice none 0 0, .slice none 0 0] 28)
              have aw26 := HM2.away (Nat.le_refl y20.heap.size)
              go_simp
              generalize y20.alloc (.cells #[.slice none 0 0, .slice none 0 0, .slice none 0 0, .slice none 0 0] 28) = y21 at *
              obtain ⟨g26, hg26⟩ : ∃ g, y20.heap.size = g := ⟨_, rfl⟩
              have hge26 : w8.heap.size ≤ g26 := by have := hbc.size; omega
              rw [hg26] at b26 aw26
              (try rw [hg26])
              replace b27 := b27.all hs
              replace HM2 := HM2.below hs
              replace aw27 := aw27.below hs
              replace aw26 := aw26.below hs
              replace hbc := bthen hbc hs
              clear hs hg26
              refine hK.out _ _ ?_ (fun hHeld => ?_)
              · (with_reducible exact KK.out _ hbc)
              clear hK K
              try simp only [Act.put, List.setIfInBounds_toArray, List.set_cons_zero, List.set_cons_succ]
              refine goOne (i := 13) (by kernel_rfl) rfl (fun K hK => ?_)
              have h67 := b26.ne b27 (by decide)
              obtain ⟨z0, z1, z2, z3⟩ := b26.c4
              have e0 := b26.frozen 0
              have e1 := b26.frozen 1
              have e2 := b26.frozen 2
              have e3 := b26.frozen 3
              replace aw27 := MmA.put4 (x0 := .slice p2.A1 n2.coils.length p2.c1) (x1 := .slice p2.A2 n2.inputs.length p2.c2) (x2 := .slice p2.A3 n2.holding.length p2.c3) (x3 := .slice p2.A4 n2.words.length p2.c4) aw26 aw27
              have b26f := Blk.put4 (x0 := .slice p2.A1 n2.coils.length p2.c1) (x1 := .slice p2.A2 n2.inputs.length p2.c2) (x2 := .slice p2.A3 n2.holding.length p2.c3) (x3 := .slice p2.A4 n2.words.length p2.c4) b26
              replace b27 := Blk.far4 (x0 := .slice p2.A1 n2.coils.length p2.c1) (x1 := .slice p2.A2 n2.inputs.length p2.c2) (x2 := .slice p2.A3 n2.holding.length p2.c3) (x3 := .slice p2.A4 n2.words.length p2.c4) b27 h67.symm
              replace hbc := below_put4 (x0 := .slice p2.A1 n2.coils.length p2.c1) (x1 := .slice p2.A2 n2.inputs.length p2.c2) (x2 := .slice p2.A3 n2.holding.length p2.c3) (x3 := .slice p2.A4 n2.words.length p2.c4) hbc hge26
              go_simp
              generalize ((((y21.setCell ⟨g26, 0, none⟩ (.slice p2.A1 n2.coils.length p2.c1)).setCell ⟨g26, 1, none⟩ (.slice p2.A2 n2.inputs.length p2.c2)).setCell ⟨g26, 2, none⟩ (.slice p2.A3 n2.holding.length p2.c3)).setCell ⟨g26, 3, none⟩ (.slice p2.A4 n2.words.length p2.c4)) = y22 at *
              clear z0 z1 z2 z3 e0 e1 e2 e3 b26 aw26 HM2
              refine hK.out _ _ ?_ (fun hHeld => ?_)
              · (with_reducible exact KK.out _ hbc)
              clear hK K
              try simp only [Act.put, List.setIfInBounds_toArray, List.set_cons_zero, List.set_cons_succ]
              refine goOne (i := 14) (by kernel_rfl) rfl (fun K hK => ?_)
              obtain ⟨z0, z1, z2, z3, z4, z5⟩ := b27.c6
              have e0 := b27.frozen 0
              have e1 := b27.frozen 1
              have e2 := b27.frozen 2
              have e3 := b27.frozen 3
              have e4 := b27.frozen 4
              have e5 := b27.frozen 5
              have HM2 := MmA.put6 (x0 := .int .u8 (r2.fn : Int)) (x1 := .int .u8 (r2.ex : Int)) (x2 := .slice B2 r2.bits.length d2) (x3 := .slice A2 r2.words.length c2) (x4 := .int .u16 (r2.at_ : Int)) (x5 := .int .u16 (r2.many : Int)) aw27
              have b27f := Blk.put6 (x0 := .int .u8 (r2.fn : Int)) (x1 := .int .u8 (r2.ex : Int)) (x2 := .slice B2 r2.bits.length d2) (x3 := .slice A2 r2.words.length c2) (x4 := .int .u16 (r2.at_ : Int)) (x5 := .int .u16 (r2.many : Int)) b27
              replace b26f := Blk.far6 (x0 := .int .u8 (r2.fn : Int)) (x1 := .int .u8 (r2.ex : Int)) (x2 := .slice B2 r2.bits.length d2) (x3 := .slice A2 r2.words.length c2) (x4 := .int .u16 (r2.at_ : Int)) (x5 := .int .u16 (r2.many : Int)) b26f h67
              replace hbc := below_put6 (x0 := .int .u8 (r2.fn : Int)) (x1 := .int .u8 (r2.ex : Int)) (x2 := .slice B2 r2.bits.length d2) (x3 := .slice A2 r2.words.length c2) (x4 := .int .u16 (r2.at_ : Int)) (x5 := .int .u16 (r2.many : Int)) hbc hge27
              go_simp
              generalize ((((((y22.setCell ⟨g27, 0, none⟩ (.int .u8 (r2.fn : Int))).setCell ⟨g27, 1, none⟩ (.int .u8 (r2.ex : Int))).setCell ⟨g27, 2, none⟩ (.slice B2 r2.bits.length d2)).setCell ⟨g27, 3, none⟩ (.slice A2 r2.words.length c2)).setCell ⟨g27, 4, none⟩ (.int .u16 (r2.at_ : Int))).setCell ⟨g27, 5, none⟩ (.int .u16 (r2.many : Int))) = y23 at *
              clear z0 z1 z2 z3 z4 z5 e0 e1 e2 e3 e4 e5 b27 aw27
              refine hK.out _ _ ?_ (fun hHeld => ?_)
              · (with_reducible exact KK.out _ hbc)
              clear hK K
              try simp only [Act.put, List.setIfInBounds_toArray, List.set_cons_zero, List.set_cons_succ]
              refine wpAnyH_done (by kernel_rfl) ?_ _
              go_wp2_with fail
              go_meet
              exact ⟨g26, g27, p2, A2, c2, B2, d2, rfl, rfl, b26f, b27f, HM2, hbc⟩
            · have b26 := Blk.new y19 28 #[.slice none 0 0, .slice none 0 0, .slice none 0 0, .slice none 0 0]
              have hs := (Below.refl y19.heap.size y19).alloc (Nat.le_refl _) (.cells #[.slice none 0 0, .slice none 0 0, .slice none 0 0, .slice none 0 0] 28)
              go_simp
              generalize y19.alloc (.cells #[.slice none 0 0, .slice none 0 0, .slice none 0 0, .slice none 0 0] 28) = y24 at *
              obtain ⟨g26, hg26⟩ : ∃ g, y19.heap.size = g := ⟨_, rfl⟩
              have hge26 : w8.heap.size ≤ g26 := by have := hbc.size; omega
              rw [hg26] at b26
              (try rw [hg26])
              replace b27 := b27.all hs
              replace hbc := bthen hbc hs
              clear hs hg26
              refine hK.out _ _ ?_ (fun hHeld => ?_)
              · (with_reducible exact KK.out _ hbc)
              clear hK K
              try simp only [Act.put, List.setIfInBounds_toArray, List.set_cons_zero, List.set_cons_succ]
              refine goOne (i := 7) (by kernel_rfl) rfl (fun K hK => ?_)
              have lt27 := b27.lt
              have lt26 := b26.lt
              go_simp
              refine Calls.mono (G2.out _ gl gh gw (hSP.below hbc) (hMM.below hbc) (hX1.below hbc)) ?_
              rintro e y25 ⟨p2, A2, c2, B2, d2, hev, HN2, hs⟩
              simp only [Mm.v, Rp.v, rpV] at hev
              subst hev
              have aw27 := HN2.away lt27
              have aw26 := HN2.away lt26
              have HM2 := HN2.rd
              replace b27 := b27.all hs
              replace b26 := b26.all hs
              replace hbc := bthen hbc hs
              clear hs HN2 lt27 lt26
              go_wp2_with fail
              refine hK.out _ _ ?_ (fun hHeld => ?_)
              · (with_reducible exact KK.out _ hbc)
              clear hK K
              try simp only [Act.put, List.setIfInBounds_toArray, List.set_cons_zero, List.set_cons_succ]
              refine takeRun (i := 8) (v := ?_) rfl (by kernel_rfl) (by kernel_rfl) (by kernel_rfl) (fun _ _ _ h => h) rfl ?_ (by assumption) ?_
              rotate_left
              · (intro w hSw; (try dsimp only at hSw); go_simp; (try with_reducible rfl))
              try simp only [Act.put, List.setIfInBounds_toArray, List.set_cons_zero, List.set_cons_succ]
              refine takeRun (i := 9) (v := ?_) rfl (by kernel_rfl) (by kernel_rfl) (by kernel_rfl) (fun _ _ _ h => h) rfl ?_ (by assumption) ?_
              rotate_left
              · (intro w hSw; (try dsimp only at hSw); go_simp; (try with_reducible rfl))
              try simp only [Act.put, List.setIfInBounds_toArray, List.set_cons_zero, List.set_cons_succ]
              refine takeRun (i := 10) (v := ?_) rfl (by kernel_rfl) (by kernel_rfl) (by kernel_rfl) (fun _ _ _ h => h) rfl ?_ (by assumption) ?_
              rotate_left
              · (intro w hSw; (try dsimp only at hSw); go_simp; (try with_reducible rfl))
              try simp only [Act.put, List.setIfInBounds_toArray, List.set_cons_zero, List.set_cons_succ]
              refine goOne (i := 13) (by kernel_rfl) rfl (fun K hK => ?_)
              have h67 := b26.ne b27 (by decide)
              obtain ⟨z0, z1, z2, z3⟩ := b26.c4
              have e0 := b26.frozen 0
              have e1 := b26.frozen 1
              have e2 := b26.frozen 2
              have e3 := b26.frozen 3
              replace aw27 := MmA.put4 (x0 := .slice p2.A1 n2.coils.length p2.c1) (x1 := .slice p2.A2 n2.inputs.length p2.c2) (x2 := .slice p2.A3 n2.holding.length p2.c3) (x3 := .slice p2.A4 n2.words.length p2.c4) aw26 aw27
              have b26f := Blk.put4 (x0 := .slice p2.A1 n2.coils.length p2.c1) (x1 := .slice p2.A2 n2.inputs.length p2.c2) (x2 := .slice p2.A3 n2.holding.length p2.c3) (x3 := .slice p2.A4 n2.words.length p2.c4) b26
              replace b27 := Blk.far4 (x0 := .slice p2.A1 n2.coils.length p2.c1) (x1 := .slice p2.A2 n2.inputs.length p2.c2) (x2 := .slice p2.A3 n2.holding.length p2.c3) (x3 := .slice p2.A4 n2.words.length p2.c4) b27 h67.symm
              replace hbc := below_put4 (x0 := .slice p2.A1 n2.coils.length p2.c1) (x1 := .slice p2.A2 n2.inputs.length p2.c2) (x2 := .slice p2.A3 n2.holding.length p2.c3) (x3 := .slice p2.A4 n2.words.length p2.c4) hbc hge26
              go_simp
              generalize ((((y25.setCell ⟨g26, 0, none⟩ (.slice p2.A1 n2.coils.length p2.c1)).setCell ⟨g26, 1, none⟩ (.slice p2.A2 n2.inputs.length p2.c2)).setCell ⟨g26, 2, none⟩ (.slice p2.A3 n2.holding.length p2.c3)).setCell ⟨g26, 3, none⟩ (.slice p2.A4 n2.words.length p2.c4)) = y26 at *
              clear z0 z1 z2 z3 e0 e1 e2 e3 b26 aw26 HM2
              refine hK.out _ _ ?_ (fun hHeld => ?_)
              · (with_reducible exact KK.out _ hbc)
              clear hK K
              try simp only [Act.put, List.setIfInBounds_toArray, List.set_cons_zero, List.set_cons_succ]
              refine goOne (i := 14) (by kernel_rfl) rfl (fun K hK => ?_)
              obtain ⟨z0, z1, z2, z3, z4, z5⟩ := b27.c6
              have e0 := b27.frozen 0
              have e1 := b27.frozen 1
              have e2 := b27.frozen 2
              have e3 := b27.frozen 3
              have e4 := b27.frozen 4
              have e5 := b27.frozen 5
              have HM2 := MmA.put6 (x0 := .int .u8 (r2.fn : Int)) (x1 := .int .u8 (r2.ex : Int)) (x2 := .slice B2 r2.bits.length d2) (x3 := .slice A2 r2.words.length c2) (x4 := .int .u16 (r2.at_ : Int)) (x5 := .int .u16 (r2.many : Int)) aw27
              have b27f := Blk.put6 (x0 := .int .u8 (r2.fn : Int)) (x1 := .int .u8 (r2.ex : Int)) (x2 := .slice B2 r2.bits.length d2) (x3 := .slice A2 r2.words.length c2) (x4 := .int .u16 (r2.at_ : Int)) (x5 := .int .u16 (r2.many : Int)) b27
              replace b26f := Blk.far6 (x0 := .int .u8 (r2.fn : Int)) (x1 := .int .u8 (r2.ex : Int)) (x2 := .slice B2 r2.bits.length d2) (x3 := .slice A2 r2.words.length c2) (x4 := .int .u16 (r2.at_ : Int)) (x5 := .int .u16 (r2.many : Int)) b26f h67
              replace hbc := below_put6 (x0 := .int .u8 (r2.fn : Int)) (x1 := .int .u8 (r2.ex : Int)) (x2 := .slice B2 r2.bits.length d2) (x3 := .slice A2 r2.words.length c2) (x4 := .int .u16 (r2.at_ : Int)) (x5 := .int .u16 (r2.many : Int)) hbc hge27
              go_simp
              generalize ((((((y26.setCell ⟨g27, 0, none⟩ (.int .u8 (r2.fn : Int))).setCell ⟨g27, 1, none⟩ (.int .u8 (r2.ex : Int))).setCell ⟨g27, 2, none⟩ (.slice B2 r2.bits.length d2)).setCell ⟨g27, 3, none⟩ (.slice A2 r2.words.length c2)).setCell ⟨g27, 4, none⟩ (.int .u16 (r2.at_ : Int))).setCell ⟨g27, 5, none⟩ (.int .u16 (r2.many : Int))) = y27 at *
              clear z0 z1 z2 z3 z4 z5 e0 e1 e2 e3 e4 e5 b27 aw27
              refine hK.out _ _ ?_ (fun hHeld => ?_)
              · (with_reducible exact KK.out _ hbc)
              clear hK K
              try simp only [Act.put, List.setIfInBounds_toArray, List.set_cons_zero, List.set_cons_succ]
              refine wpAnyH_done (by kernel_rfl) ?_ _
              go_wp2_with fail
              go_meet
              exact ⟨g26, g27, p2, A2, c2, B2, d2, rfl, rfl, b26f, b27f, HM2, hbc⟩
        case rest =>
          obtain ⟨g26, g27, p2, A2, c2, B2, d2, rfl, rfl, bn2, br2, HM2, hs⟩ := hcut
          clear hsl hX1 hwk
          clear hSP hXW bsp
          replace hMM := hMM.below hs
          replace ba := ba.all hs
          replace bm := bm.all hs
          replace bn1 := bn1.all hs
          replace br1 := br1.all hs
          replace HM1 := HM1.below hs
          replace hb := bthen hb hs
          clear hs
          go_upto_region 15 with fail
          generalize hwz : wc = w20 at *
          clear hwz
          obtain ⟨za0, za1, za2, za3, za4⟩ := ba.c5
          go_cut [28] (fun v wc => v = .bool ok2 ∧ w20 = wc)
          case first =>
            by_cases q1_ : A ≤ k
            rotate_left
            · have v1 : decide ((A : Int) ≤ (k : Int)) = false := decide_eq_false (by omega)
              have hv : Hid (ok2 = false) := by (show _ = _); rw [← HO2.out]; unfold whOne; simp [q1_]
              go_wp2_with fail
              go_meet
              exact ⟨by rw [hv.out], rfl⟩
            have v1 : decide ((A : Int) ≤ (k : Int)) = true := decide_eq_true (by omega)
            by_cases q2_ : k < A + M
            rotate_left
            · have v2 : decide ((k : Int) < (A : Int) + (M : Int)) = false := decide_eq_false (by omega)
              have hv : Hid (ok2 = false) := by (show _ = _); rw [← HO2.out]; unfold whOne; simp [q2_]
              go_wp2_with fail
              go_meet
              exact ⟨by rw [hv.out], rfl⟩
            have v2 : decide ((k : Int) < (A : Int) + (M : Int)) = true := decide_eq_true (by omega)
            have hv : Hid (ok2 = true) := by (show _ = _); rw [← HO2.out]; unfold whOne; simp [q1_, q2_]
            go_wp2_with fail
            go_meet
            exact ⟨by rw [hv.out], rfl⟩
          case rest =>
            obtain ⟨rfl, rfl⟩ := hcut
            clear za0 za1 za2 za3 za4
            clear ba
            have x1 : ((r1.ex : Int) == 0) = ok1 := by rw [← D1.out.1, Bool.eq_iff_iff]; simp
            have x2 : ((r2.ex : Int) == 0) = ok2 := by rw [← D2.out.1, Bool.eq_iff_iff]; simp
            clear HO1 HO2 D1 D2
            have x3 : (ok1 == ok1) = true := by simp
            have x4 : (ok2 == ok2) = true := by simp
            have x5 : ((!ok1) == (!ok1)) = true := by simp
            have x6 : ((!ok2) == (!ok2)) = true := by simp
            obtain ⟨z10, z11, z12, z13⟩ := bn1.c4
            obtain ⟨z20, z21, z22, z23, z24, z25⟩ := br1.c6
            obtain ⟨z30, z31, z32, z33⟩ := bn2.c4
            obtain ⟨z40, z41, z42, z43, z44, z45⟩ := br2.c6
            obtain ⟨zm0, zm1, zm2, zm3⟩ := bm.c4
            go_wp2_with fail
            refine (ES1.out _ p1 gh HM1 hMM).mono ?_
            rintro e w21 ⟨rfl, hs⟩
            clear z10 z11 z12 z13
            clear z20 z21 z22 z23 z24 z25
            clear z30 z31 z32 z33
            clear z40 z41 z42 z43 z44 z45
            clear zm0 zm1 zm2 zm3
            replace hMM := hMM.below hs
            replace bm := bm.all hs
            replace bn1 := bn1.all hs
            replace br1 := br1.all hs
            replace HM1 := HM1.below hs
            replace bn2 := bn2.all hs
            replace br2 := br2.all hs
            replace HM2 := HM2.below hs
            replace hb := bthen hb hs
            clear hs
            obtain ⟨z10, z11, z12, z13⟩ := bn1.c4
            obtain ⟨z20, z21, z22, z23, z24, z25⟩ := br1.c6
            obtain ⟨z30, z31, z32, z33⟩ := bn2.c4
            obtain ⟨z40, z41, z42, z43, z44, z45⟩ := br2.c6
            obtain ⟨zm0, zm1, zm2, zm3⟩ := bm.c4
            go_wp2_with fail
            refine (ES2.out _ p2 gh HM2 hMM).mono ?_
            rintro e w22 ⟨rfl, hs⟩
            clear z10 z11 z12 z13
            clear z20 z21 z22 z23 z24 z25
            clear z30 z31 z32 z33
            clear z40 z41 z42 z43 z44 z45
            clear zm0 zm1 zm2 zm3
            replace hMM := hMM.below hs
            replace bm := bm.all hs
            replace bn1 := bn1.all hs
            replace br1 := br1.all hs
            replace HM1 := HM1.below hs
            replace bn2 := bn2.all hs
            replace br2 := br2.all hs
            replace HM2 := HM2.below hs
            replace hb := bthen hb hs
            clear hs
            obtain ⟨z10, z11, z12, z13⟩ := bn1.c4
            obtain ⟨z20, z21, z22, z23, z24, z25⟩ := br1.c6
            obtain ⟨z30, z31, z32, z33⟩ := bn2.c4
            obtain ⟨z40, z41, z42, z43, z44, z45⟩ := br2.c6
            obtain ⟨zm0, zm1, zm2, zm3⟩ := bm.c4
            go_wp2_with fail
            refine (law07_awake _).mono ?_
            rintro e wz ⟨rfl, hs⟩
            go_wp2_with fail
            go_ret
            exact ⟨rfl, bthen hb hs⟩
end Go.Proofs.Ytechhidfgheejaa
