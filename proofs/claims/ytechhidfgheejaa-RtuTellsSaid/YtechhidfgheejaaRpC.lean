/- Replies are written: reply.numbers, reply.list, and the six kinds (written by gen_rpc.py). -/
import Derived.Test.YtechhidfgheejaaRpB
import Derived.Deep.DeepCutAuto
namespace Go.Proofs.Ytechhidfgheejaa
open Go.RowKit
set_option linter.unusedSimpArgs false
set_option linter.unusedVariables false
set_option maxHeartbeats 1000000 in
theorem rep_numbers (w0 w : World) (hb : Below w0.heap.size w0 w) (A : Option Addr) (n c : Nat) (xs : List Nat) (hown : Ow w w0.heap.size 5 A c (bs xs)) (hn : xs.length = n)
    (A2 : Option Addr) (m c2 : Nat) (l : List Nat) (hr : SrcW w0 w A2 c2 l) (hm : l.length = m) (hl : Ws l) (hbig : n ≤ 1000000) (hbig2 : m ≤ 1000000) :
    Calls Try.prog 138 #[.slice A n c, .slice A2 m c2] w fun e w' => ∃ A' c', e = .returned (.slice A' (n + 2 * m) c') ∧ Ow w' w0.heap.size 5 A' c' (bs (xs ++ nums l)) ∧ Below w0.heap.size w0 w' := by
  have HN := Lib.hid hn
  have HM := Lib.hid hm
  clear hn hm
  go_enter Try.func138, Try.ntmps138
  go_wp2_with fail
  go_loopw [0, 9] (fun v i wr => ∃ j : Nat, j ≤ m ∧ i = .int .i64 j ∧ Below w0.heap.size w0 wr ∧ SrcW w0 wr A2 c2 l ∧ ∃ A4 c4, v = .slice A4 (n + 2 * j) c4 ∧ Ow wr w0.heap.size 5 A4 c4 (bs (xs ++ nums (l.take j)))) (fun _ i _ => m - (intOf i).toNat)
  case atStart => exact ⟨0, by omega, rfl, hb, hr, A, c, rfl, by simpa [nums] using hown⟩
  case round =>
    obtain ⟨j, hj, rfl, hbr, hsr, A4, c4, rfl, ho4⟩ := hrel
    by_cases hlt : j < m
    · obtain ⟨b, off, x, rfl, hx, hcell⟩ := (hsr.rd hbr).word (k := j) (by rw [HM.out]; exact hlt)
      have hxb := hl.get hx
      have HT := Lib.hid (take_snoc hx)
      have HL : Hid ((xs ++ nums (l.take j)).length = n + 2 * j) := by (show _ = _); rw [List.length_append, nums_length, HN.out, List.length_take, HM.out]; omega
      have HX : Hid (bs [x / 256, x % 256] = [.int .u8 ((x : Int) / 256), .int .u8 ((x : Int) % 256)]) := by (show _ = _); simp [bs]
      clear hx
      go_wp2_with (at_builtin; refine app_b rfl _ _ rfl w0 (hbr.alloc hbr.size _) _ _ _ _ rfl (ho4.alloc _) HL.out _ 2 2 [x / 256, x % 256] rfl (Rd.lit _ _ _ HX.out) rfl (by omega) ?_)
      intro A7 c7 w7 ho7 hb7 hg7
      have hs7 := (hsr.alloc _).app (ho4.alloc _) hg7
      go_wp2_with fail
      go_roundw
      case rel => exact ⟨j + 1, by omega, by go_num, hb7, hs7, A7, c7, rfl, by rw [HT.out, nums_snoc]; exact ho7⟩
      case measure => simp [intOf]; omega
    · obtain rfl : j = m := by omega
      go_wp2_with fail
      go_ret
      refine ⟨A4, c4, rfl, ?_, hbr⟩
      rw [List.take_of_length_le (by rw [HM.out]; exact Nat.le_refl _)] at ho4
      exact ho4

set_option maxHeartbeats 2000000 in
theorem rep_list (A : Option Addr) (n c : Nat) (l : List Nat) (w : World) (hA : Rd w A (bs l)) (hn : l.length = n) (hl : Bs l) (hm : n ≤ 1000000) :
    Calls Try.prog 137 #[.slice A n c] w fun e w' => ∃ A' c', e = .returned (.slice A' (n / 2) c') ∧ Ow w' w.heap.size 34 A' c' (ws (pairs l)) ∧ Below w.heap.size w w' := by
  have HN := Lib.hid hn
  obtain ⟨h, hh⟩ : ∃ h, n / 2 = h := ⟨_, rfl⟩
  have HH : Hid ((pairs l).length = h) := by (show _ = _); rw [pairs_length, hn, hh]
  have h2n : 2 * h ≤ n := by omega
  have hhI : (n : Int) / 2 = (h : Int) := by omega
  rw [hh]
  clear hn hh
  go_enter Try.func137, Try.ntmps137
  go_wp2_with (at_make; refine mkn_w rfl _ _ rfl w (Below.refl _ _) _ _ _ _ h rfl rfl rfl rfl (by omega) ?_)
  intro w1 ho1 hb1 hg1 hs1
  clear hhI
  obtain ⟨g, hg⟩ : ∃ g, w.heap.size = g := ⟨_, rfl⟩
  have hgw : w.heap.size ≤ g := by omega
  rw [hg] at ho1 ⊢
  have HG := Lib.hid hg
  clear hg
  go_wp2_with fail
  go_loopw [11] (fun i wr => ∃ j : Nat, j ≤ h ∧ i = .int .i64 j ∧ Below w.heap.size w wr ∧ Ow wr g 34 (some ⟨g, 0, none⟩) h (ws (pairsTo l j h))) (fun i _ => h - (intOf i).toNat)
  case atStart => exact ⟨0, by omega, rfl, hb1, by rw [pairsTo_zero]; exact ho1⟩
  case round =>
    obtain ⟨j, hj, rfl, hbr, hor⟩ := hrel
    by_cases hlt : j < h
    · obtain ⟨b, off, x0, rfl, hx0, c0⟩ := hA.byte (k := 2 * j) (by rw [HN.out]; omega)
      have c1 := hA.byteAt (2 * j + 1) (by rw [HN.out]; omega)
      have e0 : l.getD (2 * j) 0 = x0 := by rw [List.getD_eq_getElem?_getD, hx0]; rfl
      obtain ⟨x1, e1⟩ : ∃ x1, l.getD (2 * j + 1) 0 = x1 := ⟨_, rfl⟩
      have b0 := hl.get hx0
      have b1 := getD_lt hl (2 * j + 1)
      rw [e1] at c1 b1
      have hst := pairsTo_succ l j h HH.out hlt
      rw [e0, e1] at hst
      have HST := Lib.hid hst
      have hblk : b < w.heap.size := World.block_lt_of_cell? w _ c0
      have k0 := (hbr.cell (p := ⟨b, off + 2 * j, none⟩) hblk).trans c0
      have k1 := (hbr.cell (p := ⟨b, off + (2 * j + 1), none⟩) hblk).trans c1
      obtain ⟨⟨u, hu, hcell⟩, hfz, -, -⟩ := hor.at_ (j := j) (by rw [ws_length, pairsTo_length l j h HH.out hj]; exact hlt)
      have ho2 := hor.stored j (.int .u16 ((x0 * 256 + x1 : Nat) : Int))
      rw [ws_set, HST.out] at ho2
      have g1 : IntKind.u16.wrap (x0 : Int) = (x0 : Int) := by rw [IntKind.wrap_u16]; omega
      have g2 : IntKind.u16.wrap (x1 : Int) = (x1 : Int) := by rw [IntKind.wrap_u16]; omega
      have g3 : IntKind.u16.wrap ((x0 : Int) * 256) = (x0 : Int) * 256 := by rw [IntKind.wrap_u16]; omega
      have or1 := u16_or8l x0 x1 b0 b1
      obtain ⟨t, ht⟩ : ∃ t, x0 * 256 + x1 = t := ⟨_, rfl⟩
      rw [ht] at or1 ho2
      have f1 : (0 : Int) ≤ 2 * (j : Int) := by omega
      have f2 : 2 * (j : Int) < (n : Int) := by omega
      have f3 : (0 : Int) ≤ 2 * (j : Int) + 1 := by omega
      have f4 : 2 * (j : Int) + 1 < (n : Int) := by omega
      have f5 : (2 * (j : Int)).toNat = 2 * j := by omega
      have f6 : (2 * (j : Int) + 1).toNat = 2 * j + 1 := by omega
      have f7 : IntKind.i64.wrap (2 * (j : Int)) = 2 * (j : Int) := IntWalk.i64_in _ (by omega)
      have f8 : IntKind.i64.wrap (2 * (j : Int) + 1) = 2 * (j : Int) + 1 := IntWalk.i64_in _ (by omega)
      have f9 : (0 : Int) ≤ (j : Int) := by omega
      have f10 : (j : Int) < (h : Int) := by omega
      have hbg : b ≠ g := by omega
      have hgb : g ≠ b := by omega
      clear ht hx0 e0 e1 hst hu c0 c1
      go_wp2_with fail
      go_region_held3 (fun w' => w'.cell? ⟨b, off + 2 * j, none⟩ = some (.int .u8 (x0 : Int)) ∧ w'.cell? ⟨b, off + (2 * j + 1), none⟩ = some (.int .u8 (x1 : Int))) (go_keep) (fail)
      clear f1 f2 f3 f4 f5 f6 f7 f8 g1 g2 g3 or1
      go_wp2_with fail
      go_roundw
      case rel => exact ⟨j + 1, by omega, by go_num, (hbr.setCell (p := ⟨g, j, none⟩) hgw _).drew, ho2⟩
      case measure => simp [intOf]; omega
    · obtain rfl : j = h := by omega
      go_wp2_with fail
      go_ret
      refine ⟨some ⟨g, 0, none⟩, j, rfl, ?_, hbr⟩
      rw [pairsTo_all l j HH.out] at hor
      exact hor.base hgw

theorem rep_num2 (w0 w : World) (hb : Below w0.heap.size w0 w) (A : Option Addr) (n c : Nat) (xs : List Nat) (hown : Ow w w0.heap.size 5 A c (bs xs)) (hn : xs.length = n) (x y : Nat) (hx : x < 65536) (hy : y < 65536) (g : Nat) (hg : w.heap.size = g) (hbig : n ≤ 1000000) :
    Calls Try.prog 138 #[.slice A n c, .slice (some ⟨g, 0, none⟩) 2 2] (w.alloc (.cells #[.int .u16 (x : Int), .int .u16 (y : Int)] 34)) fun e w' => ∃ A' n' c', e = .returned (.slice A' n' c') ∧ Hid ((xs ++ nums [x, y]).length = n') ∧ n' ≤ n + 4 ∧ Ow w' w0.heap.size 5 A' c' (bs (xs ++ nums [x, y])) ∧ Below w0.heap.size w0 w' := by
  subst hg
  refine (rep_numbers w0 _ (hb.alloc hb.size _) A n c xs (hown.alloc _) hn (some ⟨w.heap.size, 0, none⟩) 2 2 [x, y] (.inr (Ow.lit _ _ _ [.int .u16 (x : Int), .int .u16 (y : Int)] (Nat.zero_le _) (show (2 : Nat) ≤ maxLen by decide) rfl rfl)) rfl (by intro z hz; simp at hz; omega) hbig (by omega)).mono ?_
  rintro e w' ⟨A', c', rfl, h1, h2⟩
  exact ⟨A', _, c', rfl, by (show _ = _); rw [List.length_append, nums_length, hn]; simp, by omega, h1, h2⟩

theorem Ow.litAt (w : World) (B : Nat) (e : TypeId) (cs : List Value) (g : Nat) {c : Nat} {xs : List Value} (hg : w.heap.size = g) (hB : B ≤ w.heap.size) (hm : cs.length ≤ maxLen) (hx : xs = cs) (hc : c = cs.length) : Ow (w.alloc (.cells cs.toArray e)) B e (some ⟨g, 0, none⟩) c xs := by
  subst hg; exact Ow.lit w B e cs hB hm hx hc
set_option maxHeartbeats 2000000 in
theorem write_exc (r : Rp) (A : Option Addr) (c : Nat) (B : Option Addr) (d : Nat) (w : World) (hR : RpR w r A B) (hok : r.ok) (hr : rightK .exc r = true) :
    Calls Try.prog 120 #[.agg #[], r.v A c B d] w fun e w' => ∃ A' n' c', e = .returned (.slice A' n' c') ∧ Hid ((writeK .exc r).length = n') ∧ n' ≤ 1000 ∧ Ow w' w.heap.size 5 A' c' (bs (writeK .exc r)) ∧ Below w.heap.size w w' := by
  have hb := ((Below.refl _ w).alloc (Nat.le_refl _) (.cells #[] 84)).alloc (by simp [World.size_alloc]) (.cells #[.int .u8 (r.fn : Int), .int .u8 (r.ex : Int), .slice B r.bits.length d, .slice A r.words.length c, .int .u16 (r.at_ : Int), .int .u16 (r.many : Int)] 36)
  have bx := Blk.newAt (w.alloc (.cells #[] 84)) 36 #[.int .u8 (r.fn : Int), .int .u8 (r.ex : Int), .slice B r.bits.length d, .slice A r.words.length c, .int .u16 (r.at_ : Int), .int .u16 (r.many : Int)] (w.heap.size + 1) (World.size_alloc _ _)
  have hf := hok.fn
  have hx := hok.ex
  have ht := hok.at_
  have hmn := hok.many
  obtain ⟨g, hg⟩ : ∃ g, w.heap.size + 1 = g := ⟨_, rfl⟩
  have HG := Lib.hid hg
  rw [hg] at bx
  clear hg
  unfold Rp.v rpV
  have hr2 := hr
  simp only [rightK, Bool.and_eq_true, decide_eq_true_eq] at hr2
  have hf2 := hr2.1.1.1
  clear hr2
  have e1 : IntKind.u8.wrap ((r.fn : Int) + 128) = (r.fn : Int) + 128 := by rw [IntKind.wrap_u8]; omega
  have HW : Hid (bs (writeK .exc r) = [.int .u8 ((r.fn : Int) + 128), .int .u8 (r.ex : Int)]) := by
    (show _ = _); simp only [writeK]; rw [Nat.mod_eq_of_lt (by omega)]; simp [bs]
  go_enter Try.func120, Try.ntmps120
  go_upto_region 1 with fail
  rw [HG.out]
  generalize (w.alloc (.cells #[] 84)).alloc (.cells #[.int .u8 (r.fn : Int), .int .u8 (r.ex : Int), .slice B r.bits.length d, .slice A r.words.length c, .int .u16 (r.at_ : Int), .int .u16 (r.many : Int)] 36) = w1 at *
  obtain ⟨d0, d1, d2, d3, d4, d5⟩ := bx.c6
  have hw1 := hb.size
  go_wp2_with fail
  go_ret
  refine ⟨_, _, _, rfl, rfl, by (show 2 ≤ 1000); omega, ?_, hb.alloc hw1 _⟩
  exact Ow.lit w1 w.heap.size 5 [.int .u8 ((r.fn : Int) + 128), .int .u8 (r.ex : Int)] hw1 (by simp [maxLen]) HW.out rfl
set_option maxHeartbeats 2000000 in
theorem write_bl (r : Rp) (A : Option Addr) (c : Nat) (B : Option Addr) (d : Nat) (w : World) (hR : RpR w r A B) (hok : r.ok) (hr : rightK .bl r = true) :
    Calls Try.prog 133 #[.agg #[], r.v A c B d] w fun e w' => ∃ A' n' c', e = .returned (.slice A' n' c') ∧ Hid ((writeK .bl r).length = n') ∧ n' ≤ 1000 ∧ Ow w' w.heap.size 5 A' c' (bs (writeK .bl r)) ∧ Below w.heap.size w w' := by
  have hb := ((Below.refl _ w).alloc (Nat.le_refl _) (.cells #[] 133)).alloc (by simp [World.size_alloc]) (.cells #[.int .u8 (r.fn : Int), .int .u8 (r.ex : Int), .slice B r.bits.length d, .slice A r.words.length c, .int .u16 (r.at_ : Int), .int .u16 (r.many : Int)] 36)
  have bx := Blk.newAt (w.alloc (.cells #[] 133)) 36 #[.int .u8 (r.fn : Int), .int .u8 (r.ex : Int), .slice B r.bits.length d, .slice A r.words.length c, .int .u16 (r.at_ : Int), .int .u16 (r.many : Int)] (w.heap.size + 1) (World.size_alloc _ _)
  have hf := hok.fn
  have hx := hok.ex
  have ht := hok.at_
  have hmn := hok.many
  obtain ⟨g, hg⟩ : ∃ g, w.heap.size + 1 = g := ⟨_, rfl⟩
  have HG := Lib.hid hg
  rw [hg] at bx
  clear hg
  unfold Rp.v rpV
  have hr2 := hr
  simp only [rightK, Bool.and_eq_true, decide_eq_true_eq] at hr2
  obtain ⟨⟨⟨c1, c2⟩, -⟩, -⟩ := hr2
  obtain ⟨nb, hnb⟩ : ∃ n, r.bits.length = n := ⟨_, rfl⟩
  rw [hnb] at c1 c2
  obtain ⟨p, hp⟩ : ∃ p, (nb + 7) / 8 = p := ⟨_, rfl⟩
  have HP : Hid ((pk r.bits).length = p) := by (show _ = _); rw [pk_length, hnb, hp]
  have E := Lib.hid (fun W (h : Rd W B (os r.bits)) => ask_Pack B nb d r.bits W h hnb (by omega))
  rw [hp] at E
  have hp1 : p ≤ 250 := by omega
  have e1 : IntKind.u8.wrap (p : Int) = (p : Int) := by rw [IntKind.wrap_u8]; omega
  have HW : Hid (writeK .bl r = [r.fn, p] ++ pk r.bits) := by (show _ = _); simp only [writeK]; rw [HP.out]
  have H2 : Hid (bs [r.fn, p] = [.int .u8 (r.fn : Int), .int .u8 (p : Int)]) := by (show _ = _); simp [bs]
  have HN : Hid ((writeK .bl r).length = 2 + p) := by (show _ = _); rw [HW.out, List.length_append, HP.out]; rfl
  rw [hnb]
  rw [hnb] at hb bx
  clear hnb hp c1 c2
  go_enter Try.func133, Try.ntmps133
  go_upto_region 1 with fail
  rw [HG.out]
  generalize (w.alloc (.cells #[] 133)).alloc (.cells #[.int .u8 (r.fn : Int), .int .u8 (r.ex : Int), .slice B nb d, .slice A r.words.length c, .int .u16 (r.at_ : Int), .int .u16 (r.many : Int)] 36) = w1 at *
  obtain ⟨d0, d1, d2, d3, d4, d5⟩ := bx.c6
  have hw1 := hb.size
  go_wp2_with fail
  refine (E.out _ (hR.bits.below hb)).mono ?_
  rintro e w2 ⟨A2, c2, rfl, o2, hs⟩
  have hw2 := hs.size
  replace hb := bthen hb hs
  replace bx := bx.all hs
  clear hs d0 d1 d2 d3 d4 d5
  obtain ⟨d0, d1, d2, d3, d4, d5⟩ := bx.c6
  go_wp2_with (at_builtin; refine app_b rfl _ _ rfl w (hb.alloc hb.size _) _ _ _ [r.fn, p] rfl (Ow.lit _ _ _ _ hb.size (by simp [maxLen]) H2.out rfl) rfl A2 p c2 (pk r.bits) rfl (o2.rd.alloc _) HP.out (by omega) ?_)
  intro A3 c3 w3 o3 hb3 _
  go_wp2_with fail
  go_ret
  exact ⟨A3, _, c3, rfl, HN.out, by omega, by rw [HW.out]; exact o3, hb3⟩
set_option maxHeartbeats 2000000 in
theorem write_wl (r : Rp) (A : Option Addr) (c : Nat) (B : Option Addr) (d : Nat) (w : World) (hR : RpR w r A B) (hok : r.ok) (hr : rightK .wl r = true) :
    Calls Try.prog 136 #[.agg #[], r.v A c B d] w fun e w' => ∃ A' n' c', e = .returned (.slice A' n' c') ∧ Hid ((writeK .wl r).length = n') ∧ n' ≤ 1000 ∧ Ow w' w.heap.size 5 A' c' (bs (writeK .wl r)) ∧ Below w.heap.size w w' := by
  have hb := ((Below.refl _ w).alloc (Nat.le_refl _) (.cells #[] 134)).alloc (by simp [World.size_alloc]) (.cells #[.int .u8 (r.fn : Int), .int .u8 (r.ex : Int), .slice B r.bits.length d, .slice A r.words.length c, .int .u16 (r.at_ : Int), .int .u16 (r.many : Int)] 36)
  have bx := Blk.newAt (w.alloc (.cells #[] 134)) 36 #[.int .u8 (r.fn : Int), .int .u8 (r.ex : Int), .slice B r.bits.length d, .slice A r.words.length c, .int .u16 (r.at_ : Int), .int .u16 (r.many : Int)] (w.heap.size + 1) (World.size_alloc _ _)
  have hf := hok.fn
  have hx := hok.ex
  have ht := hok.at_
  have hmn := hok.many
  obtain ⟨g, hg⟩ : ∃ g, w.heap.size + 1 = g := ⟨_, rfl⟩
  have HG := Lib.hid hg
  rw [hg] at bx
  clear hg
  unfold Rp.v rpV
  have hr2 := hr
  simp only [rightK, Bool.and_eq_true, decide_eq_true_eq] at hr2
  obtain ⟨⟨c1, c2⟩, -⟩ := hr2
  obtain ⟨p, hp⟩ : ∃ n, r.words.length = n := ⟨_, rfl⟩
  rw [hp] at c1 c2
  have HP := Lib.hid hp
  have e1 : IntKind.u8.wrap (2 * (p : Int)) = 2 * (p : Int) := by rw [IntKind.wrap_u8]; omega
  have HW : Hid (writeK .wl r = [r.fn, 2 * p] ++ nums r.words) := by (show _ = _); simp only [writeK]; rw [HP.out]
  have H2 : Hid (bs [r.fn, 2 * p] = [.int .u8 (r.fn : Int), .int .u8 (2 * (p : Int))]) := by (show _ = _); simp [bs]
  have HN : Hid ((writeK .wl r).length = 2 + 2 * p) := by (show _ = _); rw [HW.out, List.length_append, nums_length, HP.out]; rfl
  rw [hp]
  rw [hp] at hb bx
  clear hp
  go_enter Try.func136, Try.ntmps136
  go_upto_region 1 with fail
  rw [HG.out]
  generalize (w.alloc (.cells #[] 134)).alloc (.cells #[.int .u8 (r.fn : Int), .int .u8 (r.ex : Int), .slice B r.bits.length d, .slice A p c, .int .u16 (r.at_ : Int), .int .u16 (r.many : Int)] 36) = w1 at *
  obtain ⟨d0, d1, d2, d3, d4, d5⟩ := bx.c6
  have hw1 := hb.size
  have bx2 := bx.alloc (.cells #[.int .u8 (r.fn : Int), .int .u8 (2 * (p : Int))] 5)
  obtain ⟨y0, y1, y2, y3, y4, y5⟩ := bx2.c6
  go_wp2_with fail
  refine (rep_numbers w1 _ ((Below.refl _ _).alloc (Nat.le_refl _) _) _ 2 2 [r.fn, 2 * p] (Ow.lit _ _ _ _ (Nat.le_refl _) (by simp [maxLen]) H2.out rfl) rfl A p c r.words (.inl (hR.words.below hb)) HP.out hok.words (by omega) (by omega)).mono ?_
  rintro e w2 ⟨A3, c3, rfl, o3, hs⟩
  go_wp2_with fail
  go_ret
  exact ⟨A3, _, c3, rfl, HN.out, by omega, by rw [HW.out]; exact o3.base hw1, hb.trans (hs.mono hw1)⟩
set_option maxHeartbeats 2000000 in
theorem write_ob (r : Rp) (A : Option Addr) (c : Nat) (B : Option Addr) (d : Nat) (w : World) (hR : RpR w r A B) (hok : r.ok) (hr : rightK .ob r = true) :
    Calls Try.prog 141 #[.agg #[], r.v A c B d] w fun e w' => ∃ A' n' c', e = .returned (.slice A' n' c') ∧ Hid ((writeK .ob r).length = n') ∧ n' ≤ 1000 ∧ Ow w' w.heap.size 5 A' c' (bs (writeK .ob r)) ∧ Below w.heap.size w w' := by
  have hb := ((Below.refl _ w).alloc (Nat.le_refl _) (.cells #[] 135)).alloc (by simp [World.size_alloc]) (.cells #[.int .u8 (r.fn : Int), .int .u8 (r.ex : Int), .slice B r.bits.length d, .slice A r.words.length c, .int .u16 (r.at_ : Int), .int .u16 (r.many : Int)] 36)
  have bx := Blk.newAt (w.alloc (.cells #[] 135)) 36 #[.int .u8 (r.fn : Int), .int .u8 (r.ex : Int), .slice B r.bits.length d, .slice A r.words.length c, .int .u16 (r.at_ : Int), .int .u16 (r.many : Int)] (w.heap.size + 1) (World.size_alloc _ _)
  have hf := hok.fn
  have hx := hok.ex
  have ht := hok.at_
  have hmn := hok.many
  obtain ⟨g, hg⟩ : ∃ g, w.heap.size + 1 = g := ⟨_, rfl⟩
  have HG := Lib.hid hg
  rw [hg] at bx
  clear hg
  unfold Rp.v rpV
  have hr2 := hr
  simp only [rightK, Bool.and_eq_true, decide_eq_true_eq] at hr2
  obtain ⟨x, hx1⟩ := List.length_eq_one_iff.1 hr2.1
  have HW : Hid (writeK .ob r = [r.fn] ++ nums [r.at_, if x then 65280 else 0]) := by (show _ = _); simp only [writeK]; rw [hx1]; rfl
  have H1 : Hid (bs [r.fn] = [.int .u8 (r.fn : Int)]) := rfl
  have HN : Hid ((writeK .ob r).length = 5) := by (show _ = _); rw [HW.out, List.length_append, nums_length]; rfl
  have hRb := hR.bits
  rw [hx1] at hRb hb bx
  rw [hx1]
  simp only [List.length_singleton] at hb bx ⊢
  clear hr2 hr hx1
  go_enter Try.func141, Try.ntmps141
  go_upto_region 2 with fail
  rw [HG.out]
  generalize (w.alloc (.cells #[] 135)).alloc (.cells #[.int .u8 (r.fn : Int), .int .u8 (r.ex : Int), .slice B 1 d, .slice A r.words.length c, .int .u16 (r.at_ : Int), .int .u16 (r.many : Int)] 36) = w1 at *
  obtain ⟨d0, d1, d2, d3, d4, d5⟩ := bx.c6
  have hw1 := hb.size
  obtain ⟨bb, off, x', rfl, hx2, cx⟩ := (hRb.below hb).bit (k := 0) (by simp)
  rw [Nat.add_zero] at cx
  obtain rfl : x = x' := by simpa using hx2
  clear hx2
  have bx2 := bx.alloc (.cells #[.int .u8 (r.fn : Int)] 5)
  obtain ⟨y0, y1, y2, y3, y4, y5⟩ := bx2.c6
  cases x with
  | true =>
    go_wp2_with fail
    refine (rep_num2 w1 _ ((Below.refl _ _).alloc (Nat.le_refl _) _) _ 1 1 [r.fn] (Ow.lit _ _ _ _ (Nat.le_refl _) (by simp [maxLen]) H1.out rfl) rfl r.at_ 65280 ht (by omega) _ (World.size_alloc _ _) (by omega)).mono ?_
    rintro e w2 ⟨A3, n3, c3, rfl, HL, -, o3, hs⟩
    go_wp2_with fail
    go_ret
    exact ⟨A3, n3, c3, rfl, by (show _ = _); rw [HW.out]; exact HL.out, by have := HL.out; rw [List.length_append, nums_length] at this; simp at this; omega, by rw [HW.out]; exact o3.base hw1, hb.trans (hs.mono hw1)⟩
  | false =>
    go_wp2_with fail
    refine (rep_num2 w1 _ ((Below.refl _ _).alloc (Nat.le_refl _) _) _ 1 1 [r.fn] (Ow.lit _ _ _ _ (Nat.le_refl _) (by simp [maxLen]) H1.out rfl) rfl r.at_ 0 ht (by omega) _ (World.size_alloc _ _) (by omega)).mono ?_
    rintro e w2 ⟨A3, n3, c3, rfl, HL, -, o3, hs⟩
    go_wp2_with fail
    go_ret
    exact ⟨A3, n3, c3, rfl, by (show _ = _); rw [HW.out]; exact HL.out, by have := HL.out; rw [List.length_append, nums_length] at this; simp at this; omega, by rw [HW.out]; exact o3.base hw1, hb.trans (hs.mono hw1)⟩
set_option maxHeartbeats 2000000 in
theorem write_ct (m : Nat) (hm : m < 65536) (r : Rp) (A : Option Addr) (c : Nat) (B : Option Addr) (d : Nat) (w : World) (hR : RpR w r A B) (hok : r.ok) (hr : rightK (.ct m) r = true) :
    Calls Try.prog 147 #[.agg #[.int .u16 (m : Int)], r.v A c B d] w fun e w' => ∃ A' n' c', e = .returned (.slice A' n' c') ∧ Hid ((writeK (.ct m) r).length = n') ∧ n' ≤ 1000 ∧ Ow w' w.heap.size 5 A' c' (bs (writeK (.ct m) r)) ∧ Below w.heap.size w w' := by
  have hb := ((Below.refl _ w).alloc (Nat.le_refl _) (.cells #[.int .u16 (m : Int)] 138)).alloc (by simp [World.size_alloc]) (.cells #[.int .u8 (r.fn : Int), .int .u8 (r.ex : Int), .slice B r.bits.length d, .slice A r.words.length c, .int .u16 (r.at_ : Int), .int .u16 (r.many : Int)] 36)
  have bx := Blk.newAt (w.alloc (.cells #[.int .u16 (m : Int)] 138)) 36 #[.int .u8 (r.fn : Int), .int .u8 (r.ex : Int), .slice B r.bits.length d, .slice A r.words.length c, .int .u16 (r.at_ : Int), .int .u16 (r.many : Int)] (w.heap.size + 1) (World.size_alloc _ _)
  have hf := hok.fn
  have hx := hok.ex
  have ht := hok.at_
  have hmn := hok.many
  obtain ⟨g, hg⟩ : ∃ g, w.heap.size + 1 = g := ⟨_, rfl⟩
  have HG := Lib.hid hg
  rw [hg] at bx
  clear hg
  unfold Rp.v rpV
  have HW : Hid (writeK (.ct m) r = [r.fn] ++ nums [r.at_, r.many]) := rfl
  have H1 : Hid (bs [r.fn] = [.int .u8 (r.fn : Int)]) := rfl
  go_enter Try.func147, Try.ntmps147
  go_upto_region 1 with fail
  rw [HG.out]
  generalize (w.alloc (.cells #[.int .u16 (m : Int)] 138)).alloc (.cells #[.int .u8 (r.fn : Int), .int .u8 (r.ex : Int), .slice B r.bits.length d, .slice A r.words.length c, .int .u16 (r.at_ : Int), .int .u16 (r.many : Int)] 36) = w1 at *
  obtain ⟨d0, d1, d2, d3, d4, d5⟩ := bx.c6
  have hw1 := hb.size
  have bx2 := bx.alloc (.cells #[.int .u8 (r.fn : Int)] 5)
  obtain ⟨y0, y1, y2, y3, y4, y5⟩ := bx2.c6
  go_wp2_with fail
  refine (rep_num2 w1 _ ((Below.refl _ _).alloc (Nat.le_refl _) _) _ 1 1 [r.fn] (Ow.lit _ _ _ _ (Nat.le_refl _) (by simp [maxLen]) H1.out rfl) rfl r.at_ r.many ht hmn _ (World.size_alloc _ _) (by omega)).mono ?_
  rintro e w2 ⟨A3, n3, c3, rfl, HL, -, o3, hs⟩
  go_wp2_with fail
  go_ret
  exact ⟨A3, n3, c3, rfl, by (show _ = _); rw [HW.out]; exact HL.out, by have := HL.out; rw [List.length_append, nums_length] at this; simp at this; omega, by rw [HW.out]; exact o3.base hw1, hb.trans (hs.mono hw1)⟩
set_option maxHeartbeats 2000000 in
theorem write_ow (r : Rp) (A : Option Addr) (c : Nat) (B : Option Addr) (d : Nat) (w : World) (hR : RpR w r A B) (hok : r.ok) (hr : rightK .ow r = true) :
    Calls Try.prog 144 #[.agg #[], r.v A c B d] w fun e w' => ∃ A' n' c', e = .returned (.slice A' n' c') ∧ Hid ((writeK .ow r).length = n') ∧ n' ≤ 1000 ∧ Ow w' w.heap.size 5 A' c' (bs (writeK .ow r)) ∧ Below w.heap.size w w' := by
  have hb := ((Below.refl _ w).alloc (Nat.le_refl _) (.cells #[] 136)).alloc (by simp [World.size_alloc]) (.cells #[.int .u8 (r.fn : Int), .int .u8 (r.ex : Int), .slice B r.bits.length d, .slice A r.words.length c, .int .u16 (r.at_ : Int), .int .u16 (r.many : Int)] 36)
  have bx := Blk.newAt (w.alloc (.cells #[] 136)) 36 #[.int .u8 (r.fn : Int), .int .u8 (r.ex : Int), .slice B r.bits.length d, .slice A r.words.length c, .int .u16 (r.at_ : Int), .int .u16 (r.many : Int)] (w.heap.size + 1) (World.size_alloc _ _)
  have hf := hok.fn
  have hx := hok.ex
  have ht := hok.at_
  have hmn := hok.many
  obtain ⟨g, hg⟩ : ∃ g, w.heap.size + 1 = g := ⟨_, rfl⟩
  have HG := Lib.hid hg
  rw [hg] at bx
  clear hg
  unfold Rp.v rpV
  have hr2 := hr
  simp only [rightK, Bool.and_eq_true, decide_eq_true_eq] at hr2
  obtain ⟨x, hx1⟩ := List.length_eq_one_iff.1 hr2.1
  have HW : Hid (writeK .ow r = [r.fn] ++ nums [r.at_, x]) := by (show _ = _); simp only [writeK]; rw [hx1]; rfl
  have H1 : Hid (bs [r.fn] = [.int .u8 (r.fn : Int)]) := rfl
  have H3 : Hid (ws [r.at_, x] = [.int .u16 (r.at_ : Int), .int .u16 (x : Int)]) := rfl
  have hRw := hR.words
  have hxb : x < 65536 := hok.words x (by rw [hx1]; simp)
  rw [hx1] at hRw hb bx
  rw [hx1]
  simp only [List.length_singleton] at hb bx ⊢
  clear hr2 hr hx1
  go_enter Try.func144, Try.ntmps144
  go_upto_region 1 with fail
  rw [HG.out]
  generalize (w.alloc (.cells #[] 136)).alloc (.cells #[.int .u8 (r.fn : Int), .int .u8 (r.ex : Int), .slice B r.bits.length d, .slice A 1 c, .int .u16 (r.at_ : Int), .int .u16 (r.many : Int)] 36) = w1 at *
  obtain ⟨d0, d1, d2, d3, d4, d5⟩ := bx.c6
  have hw1 := hb.size
  obtain ⟨bb, off, x', rfl, hx2, cx⟩ := (hRw.below hb).word (k := 0) (by simp)
  rw [Nat.add_zero] at cx
  obtain rfl : x = x' := by simpa using hx2
  clear hx2
  have KK : Hid (∀ W : World, Below w1.heap.size w1 W → W.cell? ⟨g, 0, none⟩ = some (.int .u8 (r.fn : Int)) ∧ W.cell? ⟨g, 1, none⟩ = some (.int .u8 (r.ex : Int)) ∧ W.cell? ⟨g, 2, none⟩ = some (.slice B r.bits.length d) ∧ W.cell? ⟨g, 3, none⟩ = some (.slice (some ⟨bb, off, none⟩) 1 c) ∧ W.cell? ⟨g, 4, none⟩ = some (.int .u16 (r.at_ : Int)) ∧ W.cell? ⟨g, 5, none⟩ = some (.int .u16 (r.many : Int)) ∧ W.cell? ⟨bb, off, none⟩ = some (.int .u16 (x : Int))) := fun W hW => ⟨(bx.all hW).cell 0, (bx.all hW).cell 1, (bx.all hW).cell 2, (bx.all hW).cell 3, (bx.all hW).cell 4, (bx.all hW).cell 5, (hW.cell (p := ⟨bb, off, none⟩) (World.block_lt_of_cell? _ _ cx)).trans cx⟩
  have b0 := (Below.refl w1.heap.size w1).drew
  have rr := Below.refl w1.heap.size w1
  have call : ∀ W : World, ∀ g1 g2 : Nat, Below w1.heap.size w1 W → Ow W w1.heap.size 5 (some ⟨g1, 0, none⟩) 1 (bs [r.fn]) → Ow W 0 34 (some ⟨g2, 0, none⟩) 2 (ws [r.at_, x]) →
      Calls Try.prog 138 #[.slice (some ⟨g1, 0, none⟩) 1 1, .slice (some ⟨g2, 0, none⟩) 2 2] W fun e w' => ∃ A3 c3, e = .returned (.slice A3 5 c3) ∧ Hid (Ow w' w1.heap.size 5 A3 c3 (bs ([r.fn] ++ nums [r.at_, x]))) ∧ Hid (Below w1.heap.size w1 w') := by
    intro W g1 g2 h1 h2 h3
    refine (rep_numbers w1 W h1 _ 1 1 [r.fn] h2 rfl _ 2 2 [r.at_, x] (.inr h3) rfl (by intro y hy; simp at hy; omega) (by omega) (by omega)).mono ?_
    rintro e w' ⟨A', c', h4, h5, h6⟩
    exact ⟨A', c', h4, h5, h6⟩
  have bA := rr.alloc (Nat.le_refl _) (.cells #[.int .u8 (r.fn : Int)] 5)
  have bA2 := bA.alloc (by simp) (.cells #[.int .u16 (r.at_ : Int), .int .u16 (x : Int)] 34)
  have bB := rr.alloc (Nat.le_refl _) (.cells #[.int .u16 (r.at_ : Int), .int .u16 (x : Int)] 34)
  have bB2 := bB.alloc (by simp) (.cells #[.int .u8 (r.fn : Int)] 5)
  have O1 := Lib.hid (call _ w1.heap.size (w1.heap.size + 1) bA2.drew ((Ow.litAt w1 w1.heap.size 5 [.int .u8 (r.fn : Int)] w1.heap.size rfl (Nat.le_refl _) (by simp [maxLen]) H1.out rfl).alloc _).drew (Ow.litAt (w1.alloc (.cells #[.int .u8 (r.fn : Int)] 5)) 0 34 [.int .u16 (r.at_ : Int), .int .u16 (x : Int)] (w1.heap.size + 1) (World.size_alloc _ _) (Nat.zero_le _) (by simp [maxLen]) H3.out rfl).drew)
  have O2 := Lib.hid (call _ (w1.heap.size + 1) w1.heap.size bB2.drew (Ow.litAt (w1.alloc (.cells #[.int .u16 (r.at_ : Int), .int .u16 (x : Int)] 34)) w1.heap.size 5 [.int .u8 (r.fn : Int)] (w1.heap.size + 1) (World.size_alloc _ _) (by simp) (by simp [maxLen]) H1.out rfl).drew ((Ow.litAt w1 0 34 [.int .u16 (r.at_ : Int), .int .u16 (x : Int)] w1.heap.size rfl (Nat.zero_le _) (by simp [maxLen]) H3.out rfl).alloc _).drew)
  have KA := Lib.hid (KK.out _ bA.drew)
  have KA2 := Lib.hid (KK.out _ bA2.drew)
  have KB := Lib.hid (KK.out _ bB.drew)
  have KB2 := Lib.hid (KK.out _ bB2.drew)
  have K0 := Lib.hid (KK.out _ b0)
  clear call b0 bA bA2 bB bB2
  go_cut [4] (fun v wc => ∃ A3 c3, v = .slice A3 5 c3 ∧ Hid (Ow wc w1.heap.size 5 A3 c3 (bs ([r.fn] ++ nums [r.at_, x]))) ∧ Hid (Below w1.heap.size w1 wc))
  case first =>
    go_region_held3 (fun W => W.cell? ⟨g, 0, none⟩ = some (.int .u8 (r.fn : Int)) ∧ W.cell? ⟨g, 1, none⟩ = some (.int .u8 (r.ex : Int)) ∧ W.cell? ⟨g, 2, none⟩ = some (.slice B r.bits.length d) ∧ W.cell? ⟨g, 3, none⟩ = some (.slice (some ⟨bb, off, none⟩) 1 c) ∧ W.cell? ⟨g, 4, none⟩ = some (.int .u16 (r.at_ : Int)) ∧ W.cell? ⟨g, 5, none⟩ = some (.int .u16 (r.many : Int)) ∧ W.cell? ⟨bb, off, none⟩ = some (.int .u16 (x : Int))) (first | with_reducible exact K0.out | with_reducible exact KA.out | with_reducible exact KB.out | with_reducible exact KA2.out | with_reducible exact KB2.out | with_reducible exact KK.out _ (Hid.out ‹_›))
      (first
        | (go_at_call 138; (with_reducible refine O1.out.mono ?_); rintro e w2 ⟨A3, c3, rfl, ho2, hs2⟩)
        | (go_at_call 138; (with_reducible refine O2.out.mono ?_); rintro e w2 ⟨A3, c3, rfl, ho2, hs2⟩))
    all_goals
      go_wp2_with fail
      go_meet
      exact ⟨A3, c3, rfl, ho2, hs2⟩
  case rest =>
    obtain ⟨A3, c3, rfl, ho2, hs2⟩ := hcut
    go_wp2_with fail
    go_ret
    exact ⟨A3, 5, c3, rfl, by (show _ = _); rw [HW.out, List.length_append, nums_length]; rfl, by omega, by rw [HW.out]; exact ho2.out.base hw1, hb.trans (hs2.out.mono hw1)⟩
theorem write_any (k : Kd) (hk' : k.ok) (r : Rp) (A : Option Addr) (c : Nat) (B : Option Addr) (d : Nat) (w : World) (hR : RpR w r A B) (hok : r.ok) (hr : rightK k r = true) :
    Calls Try.prog k.fwrite #[k.v, r.v A c B d] w fun e w' => ∃ A' n' c', e = .returned (.slice A' n' c') ∧ Hid ((writeK k r).length = n') ∧ n' ≤ 1000 ∧ Ow w' w.heap.size 5 A' c' (bs (writeK k r)) ∧ Below w.heap.size w w' := by
  cases k with
  | exc => exact write_exc r A c B d w hR hok hr
  | bl => exact write_bl r A c B d w hR hok hr
  | wl => exact write_wl r A c B d w hR hok hr
  | ob => exact write_ob r A c B d w hR hok hr
  | ow => exact write_ow r A c B d w hR hok hr
  | ct m => exact write_ct m hk' r A c B d w hR hok hr
end Go.Proofs.Ytechhidfgheejaa
