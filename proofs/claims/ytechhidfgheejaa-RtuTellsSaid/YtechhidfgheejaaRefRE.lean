/- The walk of the reference's Parse of replies (written by gen_rrefe.py). -/
import Derived.Test.YtechhidfgheejaaRefRP
import Derived.Test.YtechhidfgheejaaRefRD
import Derived.Deep.CutBlock
namespace Go.Proofs.Ytechhidfgheejaa
open Go.RowKit
set_option linter.unusedSimpArgs false
set_option linter.unusedVariables false

set_option maxRecDepth 100000 in
set_option maxHeartbeats 8000000 in
theorem rref_Parse (A : Option Addr) (n c : Nat) (l : List Nat) (w : World) (hA : Rd w A (bs l)) (hn : l.length = n) (hl : Bs l) (hnc : n ≤ c) (hbig : n ≤ 300) :
    Calls Try.prog 42 #[.slice A n c] w fun e w' => ToldP w (parseR l) e w' := by
  have HW : Hid (parseR l = if n < 2 then none else if rightR (refR l) && sameB (bytesR (refR l)) l then some (refR l) else none) := by (show _ = _); rw [← hn]; exact parse_rref l
  generalize parseR l = r at *
  have HN := Lib.hid hn
  have hb1 := (Below.refl _ w).alloc (Nat.le_refl _) (.cells #[.int .u8 0, .int .u8 0, .slice none 0 0, .slice none 0 0, .int .u16 0, .int .u16 0] 36)
  have bz := Blk.new w 36 #[.int .u8 0, .int .u8 0, .slice none 0 0, .slice none 0 0, .int .u16 0, .int .u16 0]
  obtain ⟨g, hg⟩ : ∃ g, w.heap.size = g := ⟨_, rfl⟩
  have hwg : w.heap.size ≤ g := by omega
  clear hn
  go_enter Try.func42, Try.ntmps42
  go_upto_region 1 with fail
  rw [hg] at bz
  (try rw [hg])
  clear hg
  generalize w.alloc (.cells #[.int .u8 0, .int .u8 0, .slice none 0 0, .slice none 0 0, .int .u16 0, .int .u16 0] 36) = w1 at *
  have hA1 := hA.below hb1
  have hg1 : g < w1.heap.size := bz.lt
  have hww : w.heap.size ≤ w1.heap.size := hb1.size
  by_cases h5 : n < 2
  · have HR : Hid (r = none) := by (show _ = _); rw [HW.out, if_pos h5]
    have v5 : decide ((n : Int) < 2) = true := decide_eq_true (by omega)
    obtain ⟨z0, z1, z2, z3, z4, z5⟩ := bz.c6
    have zz0 := bz.frozen 0
    have zz1 := bz.frozen 1
    have zz2 := bz.frozen 2
    have zz3 := bz.frozen 3
    have zz4 := bz.frozen 4
    have zz5 := bz.frozen 5
    go_wp2_with fail
    refine bodyPost_ret (v := .tuple #[.agg #[.int .u8 0, .int .u8 0, .slice none 0 0, .slice none 0 0, .int .u16 0, .int .u16 0], .int .i64 13]) (by simp [results, Try.results42, go_sem, z0, z1, z2, z3, z4, z5]) rfl ?_
    rw [HR.out]
    exact ⟨rfl, bset6 hb1 hwg _ _ _ _ _ _⟩
  have v5 : decide ((n : Int) < 2) = false := decide_eq_false (by omega)
  have HR : Hid (r = if rightR (refR l) && sameB (bytesR (refR l)) l then some (refR l) else none) := by (show _ = _); rw [HW.out, if_neg h5]
  obtain ⟨bb, off, f, rfl, hx, cx0⟩ := hA1.byte (k := 0) (by rw [HN.out]; omega)
  rw [Nat.add_zero] at cx0
  have cx1 := hA1.byteAt 1 (by rw [HN.out]; omega)
  have HF0 : Hid (l.getD 0 0 = f) := getD_of hx
  have hf := hl.get hx
  obtain ⟨y, hy⟩ : ∃ y, l.getD 1 0 = y := ⟨_, rfl⟩
  have hyb := getD_lt hl 1
  rw [hy] at cx1 hyb
  have HY0 := Lib.hid hy
  have hn0 : (0 : Int) < (n : Int) := by omega
  have hn0' : 0 < n := by omega
  have hn1 : (1 : Int) < (n : Int) := by omega
  have hn1' : 1 < n := by omega
  obtain ⟨t, ht⟩ : ∃ t, atR l 1 = t := ⟨_, rfl⟩
  have ht1 := atR_lt hl 1
  rw [ht] at ht1
  obtain ⟨m, hm⟩ : ∃ m, atR l 3 = m := ⟨_, rfl⟩
  have hm1 := atR_lt hl 3
  rw [hm] at hm1
  have E1 := Lib.hid (fun (W : World) (hW : Rd W (some ⟨bb, off, none⟩) (bs l)) => ref_At _ n c l 1 W hW HN.out hl (by omega) (by omega))
  have E3 := Lib.hid (fun (W : World) (hW : Rd W (some ⟨bb, off, none⟩) (bs l)) => ref_At _ n c l 3 W hW HN.out hl (by omega) (by omega))
  rw [ht] at E1
  rw [hm] at E3
  have RA : Hid (refR l = _) := refR_st HF0.out hy ht hm
  have et : IntKind.u16.wrap (t : Int) = (t : Int) := by rw [IntKind.wrap_u16]; omega
  have em : IntKind.u16.wrap (m : Int) = (m : Int) := by rw [IntKind.wrap_u16]; omega
  have K0 : Hid (∀ W : World, Below w1.heap.size w1 W → W.cell? ⟨bb, off, none⟩ = some (.int .u8 (f : Int)) ∧ W.cell? ⟨bb, off + 1, none⟩ = some (.int .u8 (y : Int))) := fun W hW => ⟨(hW.cell (World.block_lt_of_cell? w1 _ cx0)).trans cx0, (hW.cell (World.block_lt_of_cell? w1 _ cx1)).trans cx1⟩
  clear hx ht hm hy h5
  have b4 := Blk.new w1 36 #[.int .u8 (f : Int), .int .u8 0, .slice none 0 0, .slice none 0 0, .int .u16 0, .int .u16 0]
  have hs := (Below.refl w1.heap.size w1).alloc (Nat.le_refl _) (.cells #[.int .u8 (f : Int), .int .u8 0, .slice none 0 0, .slice none 0 0, .int .u16 0, .int .u16 0] 36)
  go_upto_region 4 with fail
  generalize w1.alloc (.cells #[.int .u8 (f : Int), .int .u8 0, .slice none 0 0, .slice none 0 0, .int .u16 0, .int .u16 0] 36) = w5 at *
  obtain ⟨g4, hg4⟩ : ∃ g, w1.heap.size = g := ⟨_, rfl⟩
  have hg4w : w1.heap.size ≤ g4 := by omega
  rw [hg4] at b4
  (try rw [hg4])
  have hgg : g ≠ g4 := by omega
  clear hg4 cx0 cx1
  obtain ⟨k0, k1⟩ := K0.out _ hs
  go_upto_if 19 with fail
  go_cut [] (fun wc => StR w1 wc g4 ⟨if 127 < f then f - 128 else f, if 127 < f then y else 0, [], [], 0, 0⟩)
  case first =>
    by_cases c : 127 < f
    · have v1 : decide ((127 : Int) < (f : Int)) = true := decide_eq_true (by omega)
      obtain ⟨f', hf'⟩ : ∃ x, f - 128 = x := ⟨_, rfl⟩
      have e1 : IntKind.u8.wrap ((f : Int) - 128) = (f' : Int) := by rw [IntKind.wrap_u8]; omega
      have HA : Hid ((⟨if 127 < f then f - 128 else f, if 127 < f then y else 0, [], [], 0, 0⟩ : Rp) = ⟨f', y, [], [], 0, 0⟩) := by (show _ = _); rw [if_pos c, if_pos c, hf']
      clear hf' 
      obtain ⟨dd0, dd1, dd2, dd3, dd4, dd5⟩ := b4.c6
      have ddz0 := b4.frozen 0
      have ddz1 := b4.frozen 1
      have ddz2 := b4.frozen 2
      have ddz3 := b4.frozen 3
      have ddz4 := b4.frozen 4
      have ddz5 := b4.frozen 5
      go_wp2_with fail
      go_meet
      rw [HA.out]
      exact ⟨none, 0, none, 0, (b4.set_ 0 _).set_ 1 _, Ow.nil, Ow.nil, (hs.setCell (p := ⟨g4, 0, none⟩) hg4w _).setCell (p := ⟨g4, 1, none⟩) hg4w _⟩
    have v1 : decide ((127 : Int) < (f : Int)) = false := decide_eq_false (by omega)
    have HA : Hid ((⟨if 127 < f then f - 128 else f, if 127 < f then y else 0, [], [], 0, 0⟩ : Rp) = ⟨f, 0, [], [], 0, 0⟩) := by (show _ = _); rw [if_neg c, if_neg c]
    go_wp2_with fail
    go_meet
    rw [HA.out]
    exact ⟨none, 0, none, 0, b4, Ow.nil, Ow.nil, hs⟩
  case rest =>
    clear b4 hs k0 k1
    generalize hwz : wc = w7 at *
    clear hwz
    have hs7 := StR.below hcut
    obtain ⟨k0, k1⟩ := K0.out _ hs7
    go_upto_block 0 with fail
    go_cut [] (fun wc => StR w1 wc g4 (refR l))
    case first =>
      clear k0 k1
      by_cases c1 : f = 1 ∨ f = 2
      · have HC : Hid (refR l = ⟨f, 0, unpk (l.drop 2), [], 0, 0⟩) := by (show _ = _); rw [RA.out]; rw [if_neg (by omega), if_neg (by omega), if_pos c1, if_neg (by omega), if_neg (by omega), if_neg (by omega), if_neg (by omega)]
        have HA : Hid ((⟨if 127 < f then f - 128 else f, if 127 < f then y else 0, [], [], 0, 0⟩ : Rp) = ⟨f, 0, [], [], 0, 0⟩) := by (show _ = _); rw [if_neg (by omega), if_neg (by omega)]
        rw [HA.out] at hcut
        clear HA
        obtain ⟨A2, c2, B2, d2, b4, oa, ob, hs⟩ := hcut
        have b4 : Blk w7 g4 36 #[.int .u8 (f : Int), .int .u8 0, .slice B2 0 d2, .slice A2 0 c2, .int .u16 0, .int .u16 0] := b4
        have hA7 := hA1.below hs
        obtain ⟨A6, hsl', rs⟩ := slice_from_b hA1 HN.out hnc 2 (by omega)
        have hsl : ∀ W, (Instr.slice 29 (.slice (some ⟨bb, off, none⟩) n c) (some (.int .i64 2)) none none).run Try.prog W = .ok (.slice A6 (n - 2) (c - 2)) W := hsl'
        clear hsl'
        obtain ⟨u, hu⟩ : ∃ u, n - 2 = u := ⟨_, rfl⟩
        obtain ⟨cu, hcu⟩ : ∃ u, c - 2 = u := ⟨_, rfl⟩
        obtain ⟨nb, hnb⟩ : ∃ x, 8 * u = x := ⟨_, rfl⟩
        rw [hu, hcu] at hsl
        have HU : Hid ((l.drop 2).length = u) := by (show _ = _); rw [List.length_drop, HN.out, hu]
        have HUL : Hid ((unpk (l.drop 2)).length = nb) := by (show _ = _); rw [unpk_length, HU.out, hnb]
        have E9 : Hid (∀ W, Rd W A6 (bs (l.drop 2)) → Calls Try.prog 36 #[.slice A6 u cu] W fun e w' => ∃ A' c', e = .returned (.slice A' nb c') ∧ Ow w' W.heap.size 4 A' c' (os (unpk (l.drop 2))) ∧ Below W.heap.size W w') := fun W h => by rw [← hnb]; exact ref_Unpack A6 u cu (l.drop 2) W h HU.out (hl.drop 2) (by omega)
        have HX : Hid (∀ B9 d9, rpc ⟨f, 0, unpk (l.drop 2), [], 0, 0⟩ A2 c2 B9 d9 = #[.int .u8 (f : Int), .int .u8 0, .slice B9 nb d9, .slice A2 0 c2, .int .u16 0, .int .u16 0]) := by (show ∀ _, _); intro B9 d9; unfold rpc; simp only [HUL.out]; rfl
        have hf1 : ((f : Int) == 1) = true ∨ ((f : Int) == 1) = false ∧ ((f : Int) == 2) = true := by
          rcases c1 with h | h
          · left; simp; omega
          · right; constructor <;> (simp; omega)
        clear hu hcu hnb c1
        rcases hf1 with v1 | ⟨v1, v2⟩
        all_goals
          obtain ⟨dd0, dd1, dd2, dd3, dd4, dd5⟩ := b4.c6
          have ddz0 := b4.frozen 0
          have ddz1 := b4.frozen 1
          have ddz2 := b4.frozen 2
          have ddz3 := b4.frozen 3
          have ddz4 := b4.frozen 4
          have ddz5 := b4.frozen 5
          go_wp2_with fail
          refine (E9.out _ (rs.below hs)).mono ?_
          rintro e w8 ⟨A8, c8, rfl, o8, hs8⟩
          clear dd0 ddz0 dd1 ddz1 dd2 ddz2 dd3 ddz3 dd4 ddz4 dd5 ddz5
          have b8 := b4.all hs8
          have oa8 := oa.below hs8
          have hs9 := bthen hs hs8
          have ob8 := o8.base hs.size
          obtain ⟨dd0, dd1, dd2, dd3, dd4, dd5⟩ := b8.c6
          have ddz0 := b8.frozen 0
          have ddz1 := b8.frozen 1
          have ddz2 := b8.frozen 2
          have ddz3 := b8.frozen 3
          have ddz4 := b8.frozen 4
          have ddz5 := b8.frozen 5
          go_wp2_with fail
          go_meet
          rw [HC.out]
          exact ⟨A2, c2, A8, c8, by rw [HX.out]; exact b8.set_ 2 _, oa8.setBlk b8 (by decide) 2 _, ob8.setBlk b8 (by decide) 2 _, hs9.setCell (p := ⟨g4, 2, none⟩) hg4w _⟩
      by_cases c3 : f = 3 ∨ f = 4 ∨ f = 23
      · have HC : Hid (refR l = ⟨f, 0, [], wordsR l 2, 0, 0⟩) := by (show _ = _); rw [RA.out]; rw [if_neg (by omega), if_neg (by omega), if_neg c1, if_neg (by omega), if_pos c3, if_neg (by omega), if_neg (by omega)]
        have HA : Hid ((⟨if 127 < f then f - 128 else f, if 127 < f then y else 0, [], [], 0, 0⟩ : Rp) = ⟨f, 0, [], [], 0, 0⟩) := by (show _ = _); rw [if_neg (by omega), if_neg (by omega)]
        rw [HA.out] at hcut
        clear HA
        have hst := hcut
        clear hcut
        have v1 : ((f : Int) == 1) = false := by simp; omega
        have v2 : ((f : Int) == 2) = false := by simp; omega
        have hf1 : ((f : Int) == 3) = true ∨ ((f : Int) == 3) = false ∧ ((f : Int) == 4) = true ∨ ((f : Int) == 3) = false ∧ ((f : Int) == 4) = false ∧ ((f : Int) == 23) = true := by
          rcases c3 with h | h | h
          · left; simp; omega
          · right; left; constructor <;> (simp; omega)
          · right; right; refine ⟨?_, ?_, ?_⟩ <;> (simp; omega)
        clear c1 c3
        go_upto_if 39 with fail
        go_cut [39] (fun v wc => v = .bool true ∧ wc = w7)
        case first =>
          rcases hf1 with v3 | ⟨v3, v4⟩ | ⟨v3, v4, v23⟩
          · rw [v3]
            go_wp2_with fail
            go_meet
            exact ⟨rfl, rfl⟩
          · go_wp2_with fail
            go_meet
            exact ⟨by simp [v4], rfl⟩
          · go_wp2_with fail
            go_meet
            exact ⟨by simp [v23], rfl⟩
        case rest =>
          obtain ⟨hv39, hw7⟩ := hcut
          subst hv39
          subst hw7
          generalize hwz : wc = w7 at *
          clear hwz hf1
          obtain ⟨L, hL⟩ : ∃ L, (wordsR l 2).length = L := ⟨_, rfl⟩
          have HL : Hid ((wordsR l 2).length = L) := hL
          have HLm : Hid (L = (n - 2) / 2) := by (show _ = _); rw [← hL, wordsR_len, HN.out]
          clear hL
          go_wp2_with fail
          go_loopw [5] (fun i wr => ∃ j p : Nat, Hid (p = 2 + 2 * j) ∧ j ≤ L ∧ i = .int .i64 (p : Int) ∧ StR w1 wr g4 ⟨f, 0, [], (wordsR l 2).take j, 0, 0⟩) (fun i _ => 400 - (intOf i).toNat)
          case atStart => exact ⟨0, 2, (by (show _ = _); omega), by omega, rfl, by rw [List.take_zero]; exact hst⟩
          case round =>
            clear hst
            obtain ⟨j, p, HP, hj, rfl, hcut⟩ := hrel
            obtain ⟨A2, c2, B2, d2, b4, oa, ob, hs⟩ := hcut
            have HTL : Hid (((wordsR l 2).take j).length = j) := by (show _ = _); rw [List.length_take, HL.out]; omega
            replace b4 : Blk wr g4 36 #[.int .u8 (f : Int), .int .u8 0, .slice B2 0 d2, .slice A2 j c2, .int .u16 0, .int .u16 0] := by
              have hq := b4
              unfold rpc at hq
              simp only [HTL.out] at hq
              exact hq
            have hp400 : p ≤ 320 := by have := HLm.out; have := HP.out; omega
            by_cases hlt : p + 1 < n
            · have HJ : Hid (j + 1 ≤ L) := by (show _ ≤ _); have := HLm.out; have := HP.out; omega
              have HJ3 : Hid (j ≤ 100000) := by (show _ ≤ _); have := HLm.out; omega
              have HP1 : Hid (p + 2 = 2 + 2 * (j + 1)) := by (show _ = _); have := HP.out; omega
              have hword := wordsR_get l 2 j (by rw [HN.out]; have := HP.out; omega)
              rw [← HP.out] at hword
              obtain ⟨z, hz⟩ : ∃ z, atR l p = z := ⟨_, rfl⟩
              have hzb : z < 65536 := by rw [← hz]; exact atR_lt hl p
              have E7 := Lib.hid (fun (W : World) (hW : Rd W (some ⟨bb, off, none⟩) (bs l)) => ref_At _ n c l p W hW HN.out hl (by omega) (by omega))
              rw [hz] at hword E7
              have HT := Lib.hid (take_snoc hword)
              have HTL1 : Hid (((wordsR l 2).take (j + 1)).length = j + 1) := by (show _ = _); rw [HT.out, List.length_append, HTL.out]; rfl
              have HX : Hid (∀ A9 c9, rpc ⟨f, 0, [], (wordsR l 2).take (j + 1), 0, 0⟩ A9 c9 B2 d2 = #[.int .u8 (f : Int), .int .u8 0, .slice B2 0 d2, .slice A9 (j + 1) c9, .int .u16 0, .int .u16 0]) := by (show ∀ _, _); intro A9 c9; unfold rpc; simp only [HTL1.out]; rfl
              have vp : decide ((p : Int) + 1 < (n : Int)) = true := decide_eq_true (by omega)
              clear hword hz
              go_upto_block 2 with fail
              go_cut [] (fun wc => StR w1 wc g4 ⟨f, 0, [], (wordsR l 2).take (j + 1), 0, 0⟩)
              case first =>
                go_upto_region 17 with fail
                replace b4 := b4.drew
                replace oa := oa.drew
                replace ob := ob.drew
                replace hs := hs.drew
                have ez : IntKind.u16.wrap (z : Int) = (z : Int) := by rw [IntKind.wrap_u16]; omega
                refine wp_region_held_drew (S := fun _ => True) (by kernel_rfl) ?_ (fun hHeld => ?_)
                · exact trivial
                generalize wr.drew = wD at *
                refine takeRun (i := 0) (v := ?_) rfl (by kernel_rfl) (by kernel_rfl) (by kernel_rfl) (fun _ _ _ h => h) rfl ?_ (by assumption) ?_
                rotate_left
                · (intro w hSw; (try dsimp only at hSw); go_simp; (try with_reducible rfl))
                try simp only [Act.put, List.setIfInBounds_toArray, List.set_cons_zero, List.set_cons_succ]
                refine takeRun (i := 2) (v := ?_) rfl (by kernel_rfl) (by kernel_rfl) (by kernel_rfl) (fun _ _ _ h => h) rfl ?_ (by assumption) ?_
                rotate_left
                · (intro w hSw; (try dsimp only at hSw); go_simp; (try with_reducible rfl))
                try simp only [Act.put, List.setIfInBounds_toArray, List.set_cons_zero, List.set_cons_succ]
                refine takeRun (i := 3) (v := ?_) rfl (by kernel_rfl) (by kernel_rfl) (by kernel_rfl) (fun _ _ _ h => h) rfl ?_ (by assumption) ?_
                rotate_left
                · (intro w hSw; (try dsimp only at hSw); go_simp; (try with_reducible rfl))
                try simp only [Act.put, List.setIfInBounds_toArray, List.set_cons_zero, List.set_cons_succ]
                refine goTwo (i := 1) (j := 4) (by kernel_rfl) rfl rfl (fun K hK => ?_) (fun K hK => ?_) 
                · obtain ⟨d0, d1, d2_, d3, d4, d5⟩ := b4.c6
                  go_simp
                  clear d0 d1 d2_ d3 d4 d5
                  refine hK.out _ _ ?_ (fun hHeld => ?_)
                  · exact trivial
                  clear hK K
                  try simp only [Act.put, List.setIfInBounds_toArray, List.set_cons_zero, List.set_cons_succ]
                  refine goOne (i := 4) (by kernel_rfl) rfl (fun K hK => ?_)
                  go_simp
                  (with_reducible refine Calls.mono (E7.out _ (hA1.below hs)) ?_)
                  rintro e y2 ⟨rfl, dn, hdn⟩
                  have hs8 : Below wD.heap.size wD y2 := by rw [hdn]; exact below_drewN (Below.refl _ _) dn
                  clear hdn
                  replace b4 := b4.all hs8
                  replace oa := oa.below hs8
                  replace ob := ob.below hs8
                  replace hs := bthen hs hs8
                  clear hs8
                  go_wp2_with fail
                  refine hK.out _ _ ?_ (fun hHeld => ?_)
                  · exact trivial
                  clear hK K
                  try simp only [Act.put, List.setIfInBounds_toArray, List.set_cons_zero, List.set_cons_succ]
                  refine takeRun (i := 5) (v := ?_) rfl (by kernel_rfl) (by kernel_rfl) (by kernel_rfl) (fun _ _ _ h => h) rfl ?_ (by assumption) ?_
                  rotate_left
                  · (intro w hSw; (try dsimp only at hSw); go_simp; (try with_reducible rfl))
                  try simp only [Act.put, List.setIfInBounds_toArray, List.set_cons_zero, List.set_cons_succ]
                  refine goOne (i := 6) (by kernel_rfl) rfl (fun K hK => ?_)
                  have rl : Rd (y2.alloc (.cells #[.int .u16 (z : Int)] 34)) (some ⟨y2.heap.size, 0, none⟩) (ws [z]) := Rd.lit _ _ [.int .u16 (z : Int)] rfl
                  replace b4 := b4.alloc (.cells #[.int .u16 (z : Int)] 34)
                  replace oa := oa.alloc (.cells #[.int .u16 (z : Int)] 34)
                  replace ob := ob.alloc (.cells #[.int .u16 (z : Int)] 34)
                  replace hs := hs.alloc hs.size (.cells #[.int .u16 (z : Int)] 34)
                  go_simp
                  generalize y2.alloc (.cells #[.int .u16 (z : Int)] 34) = y3 at *
                  obtain ⟨gl, hgl⟩ : ∃ g, y2.heap.size = g := ⟨_, rfl⟩
                  rw [hgl] at rl
                  (try rw [hgl])
                  clear hgl
                  refine hK.out _ _ ?_ (fun hHeld => ?_)
                  · exact trivial
                  clear hK K
                  try simp only [Act.put, List.setIfInBounds_toArray, List.set_cons_zero, List.set_cons_succ]
                  refine goOne (i := 7) (by kernel_rfl) rfl (fun K hK => ?_)
                  refine sapp_w rfl _ _ rfl w1 hs A2 j c2 _ rfl oa HTL.out (some ⟨gl, 0, none⟩) 1 1 [z] rfl rl rfl (by have := HJ3.out; omega) ?_
                  intro A9 c9 y4 oa9 hs9 hg9
                  replace b4 := b4.pass0 oa (by decide) hg9
                  replace ob := ob.keptOw oa (by decide) hg9
                  replace hs := hs9
                  replace oa := oa9
                  clear hs9 oa9 hg9 rl
                  refine hK.out _ _ ?_ (fun hHeld => ?_)
                  · exact trivial
                  clear hK K
                  try simp only [Act.put, List.setIfInBounds_toArray, List.set_cons_zero, List.set_cons_succ]
                  refine takeRun (i := 8) (v := ?_) rfl (by kernel_rfl) (by kernel_rfl) (by kernel_rfl) (fun _ _ _ h => h) rfl ?_ (by assumption) ?_
                  rotate_left
                  · (intro w hSw; (try dsimp only at hSw); go_simp; (try with_reducible rfl))
                  try simp only [Act.put, List.setIfInBounds_toArray, List.set_cons_zero, List.set_cons_succ]
                  refine goOne (i := 9) (by kernel_rfl) rfl (fun K hK => ?_)
                  obtain ⟨d0, d1, d2_, d3, d4, d5⟩ := b4.c6
                  have dz3 := b4.frozen 3
                  go_simp
                  clear d0 d1 d2_ d3 d4 d5 dz3
                  replace oa := oa.setBlk b4 (by decide) 3 (.slice A9 (j + 1) c9)
                  replace ob := ob.setBlk b4 (by decide) 3 (.slice A9 (j + 1) c9)
                  replace b4 := b4.set_ 3 (.slice A9 (j + 1) c9)
                  replace hs := hs.setCell (p := ⟨g4, 3, none⟩) hg4w (.slice A9 (j + 1) c9)
                  generalize y4.setCell ⟨g4, 3, none⟩ (.slice A9 (j + 1) c9) = y5 at *
                  refine hK.out _ _ ?_ (fun hHeld => ?_)
                  · exact trivial
                  clear hK K
                  try simp only [Act.put, List.setIfInBounds_toArray, List.set_cons_zero, List.set_cons_succ]
                  refine wpAnyH_done (by kernel_rfl) ?_ _
                  go_wp2_with fail
                  go_meet
                  exact ⟨A9, c9, B2, d2, by rw [HX.out]; exact b4, by rw [HT.out]; exact oa, ob, hs⟩
                · go_simp
                  (with_reducible refine Calls.mono (E7.out _ (hA1.below hs)) ?_)
                  rintro e y6 ⟨rfl, dn, hdn⟩
                  have hs8 : Below wD.heap.size wD y6 := by rw [hdn]; exact below_drewN (Below.refl _ _) dn
                  clear hdn
                  replace b4 := b4.all hs8
                  replace oa := oa.below hs8
                  replace ob := ob.below hs8
                  replace hs := bthen hs hs8
                  clear hs8
                  go_wp2_with fail
                  refine hK.out _ _ ?_ (fun hHeld => ?_)
                  · exact trivial
                  clear hK K
                  try simp only [Act.put, List.setIfInBounds_toArray, List.set_cons_zero, List.set_cons_succ]
                  refine takeRun (i := 5) (v := ?_) rfl (by kernel_rfl) (by kernel_rfl) (by kernel_rfl) (fun _ _ _ h => h) rfl ?_ (by assumption) ?_
                  rotate_left
                  · (intro w hSw; (try dsimp only at hSw); go_simp; (try with_reducible rfl))
                  try simp only [Act.put, List.setIfInBounds_toArray, List.set_cons_zero, List.set_cons_succ]
                  refine goTwo (i := 1) (j := 6) (by kernel_rfl) rfl rfl (fun K hK => ?_) (fun K hK => ?_) 
                  · obtain ⟨d0, d1, d2_, d3, d4, d5⟩ := b4.c6
                    go_simp
                    clear d0 d1 d2_ d3 d4 d5
                    refine hK.out _ _ ?_ (fun hHeld => ?_)
                    · exact trivial
                    clear hK K
                    try simp only [Act.put, List.setIfInBounds_toArray, List.set_cons_zero, List.set_cons_succ]
                    refine goOne (i := 6) (by kernel_rfl) rfl (fun K hK => ?_)
                    have rl : Rd (y6.alloc (.cells #[.int .u16 (z : Int)] 34)) (some ⟨y6.heap.size, 0, none⟩) (ws [z]) := Rd.lit _ _ [.int .u16 (z : Int)] rfl
                    replace b4 := b4.alloc (.cells #[.int .u16 (z : Int)] 34)
                    replace oa := oa.alloc (.cells #[.int .u16 (z : Int)] 34)
                    replace ob := ob.alloc (.cells #[.int .u16 (z : Int)] 34)
                    replace hs := hs.alloc hs.size (.cells #[.int .u16 (z : Int)] 34)
                    go_simp
                    generalize y6.alloc (.cells #[.int .u16 (z : Int)] 34) = y8 at *
                    obtain ⟨gl, hgl⟩ : ∃ g, y6.heap.size = g := ⟨_, rfl⟩
                    rw [hgl] at rl
                    (try rw [hgl])
                    clear hgl
                    refine hK.out _ _ ?_ (fun hHeld => ?_)
                    · exact trivial
                    clear hK K
                    try simp only [Act.put, List.setIfInBounds_toArray, List.set_cons_zero, List.set_cons_succ]
                    refine goOne (i := 7) (by kernel_rfl) rfl (fun K hK => ?_)
                    refine sapp_w rfl _ _ rfl w1 hs A2 j c2 _ rfl oa HTL.out (some ⟨gl, 0, none⟩) 1 1 [z] rfl rl rfl (by have := HJ3.out; omega) ?_
                    intro A9 c9 y9 oa9 hs9 hg9
                    replace b4 := b4.pass0 oa (by decide) hg9
                    replace ob := ob.keptOw oa (by decide) hg9
                    replace hs := hs9
                    replace oa := oa9
                    clear hs9 oa9 hg9 rl
                    refine hK.out _ _ ?_ (fun hHeld => ?_)
                    · exact trivial
                    clear hK K
                    try simp only [Act.put, List.setIfInBounds_toArray, List.set_cons_zero, List.set_cons_succ]
                    refine takeRun (i := 8) (v := ?_) rfl (by kernel_rfl) (by kernel_rfl) (by kernel_rfl) (fun _ _ _ h => h) rfl ?_ (by assumption) ?_
                    rotate_left
                    · (intro w hSw; (try dsimp only at hSw); go_simp; (try with_reducible rfl))
                    try simp only [Act.put, List.setIfInBounds_toArray, List.set_cons_zero, List.set_cons_succ]
                    refine goOne (i := 9) (by kernel_rfl) rfl (fun K hK => ?_)
                    obtain ⟨d0, d1, d2_, d3, d4, d5⟩ := b4.c6
                    have dz3 := b4.frozen 3
                    go_simp
                    clear d0 d1 d2_ d3 d4 d5 dz3
                    replace oa := oa.setBlk b4 (by decide) 3 (.slice A9 (j + 1) c9)
                    replace ob := ob.setBlk b4 (by decide) 3 (.slice A9 (j + 1) c9)
                    replace b4 := b4.set_ 3 (.slice A9 (j + 1) c9)
                    replace hs := hs.setCell (p := ⟨g4, 3, none⟩) hg4w (.slice A9 (j + 1) c9)
                    generalize y9.setCell ⟨g4, 3, none⟩ (.slice A9 (j + 1) c9) = y10 at *
                    refine hK.out _ _ ?_ (fun hHeld => ?_)
                    · exact trivial
                    clear hK K
                    try simp only [Act.put, List.setIfInBounds_toArray, List.set_cons_zero, List.set_cons_succ]
                    refine wpAnyH_done (by kernel_rfl) ?_ _
                    go_wp2_with fail
                    go_meet
                    exact ⟨A9, c9, B2, d2, by rw [HX.out]; exact b4, by rw [HT.out]; exact oa, ob, hs⟩
                  · have rl : Rd (y6.alloc (.cells #[.int .u16 (z : Int)] 34)) (some ⟨y6.heap.size, 0, none⟩) (ws [z]) := Rd.lit _ _ [.int .u16 (z : Int)] rfl
                    replace b4 := b4.alloc (.cells #[.int .u16 (z : Int)] 34)
                    replace oa := oa.alloc (.cells #[.int .u16 (z : Int)] 34)
                    replace ob := ob.alloc (.cells #[.int .u16 (z : Int)] 34)
                    replace hs := hs.alloc hs.size (.cells #[.int .u16 (z : Int)] 34)
                    go_simp
                    generalize y6.alloc (.cells #[.int .u16 (z : Int)] 34) = y11 at *
                    obtain ⟨gl, hgl⟩ : ∃ g, y6.heap.size = g := ⟨_, rfl⟩
                    rw [hgl] at rl
                    (try rw [hgl])
                    clear hgl
                    refine hK.out _ _ ?_ (fun hHeld => ?_)
                    · exact trivial
                    clear hK K
                    try simp only [Act.put, List.setIfInBounds_toArray, List.set_cons_zero, List.set_cons_succ]
                    refine goOne (i := 1) (by kernel_rfl) rfl (fun K hK => ?_)
                    obtain ⟨d0, d1, d2_, d3, d4, d5⟩ := b4.c6
                    go_simp
                    clear d0 d1 d2_ d3 d4 d5
                    refine hK.out _ _ ?_ (fun hHeld => ?_)
                    · exact trivial
                    clear hK K
                    try simp only [Act.put, List.setIfInBounds_toArray, List.set_cons_zero, List.set_cons_succ]
                    refine goOne (i := 7) (by kernel_rfl) rfl (fun K hK => ?_)
                    refine sapp_w rfl _ _ rfl w1 hs A2 j c2 _ rfl oa HTL.out (some ⟨gl, 0, none⟩) 1 1 [z] rfl rl rfl (by have := HJ3.out; omega) ?_
                    intro A9 c9 y13 oa9 hs9 hg9
                    replace b4 := b4.pass0 oa (by decide) hg9
                    replace ob := ob.keptOw oa (by decide) hg9
                    replace hs := hs9
                    replace oa := oa9
                    clear hs9 oa9 hg9 rl
                    refine hK.out _ _ ?_ (fun hHeld => ?_)
                    · exact trivial
                    clear hK K
                    try simp only [Act.put, List.setIfInBounds_toArray, List.set_cons_zero, List.set_cons_succ]
                    refine takeRun (i := 8) (v := ?_) rfl (by kernel_rfl) (by kernel_rfl) (by kernel_rfl) (fun _ _ _ h => h) rfl ?_ (by assumption) ?_
                    rotate_left
                    · (intro w hSw; (try dsimp only at hSw); go_simp; (try with_reducible rfl))
                    try simp only [Act.put, List.setIfInBounds_toArray, List.set_cons_zero, List.set_cons_succ]
                    refine goOne (i := 9) (by kernel_rfl) rfl (fun K hK => ?_)
                    obtain ⟨d0, d1, d2_, d3, d4, d5⟩ := b4.c6
                    have dz3 := b4.frozen 3
                    go_simp
                    clear d0 d1 d2_ d3 d4 d5 dz3
                    replace oa := oa.setBlk b4 (by decide) 3 (.slice A9 (j + 1) c9)
                    replace ob := ob.setBlk b4 (by decide) 3 (.slice A9 (j + 1) c9)
                    replace b4 := b4.set_ 3 (.slice A9 (j + 1) c9)
                    replace hs := hs.setCell (p := ⟨g4, 3, none⟩) hg4w (.slice A9 (j + 1) c9)
                    generalize y13.setCell ⟨g4, 3, none⟩ (.slice A9 (j + 1) c9) = y14 at *
                    refine hK.out _ _ ?_ (fun hHeld => ?_)
                    · exact trivial
                    clear hK K
                    try simp only [Act.put, List.setIfInBounds_toArray, List.set_cons_zero, List.set_cons_succ]
                    refine wpAnyH_done (by kernel_rfl) ?_ _
                    go_wp2_with fail
                    go_meet
                    exact ⟨A9, c9, B2, d2, by rw [HX.out]; exact b4, by rw [HT.out]; exact oa, ob, hs⟩
              case rest =>
                go_wp2_with fail
                go_roundw
                case rel => exact ⟨j + 1, p + 2, HP1.out, HJ.out, by go_num, hcut⟩
                case measure => simp [intOf]; omega
            have HE : Hid ((wordsR l 2).take j = wordsR l 2) := by (show _ = _); rw [show j = L by have := HLm.out; have := HP.out; omega, ← HL.out, List.take_length]
            have HX : Hid (rpc ⟨f, 0, [], wordsR l 2, 0, 0⟩ A2 c2 B2 d2 = #[.int .u8 (f : Int), .int .u8 0, .slice B2 0 d2, .slice A2 j c2, .int .u16 0, .int .u16 0]) := by (show _ = _); unfold rpc; rw [← HE.out]; simp only [HTL.out]; rfl
            rw [HE.out] at oa
            have vp : decide ((p : Int) + 1 < (n : Int)) = false := decide_eq_false (by omega)
            go_wp2_with fail
            go_meet
            rw [HC.out]
            exact ⟨A2, c2, B2, d2, by rw [HX.out]; exact b4, oa, ob, hs⟩
      have v1 : ((f : Int) == 1) = false := by simp; omega
      have v2 : ((f : Int) == 2) = false := by simp; omega
      have v3 : ((f : Int) == 3) = false := by simp; omega
      have v4 : ((f : Int) == 4) = false := by simp; omega
      have v23 : ((f : Int) == 23) = false := by simp; omega
      by_cases c5 : f = 5
      · have v5e : ((f : Int) == 5) = true := by simp; omega
        obtain ⟨x, hx⟩ : ∃ x, decide (m = 65280) = x := ⟨_, rfl⟩
        have vx : ((m : Int) == 65280) = x := by rw [← hx, Bool.eq_iff_iff]; simp; omega
        have HC : Hid (refR l = ⟨f, 0, [x], [], t, 0⟩) := by (show _ = _); rw [RA.out]; rw [if_neg (by omega), if_neg (by omega), if_neg c1, if_pos c5, if_neg c3, if_neg (by omega), if_pos (by omega), if_neg (by omega), hx]
        have HA : Hid ((⟨if 127 < f then f - 128 else f, if 127 < f then y else 0, [], [], 0, 0⟩ : Rp) = ⟨f, 0, [], [], 0, 0⟩) := by (show _ = _); rw [if_neg (by omega), if_neg (by omega)]
        rw [HA.out] at hcut
        clear HA
        obtain ⟨A2, c2, B2, d2, b4, oa, ob, hs⟩ := hcut
        have b4 : Blk w7 g4 36 #[.int .u8 (f : Int), .int .u8 0, .slice B2 0 d2, .slice A2 0 c2, .int .u16 0, .int .u16 0] := b4
        have hA7 := hA1.below hs
        clear hx c1 c3 c5
        obtain ⟨dd0, dd1, dd2, dd3, dd4, dd5⟩ := b4.c6
        have ddz0 := b4.frozen 0
        have ddz1 := b4.frozen 1
        have ddz2 := b4.frozen 2
        have ddz3 := b4.frozen 3
        have ddz4 := b4.frozen 4
        have ddz5 := b4.frozen 5
        go_wp2_with fail
        refine (E1.out _ hA7).mono ?_
        rintro e w8 ⟨rfl, dn, rfl⟩
        clear dd0 ddz0 dd1 ddz1 dd2 ddz2 dd3 ddz3 dd4 ddz4 dd5 ddz5
        replace b4 := b4.drewN dn
        replace oa := oa.drewN dn
        replace ob := ob.drewN dn
        replace hs := below_drewN hs dn
        generalize w7.drewN dn = w8 at *
        obtain ⟨dd0, dd1, dd2, dd3, dd4, dd5⟩ := b4.c6
        have ddz0 := b4.frozen 0
        have ddz1 := b4.frozen 1
        have ddz2 := b4.frozen 2
        have ddz3 := b4.frozen 3
        have ddz4 := b4.frozen 4
        have ddz5 := b4.frozen 5
        go_upto_region 20 with fail
        clear dd0 ddz0 dd1 ddz1 dd2 ddz2 dd3 ddz3 dd4 ddz4 dd5 ddz5
        replace oa := oa.setBlk b4 (by decide) 4 (.int .u16 (t : Int))
        replace ob := ob.setBlk b4 (by decide) 4 (.int .u16 (t : Int))
        have b4 : Blk (w8.setCell ⟨g4, 4, none⟩ (.int .u16 (t : Int))) g4 36 #[.int .u8 (f : Int), .int .u8 0, .slice B2 0 d2, .slice A2 0 c2, .int .u16 (t : Int), .int .u16 0] := b4.set_ 4 (.int .u16 (t : Int))
        replace hs := hs.setCell (p := ⟨g4, 4, none⟩) hg4w (.int .u16 (t : Int))
        generalize w8.setCell ⟨g4, 4, none⟩ (.int .u16 (t : Int)) = w9 at *
        obtain ⟨dd0, dd1, dd2, dd3, dd4, dd5⟩ := b4.c6
        have ddz0 := b4.frozen 0
        have ddz1 := b4.frozen 1
        have ddz2 := b4.frozen 2
        have ddz3 := b4.frozen 3
        have ddz4 := b4.frozen 4
        have ddz5 := b4.frozen 5
        go_wp2_with fail
        refine (E3.out _ (hA1.below hs)).mono ?_
        rintro e w10 ⟨rfl, dm, rfl⟩
        clear dd0 ddz0 dd1 ddz1 dd2 ddz2 dd3 ddz3 dd4 ddz4 dd5 ddz5
        replace b4 := b4.drewN dm
        replace oa := oa.drewN dm
        replace ob := ob.drewN dm
        replace hs := below_drewN hs dm
        generalize w9.drewN dm = wA at *
        have ol : Ow (wA.alloc (.cells #[.bool x] 4)) w1.heap.size 4 (some ⟨wA.heap.size, 0, none⟩) 1 (os [x]) := Ow.lit _ _ _ [.bool x] hs.size (show (1 : Nat) ≤ maxLen by decide) rfl rfl
        replace b4 := b4.alloc (.cells #[.bool x] 4)
        replace oa := oa.alloc (.cells #[.bool x] 4)
        replace hs := hs.alloc hs.size (.cells #[.bool x] 4)
        obtain ⟨dd0, dd1, dd2, dd3, dd4, dd5⟩ := b4.c6
        have ddz0 := b4.frozen 0
        have ddz1 := b4.frozen 1
        have ddz2 := b4.frozen 2
        have ddz3 := b4.frozen 3
        have ddz4 := b4.frozen 4
        have ddz5 := b4.frozen 5
        go_wp2_with fail
        go_meet
        rw [HC.out]
        exact ⟨A2, c2, _, _, b4.set_ 2 _, oa.setBlk b4 (by decide) 2 _, ol.setBlk b4 (by decide) 2 _, hs.setCell (p := ⟨g4, 2, none⟩) hg4w _⟩
      have v5e : ((f : Int) == 5) = false := by simp; omega
      by_cases c6 : f = 6
      · have v6e : ((f : Int) == 6) = true := by simp; omega
        have HC : Hid (refR l = ⟨f, 0, [], [m], t, 0⟩) := by (show _ = _); rw [RA.out]; rw [if_neg (by omega), if_neg (by omega), if_neg c1, if_neg c5, if_neg c3, if_pos c6, if_pos (by omega), if_neg (by omega)]
        have HA : Hid ((⟨if 127 < f then f - 128 else f, if 127 < f then y else 0, [], [], 0, 0⟩ : Rp) = ⟨f, 0, [], [], 0, 0⟩) := by (show _ = _); rw [if_neg (by omega), if_neg (by omega)]
        rw [HA.out] at hcut
        clear HA
        obtain ⟨A2, c2, B2, d2, b4, oa, ob, hs⟩ := hcut
        have b4 : Blk w7 g4 36 #[.int .u8 (f : Int), .int .u8 0, .slice B2 0 d2, .slice A2 0 c2, .int .u16 0, .int .u16 0] := b4
        have hA7 := hA1.below hs
        clear c1 c3 c5 c6
        obtain ⟨dd0, dd1, dd2, dd3, dd4, dd5⟩ := b4.c6
        have ddz0 := b4.frozen 0
        have ddz1 := b4.frozen 1
        have ddz2 := b4.frozen 2
        have ddz3 := b4.frozen 3
        have ddz4 := b4.frozen 4
        have ddz5 := b4.frozen 5
        go_wp2_with fail
        refine (E1.out _ hA7).mono ?_
        rintro e w8 ⟨rfl, dn, rfl⟩
        clear dd0 ddz0 dd1 ddz1 dd2 ddz2 dd3 ddz3 dd4 ddz4 dd5 ddz5
        replace b4 := b4.drewN dn
        replace oa := oa.drewN dn
        replace ob := ob.drewN dn
        replace hs := below_drewN hs dn
        generalize w7.drewN dn = w8 at *
        obtain ⟨dd0, dd1, dd2, dd3, dd4, dd5⟩ := b4.c6
        have ddz0 := b4.frozen 0
        have ddz1 := b4.frozen 1
        have ddz2 := b4.frozen 2
        have ddz3 := b4.frozen 3
        have ddz4 := b4.frozen 4
        have ddz5 := b4.frozen 5
        go_upto_region 23 with fail
        clear dd0 ddz0 dd1 ddz1 dd2 ddz2 dd3 ddz3 dd4 ddz4 dd5 ddz5
        replace oa := oa.setBlk b4 (by decide) 4 (.int .u16 (t : Int))
        replace ob := ob.setBlk b4 (by decide) 4 (.int .u16 (t : Int))
        have b4 : Blk (w8.setCell ⟨g4, 4, none⟩ (.int .u16 (t : Int))) g4 36 #[.int .u8 (f : Int), .int .u8 0, .slice B2 0 d2, .slice A2 0 c2, .int .u16 (t : Int), .int .u16 0] := b4.set_ 4 (.int .u16 (t : Int))
        replace hs := hs.setCell (p := ⟨g4, 4, none⟩) hg4w (.int .u16 (t : Int))
        generalize w8.setCell ⟨g4, 4, none⟩ (.int .u16 (t : Int)) = w9 at *
        obtain ⟨dd0, dd1, dd2, dd3, dd4, dd5⟩ := b4.c6
        have ddz0 := b4.frozen 0
        have ddz1 := b4.frozen 1
        have ddz2 := b4.frozen 2
        have ddz3 := b4.frozen 3
        have ddz4 := b4.frozen 4
        have ddz5 := b4.frozen 5
        go_wp2_with fail
        refine (E3.out _ (hA1.below hs)).mono ?_
        rintro e w10 ⟨rfl, dm, rfl⟩
        clear dd0 ddz0 dd1 ddz1 dd2 ddz2 dd3 ddz3 dd4 ddz4 dd5 ddz5
        replace b4 := b4.drewN dm
        replace oa := oa.drewN dm
        replace ob := ob.drewN dm
        replace hs := below_drewN hs dm
        generalize w9.drewN dm = wA at *
        have ol : Ow (wA.alloc (.cells #[.int .u16 (m : Int)] 34)) w1.heap.size 34 (some ⟨wA.heap.size, 0, none⟩) 1 (ws [m]) := Ow.lit _ _ _ [.int .u16 (m : Int)] hs.size (show (1 : Nat) ≤ maxLen by decide) rfl rfl
        replace b4 := b4.alloc (.cells #[.int .u16 (m : Int)] 34)
        replace ob := ob.alloc (.cells #[.int .u16 (m : Int)] 34)
        replace hs := hs.alloc hs.size (.cells #[.int .u16 (m : Int)] 34)
        obtain ⟨dd0, dd1, dd2, dd3, dd4, dd5⟩ := b4.c6
        have ddz0 := b4.frozen 0
        have ddz1 := b4.frozen 1
        have ddz2 := b4.frozen 2
        have ddz3 := b4.frozen 3
        have ddz4 := b4.frozen 4
        have ddz5 := b4.frozen 5
        go_wp2_with fail
        go_meet
        rw [HC.out]
        exact ⟨_, _, B2, d2, b4.set_ 3 _, ol.setBlk b4 (by decide) 3 _, ob.setBlk b4 (by decide) 3 _, hs.setCell (p := ⟨g4, 3, none⟩) hg4w _⟩
      have v6e : ((f : Int) == 6) = false := by simp; omega
      by_cases c15 : f = 15 ∨ f = 16
      · have HC : Hid (refR l = ⟨f, 0, [], [], t, m⟩) := by (show _ = _); rw [RA.out]; rw [if_neg (by omega), if_neg (by omega), if_neg c1, if_neg c5, if_neg c3, if_neg c6, if_pos (by omega), if_pos c15]
        have HA : Hid ((⟨if 127 < f then f - 128 else f, if 127 < f then y else 0, [], [], 0, 0⟩ : Rp) = ⟨f, 0, [], [], 0, 0⟩) := by (show _ = _); rw [if_neg (by omega), if_neg (by omega)]
        rw [HA.out] at hcut
        clear HA
        obtain ⟨A2, c2, B2, d2, b4, oa, ob, hs⟩ := hcut
        have b4 : Blk w7 g4 36 #[.int .u8 (f : Int), .int .u8 0, .slice B2 0 d2, .slice A2 0 c2, .int .u16 0, .int .u16 0] := b4
        have hA7 := hA1.below hs
        have hf1 : ((f : Int) == 15) = true ∨ ((f : Int) == 15) = false ∧ ((f : Int) == 16) = true := by
          rcases c15 with h | h
          · left; simp; omega
          · right; constructor <;> (simp; omega)
        clear c1 c3 c5 c6 c15
        rcases hf1 with v15 | ⟨v15, v16⟩
        all_goals
          obtain ⟨dd0, dd1, dd2, dd3, dd4, dd5⟩ := b4.c6
          have ddz0 := b4.frozen 0
          have ddz1 := b4.frozen 1
          have ddz2 := b4.frozen 2
          have ddz3 := b4.frozen 3
          have ddz4 := b4.frozen 4
          have ddz5 := b4.frozen 5
          go_wp2_with fail
          refine (E1.out _ hA7).mono ?_
          rintro e w8 ⟨rfl, dn, rfl⟩
          clear dd0 ddz0 dd1 ddz1 dd2 ddz2 dd3 ddz3 dd4 ddz4 dd5 ddz5
          replace b4 := b4.drewN dn
          replace oa := oa.drewN dn
          replace ob := ob.drewN dn
          replace hs := below_drewN hs dn
          generalize w7.drewN dn = w8 at *
          obtain ⟨dd0, dd1, dd2, dd3, dd4, dd5⟩ := b4.c6
          have ddz0 := b4.frozen 0
          have ddz1 := b4.frozen 1
          have ddz2 := b4.frozen 2
          have ddz3 := b4.frozen 3
          have ddz4 := b4.frozen 4
          have ddz5 := b4.frozen 5
          go_upto_region 27 with fail
          clear dd0 ddz0 dd1 ddz1 dd2 ddz2 dd3 ddz3 dd4 ddz4 dd5 ddz5
          replace oa := oa.setBlk b4 (by decide) 4 (.int .u16 (t : Int))
          replace ob := ob.setBlk b4 (by decide) 4 (.int .u16 (t : Int))
          have b4 : Blk (w8.setCell ⟨g4, 4, none⟩ (.int .u16 (t : Int))) g4 36 #[.int .u8 (f : Int), .int .u8 0, .slice B2 0 d2, .slice A2 0 c2, .int .u16 (t : Int), .int .u16 0] := b4.set_ 4 (.int .u16 (t : Int))
          replace hs := hs.setCell (p := ⟨g4, 4, none⟩) hg4w (.int .u16 (t : Int))
          generalize w8.setCell ⟨g4, 4, none⟩ (.int .u16 (t : Int)) = w9 at *
          obtain ⟨dd0, dd1, dd2, dd3, dd4, dd5⟩ := b4.c6
          have ddz0 := b4.frozen 0
          have ddz1 := b4.frozen 1
          have ddz2 := b4.frozen 2
          have ddz3 := b4.frozen 3
          have ddz4 := b4.frozen 4
          have ddz5 := b4.frozen 5
          go_wp2_with fail
          refine (E3.out _ (hA1.below hs)).mono ?_
          rintro e w10 ⟨rfl, dm, rfl⟩
          clear dd0 ddz0 dd1 ddz1 dd2 ddz2 dd3 ddz3 dd4 ddz4 dd5 ddz5
          replace b4 := b4.drewN dm
          replace oa := oa.drewN dm
          replace ob := ob.drewN dm
          replace hs := below_drewN hs dm
          generalize w9.drewN dm = wA at *
          obtain ⟨dd0, dd1, dd2, dd3, dd4, dd5⟩ := b4.c6
          have ddz0 := b4.frozen 0
          have ddz1 := b4.frozen 1
          have ddz2 := b4.frozen 2
          have ddz3 := b4.frozen 3
          have ddz4 := b4.frozen 4
          have ddz5 := b4.frozen 5
          go_wp2_with fail
          go_meet
          rw [HC.out]
          exact ⟨A2, c2, B2, d2, b4.set_ 5 _, oa.setBlk b4 (by decide) 5 _, ob.setBlk b4 (by decide) 5 _, hs.setCell (p := ⟨g4, 5, none⟩) hg4w _⟩
      have v15 : ((f : Int) == 15) = false := by simp; omega
      have v16 : ((f : Int) == 16) = false := by simp; omega
      have HC : Hid (refR l = ⟨if 127 < f then f - 128 else f, if 127 < f then y else 0, [], [], 0, 0⟩) := by (show _ = _); rw [RA.out]; rw [if_neg c1, if_neg c5, if_neg c3, if_neg c6, if_neg (show ¬ (f = 5 ∨ f = 6 ∨ f = 15 ∨ f = 16) by omega), if_neg c15]
      clear c1 c3 c5 c6 c15
      go_wp2_with fail
      go_meet
      rw [HC.out]
      exact hcut
    case rest =>
      clear RA E1 E3 et em hs7 k0 k1 K0
      generalize hwz : wc = wB at *
      clear hwz
      obtain ⟨A2, c2, B2, d2, b4, oa, ob, hs⟩ := hcut
      have hkok := refR_ok hl
      have hkw := refR_words l (by rw [HN.out]; exact hbig)
      have hkb := refR_bits l (by rw [HN.out]; exact hbig)
      generalize refR l = k at *
      unfold rpc at b4
      have E8 := Lib.hid (rref_Bytes k A2 c2 B2 d2 wB ⟨oa.rd, ob.rd⟩ hkok (by omega) (by omega))
      simp only [Rp.v, rpV] at E8
      obtain ⟨dd0, dd1, dd2, dd3, dd4, dd5⟩ := b4.c6
      have ddz0 := b4.frozen 0
      have ddz1 := b4.frozen 1
      have ddz2 := b4.frozen 2
      have ddz3 := b4.frozen 3
      have ddz4 := b4.frozen 4
      have ddz5 := b4.frozen 5
      go_wp2_with fail
      refine E8.out.mono ?_
      rintro e wC ⟨A3, c3, rfl, o3, hs3⟩
      clear dd0 ddz0 dd1 ddz1 dd2 ddz2 dd3 ddz3 dd4 ddz4 dd5 ddz5
      replace b4 := b4.all hs3
      replace oa := oa.below hs3
      replace ob := ob.below hs3
      replace hs := bthen hs hs3
      have hbE := bthen hb1 hs
      have bzE := bz.all hs
      have hA9 := hA1.below hs
      clear hs3 E8
      obtain ⟨nb, hnb⟩ : ∃ k', (bytesR k).length = k' := ⟨_, rfl⟩
      have HNB := Lib.hid hnb
      rw [hnb]
      clear hnb
      obtain ⟨z0, z1, z2, z3, z4, z5⟩ := bzE.c6
      have y0 := bzE.frozen 0
      have y1 := bzE.frozen 1
      have y2 := bzE.frozen 2
      have y3 := bzE.frozen 3
      have y4 := bzE.frozen 4
      have y5 := bzE.frozen 5
      by_cases hr : rightR k = true
      · have e0 : errR k = 0 := by unfold errR; rw [if_pos hr]
        rw [e0]
        obtain ⟨x, hx⟩ : ∃ x, sameB (bytesR k) l = x := ⟨_, rfl⟩
        have hbb := bytesR_Bs hkok hr
        have hsame := strN_same (bytesR k) l hbb hl
        rw [hx] at hsame
        have HRX : Hid (r = if x then some k else none) := by (show _ = _); rw [HR.out, hr, hx]; simp
        have k1 := conv_bytes wC A3 nb c3 (bytesR k) o3.rd HNB.out
        have k2 := conv_bytes wC (some ⟨bb, off, none⟩) n c l hA9 HN.out
        generalize strN (bytesR k) = s1 at *
        generalize strN l = s2 at *
        clear e0 hx hr
        cases x with
        | false =>
          go_wp2_with fail
          refine bodyPost_ret (v := .tuple #[.agg #[.int .u8 0, .int .u8 0, .slice none 0 0, .slice none 0 0, .int .u16 0, .int .u16 0], .int .i64 13]) (by simp [results, Try.results42, go_sem, z0, z1, z2, z3, z4, z5]) rfl ?_
          rw [HRX.out]
          exact ⟨rfl, bset6 hbE hwg _ _ _ _ _ _⟩
        | true =>
          obtain ⟨dd0, dd1, dd2, dd3, dd4, dd5⟩ := b4.c6
          have ddz0 := b4.frozen 0
          have ddz1 := b4.frozen 1
          have ddz2 := b4.frozen 2
          have ddz3 := b4.frozen 3
          have ddz4 := b4.frozen 4
          have ddz5 := b4.frozen 5
          go_wp2_with fail
          refine bodyPost_ret (v := .tuple #[.agg #[.int .u8 (k.fn : Int), .int .u8 (k.ex : Int), .slice B2 k.bits.length d2, .slice A2 k.words.length c2, .int .u16 (k.at_ : Int), .int .u16 (k.many : Int)], .int .i64 0]) (by simp [results, Try.results42, go_sem, z0, z1, z2, z3, z4, z5]) rfl ?_
          rw [HRX.out]
          exact ⟨A2, c2, B2, d2, rfl, RdN.set6 (⟨oa.rdN, hb1.size⟩ : _ ∧ _) hg1, RdN.set6 (⟨ob.rdN, hb1.size⟩ : _ ∧ _) hg1, bset6 hbE hwg _ _ _ _ _ _⟩
      have hr0 := Bool.eq_false_iff.2 hr
      have e0 : errR k = 13 := by unfold errR; rw [if_neg hr]
      rw [e0]
      have HRX : Hid (r = none) := by (show _ = _); rw [HR.out, hr0]; rfl
      clear e0 hr hr0
      go_wp2_with fail
      refine bodyPost_ret (v := .tuple #[.agg #[.int .u8 0, .int .u8 0, .slice none 0 0, .slice none 0 0, .int .u16 0, .int .u16 0], .int .i64 13]) (by simp [results, Try.results42, go_sem, z0, z1, z2, z3, z4, z5]) rfl ?_
      rw [HRX.out]
      exact ⟨rfl, bset6 hbE hwg _ _ _ _ _ _⟩
end Go.Proofs.Ytechhidfgheejaa
