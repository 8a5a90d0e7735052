/- The walks of saucierref05.Parse and saucierref05.Cut. -/
import Derived.Test.YtheepgfafjinoaaRef05
import Derived.Deep.RegionLaw
namespace Go.Proofs.Ytheepgfafjinoaa
open Go.RowKit
set_option linter.unusedSimpArgs false
set_option linter.unusedVariables false

theorem longF_par {l : List Nat} (h8 : 8 ≤ l.length) : parF l = decide (longF l = (l.length : Int)) := by
  unfold parF longF hasF
  by_cases hb : begF l = true
  · rw [if_neg (by rw [hb]; simp), if_neg (by omega), hb, decide_eq_true (by omega)]
    rw [Bool.eq_iff_iff]
    simp
    omega
  · have hb' : begF l = false := by simpa using hb
    rw [if_pos hb', hb']
    simp

set_option maxHeartbeats 1000000 in
theorem r05_Parse_no (A : Option Addr) (n c : Nat) (l : List Nat) (w : World) (hA : Rd w A (bs l)) (hn : l.length = n) (hl : Bs l) (hm : n ≤ 1000000000) (hno : parF l = false) :
    Calls Try.prog 31 #[.slice A n c] w fun e w' => e = .returned (.tuple #[frV 0 0 none 0 0, .int .i64 10]) ∧ Below w.heap.size w w' := by
  have HN := Lib.hid hn
  by_cases h8 : n < 8
  · clear hn
    go_enter Try.func31, Try.ntmps31
    go_wp2_with fail
    refine bodyPost_ret (v := .tuple #[frV 0 0 none 0 0, .int .i64 10]) (by simp [results, Try.results31, go_sem, frV]) rfl ⟨rfl, ?_⟩
    exact (Below.refl _ _).alloc (Nat.le_refl _) _
  · have hlong : longF l ≠ (n : Int) := by
      rw [longF_par (by omega), hn] at hno
      simpa using hno
    obtain ⟨g, hg⟩ : ∃ g, longF l = g := ⟨_, rfl⟩
    rw [hg] at hlong
    have HG := Lib.hid hg
    have t1 : (g != (n : Int)) = true := by simpa using hlong
    clear hn hg hno hlong
    go_enter Try.func31, Try.ntmps31
    go_wp2_with fail
    refine (r05_long A n c l _ (hA.alloc _) HN.out hl hm).mono ?_
    rintro e w1 ⟨rfl, rfl⟩
    rw [HG.out]
    go_wp2_with fail
    refine bodyPost_ret (v := .tuple #[frV 0 0 none 0 0, .int .i64 10]) (by simp [results, Try.results31, go_sem, frV]) rfl ⟨rfl, ?_⟩
    exact (Below.refl _ _).alloc (Nat.le_refl _) _

set_option maxHeartbeats 2000000 in
theorem r05_Parse_yes (A : Option Addr) (n c : Nat) (l : List Nat) (w : World) (hA : Rd w A (bs l)) (hn : l.length = n) (hl : Bs l) (hm : n ≤ 1000000000) (hyes : parF l = true) :
    Calls Try.prog 31 #[.slice A n c] w fun e w' => ∃ A' c', e = .returned (.tuple #[frV (fstF l).tx (fstF l).unit A' (n - 7) c', .int .i64 0]) ∧ Ow w' w.heap.size 5 A' c' (bs (fstF l).pdu) ∧ Below w.heap.size w w' := by
  have hyes' := hyes
  unfold parF at hyes'
  simp only [Bool.and_eq_true, decide_eq_true_eq] at hyes'
  have hh := hasF_len hyes'.1
  have hlong : longF l = (n : Int) := by
    rw [longF_par (by omega), hn] at hyes
    simpa using hyes
  have h8 : 8 ≤ n := by omega
  obtain ⟨b, off, x0, rfl, hx0, c0⟩ := hA.byte (k := 0) (by omega)
  have c1 := hA.byteAt 1 (by omega)
  have c6 := hA.byteAt 6 (by omega)
  have e0 : l.getD 0 0 = x0 := by rw [List.getD_eq_getElem?_getD, hx0]; rfl
  obtain ⟨x1, e1⟩ : ∃ x1, l.getD 1 0 = x1 := ⟨_, rfl⟩
  obtain ⟨x6, e6⟩ : ∃ x6, l.getD 6 0 = x6 := ⟨_, rfl⟩
  have b0 := hl.get hx0
  have b1 := getD_lt hl 1
  rw [e1] at c1 b1
  rw [e6] at c6
  have HF : Hid (fstF l = ⟨256 * x0 + x1, x6, l.drop 7⟩) := by (show _ = _); unfold fstF; rw [e0, e1, e6, hyes'.2, List.take_of_length_le (Nat.le_refl _), Nat.mul_comm]
  have HN := Lib.hid hn
  have HL := Lib.hid hlong
  have t1 : ((n : Int) != (n : Int)) = false := by simp
  have hblk : b < w.heap.size := World.block_lt_of_cell? w _ c0
  have hdl : (l.drop 7).length = n - 7 := by rw [List.length_drop, hn]
  have HD := Lib.hid hdl
  clear hn hlong hyes hyes' hh hx0 e0 e1 e6 hdl
  go_enter Try.func31, Try.ntmps31
  go_wp2_with fail
  refine (r05_long _ n c l _ (hA.alloc _) HN.out hl hm).mono ?_
  rintro e w1 ⟨rfl, rfl⟩
  rw [HL.out]
  go_wp2_with fail
  have bx1 := Blk.new w 37 #[.int .u16 0, .int .u8 0, .slice none 0 0]
  have hb1 := (Below.refl _ w).alloc (Nat.le_refl _) (.cells #[.int .u16 0, .int .u8 0, .slice none 0 0] 37)
  have hs1 : (w.alloc (.cells #[.int .u16 0, .int .u8 0, .slice none 0 0] 37)).heap.size = w.heap.size + 1 := by simp
  have hA1 := hA.alloc (.cells #[.int .u16 0, .int .u8 0, .slice none 0 0] 37)
  generalize w.alloc (.cells #[.int .u16 0, .int .u8 0, .slice none 0 0] 37) = w1 at *
  have k0 := (hb1.cell (p := ⟨b, off, none⟩) hblk).trans c0
  have k1 := (hb1.cell (p := ⟨b, off + 1, none⟩) hblk).trans c1
  have k6 := (hb1.cell (p := ⟨b, off + 6, none⟩) hblk).trans c6
  have g1 : IntKind.u16.wrap (x0 : Int) = (x0 : Int) := by rw [IntKind.wrap_u16]; omega
  have g2 : IntKind.u16.wrap (x1 : Int) = (x1 : Int) := by rw [IntKind.wrap_u16]; omega
  have g3 : IntKind.u16.wrap (256 * (x0 : Int)) = 256 * (x0 : Int) := by rw [IntKind.wrap_u16]; omega
  have g4 : IntKind.u16.wrap (256 * (x0 : Int) + (x1 : Int)) = 256 * (x0 : Int) + (x1 : Int) := by rw [IntKind.wrap_u16]; omega
  have f1 : (1 : Int) < (n : Int) := by omega
  have f0 : (0 : Int) < (n : Int) := by omega
  have f6 : (6 : Int) < (n : Int) := by omega
  have hn0 : 0 < n := by omega
  have hbl1 : b < w1.heap.size := by omega
  have n0 := World.new_ne w1 ⟨b, off, none⟩ k0
  have n1 := World.new_ne w1 ⟨b, off + 1, none⟩ k1
  have n6 := World.new_ne w1 ⟨b, off + 6, none⟩ k6
  go_region_held3 (fun w' => w'.cell? ⟨b, off, none⟩ = some (.int .u8 (x0 : Int)) ∧ w'.cell? ⟨b, off + 1, none⟩ = some (.int .u8 (x1 : Int)) ∧ w'.cell? ⟨b, off + 6, none⟩ = some (.int .u8 (x6 : Int))) (go_keep) (fail)
  have hsum : 256 * (x0 : Int) + (x1 : Int) = ((256 * x0 + x1 : Nat) : Int) := by omega
  rw [hsum]
  obtain ⟨tx, htx⟩ : ∃ tx, 256 * x0 + x1 = tx := ⟨_, rfl⟩
  rw [htx]
  have HTX := Lib.hid htx
  clear g1 g2 g3 g4 f0 f1 f6 n0 n1 n6 k0 k1 k6 c0 c1 c6 htx hsum
  have bx2 := (bx1.alloc (.cells #[.int .u16 (tx : Int), .int .u8 (x6 : Int), .slice none 0 0] 37)).drew
  have by2 := (Blk.newAt w1 37 #[.int .u16 (tx : Int), .int .u8 (x6 : Int), .slice none 0 0] _ hs1).drew
  have hb2 := (hb1.alloc hb1.size (.cells #[.int .u16 (tx : Int), .int .u8 (x6 : Int), .slice none 0 0] 37)).drew
  generalize (w1.alloc (.cells #[.int .u16 (tx : Int), .int .u8 (x6 : Int), .slice none 0 0] 37)).drew = w2 at *
  go_wp2_with fail
  have HS1 := Lib.hid hs1
  clear hs1 hA1 bx1
  go_loopw [5] (fun i wr => ∃ j : Nat, 7 + j ≤ n ∧ i = .int .i64 ((7 + j : Nat) : Int) ∧ Below w.heap.size w wr ∧ Blk wr w.heap.size 37 #[.int .u16 0, .int .u8 0, .slice none 0 0] ∧ ∃ A4 c4, Blk wr (w.heap.size + 1) 37 #[.int .u16 (tx : Int), .int .u8 (x6 : Int), .slice A4 j c4] ∧ Ow wr w.heap.size 5 A4 c4 (bs ((l.drop 7).take j))) (fun i _ => n - (intOf i).toNat)
  case atStart => exact ⟨0, by omega, rfl, hb2, bx2, none, 0, by2, Ow.nil⟩
  case round =>
    obtain ⟨j, hj, rfl, hbr, bxr, A4, c4, byr, ho4⟩ := hrel
    obtain ⟨d0, d1, d2⟩ := byr.c3
    have q0 := byr.frozen 0
    have q1 := byr.frozen 1
    have q2 := byr.frozen 2
    by_cases hlt : 7 + j < n
    · obtain ⟨b', off', x, hA', hx, hcell⟩ := (hA.below hbr).byte (k := 7 + j) (by rw [HN.out]; exact hlt)
      injection hA' with hA'
      injection hA' with e1 e2
      subst e1 e2
      have hx' : (l.drop 7)[j]? = some x := by rw [List.getElem?_drop]; exact hx
      have HT := Lib.hid (take_snoc hx')
      have HL : Hid (((l.drop 7).take j).length = j) := by (show _ = _); rw [List.length_take, HD.out]; omega
      have HX : Hid (bs [x] = [.int .u8 (x : Int)]) := rfl
      clear hx hx'
      have j0 : (0 : Int) ≤ 7 + (j : Int) := by omega
      have j1 : 7 + (j : Int) < (n : Int) := by omega
      have j2 : (7 + (j : Int)).toNat = 7 + j := by omega
      go_wp2_with fail
      obtain ⟨a0, a1, a2⟩ := (byr.alloc (.cells #[.int .u8 (x : Int)] 5)).c3
      go_region_law ((refine sapp_b rfl _ _ rfl w (hbr.drew.alloc hbr.size _) A4 j c4 _ rfl (ho4.drew.alloc _) HL.out _ 1 1 [x] rfl (Rd.lit _ _ _ HX.out) rfl (by omega) ?_; intro A7 c7 w7 ho7 hb7 hg7; have by7 := byr.drew.pass ho4.drew (by decide) hg7; have bx7 := bxr.drew.pass ho4.drew (by decide) hg7; obtain ⟨e0, e1, e2⟩ := by7.c3; have p2 := by7.frozen 2))
      all_goals
        clear a0 a1 a2 e0 e1 e2 p2 j2
        go_wp2_with fail
        go_roundw
        case rel =>
          refine ⟨j + 1, by omega, by go_num, hb7.setCell (p := ⟨w.heap.size + 1, 2, none⟩) (Nat.le_succ _) _, bx7.far (p := ⟨w.heap.size + 1, 2, none⟩) (by simp) _, A7, c7, by7.set_ 2 _, ?_⟩
          rw [HT.out]
          exact ho7.setBlk by7 (by decide) 2 _
        case measure => simp [intOf]; omega
    · obtain rfl : n = 7 + j := by omega
      obtain ⟨z0, z1, z2⟩ := bxr.c3
      have r0 := bxr.frozen 0
      have r1 := bxr.frozen 1
      have r2 := bxr.frozen 2
      go_wp2_with fail
      have eT : (fstF l).tx = tx := by rw [HF.out]; exact HTX.out
      have eU : (fstF l).unit = x6 := by rw [HF.out]
      have eP : (fstF l).pdu = l.drop 7 := by rw [HF.out]
      rw [eT, eU, eP, show 7 + j - 7 = j by omega]
      refine bodyPost_ret (v := .tuple #[frV tx x6 A4 j c4, .int .i64 0]) (by simp [results, Try.results31, go_sem, frV, z0, z1, z2]) rfl ⟨A4, c4, rfl, ?_, ?_⟩
      · rw [List.take_of_length_le (by rw [HD.out]; omega)] at ho4
        exact ho4.set3 bxr (by decide) _ _ _
      · exact bset3 hbr (Nat.le_refl _) _ _ _
end Go.Proofs.Ytheepgfafjinoaa
