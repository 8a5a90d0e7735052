/- The walks of the reference's frames (saucierref05): Right, Pack, long. -/
import Derived.Test.YtheepgfafjinoaaMbapE
namespace Go.Proofs.Ytheepgfafjinoaa
open Go.RowKit
set_option linter.unusedSimpArgs false
set_option linter.unusedVariables false

set_option maxHeartbeats 1000000 in
theorem r05_Right (f : Fr) (A : Option Addr) (n c : Nat) (w : World) (hn : f.pdu.length = n) (hm : n ≤ 1000000000) :
    Calls Try.prog 27 #[frV f.tx f.unit A n c] w fun e w' => e = .returned (.bool f.right) ∧ Below w.heap.size w w' := by
  have HR : Hid (f.right = decide (1 ≤ n ∧ n ≤ 253)) := by (show _ = _); unfold Fr.right; rw [hn]
  clear hn
  unfold frV
  by_cases h1 : 1 ≤ n
  · by_cases h2 : n ≤ 253
    · have HT : Hid (f.right = true) := by (show _ = _); rw [HR.out]; simp; omega
      have t1 : decide ((1 : Int) ≤ (n : Int)) = true := by simp; omega
      have t2 : decide ((n : Int) ≤ 253) = true := by simp; omega
      go_enter Try.func27, Try.ntmps27
      go_wp2_with fail
      go_ret
      exact ⟨ret_bool (by rw [HT.out]), (Below.refl _ _).alloc (Nat.le_refl _) _⟩
    · have HT : Hid (f.right = false) := by (show _ = _); rw [HR.out]; simp; omega
      have t1 : decide ((1 : Int) ≤ (n : Int)) = true := by simp; omega
      have t2 : decide ((n : Int) ≤ 253) = false := by simp; omega
      go_enter Try.func27, Try.ntmps27
      go_wp2_with fail
      go_ret
      exact ⟨ret_bool (by rw [HT.out]), (Below.refl _ _).alloc (Nat.le_refl _) _⟩
  · have HT : Hid (f.right = false) := by (show _ = _); rw [HR.out]; simp; omega
    have t1 : decide ((1 : Int) ≤ (n : Int)) = false := by simp; omega
    go_enter Try.func27, Try.ntmps27
    go_wp2_with fail
    go_ret
    exact ⟨ret_bool (by rw [HT.out]), (Below.refl _ _).alloc (Nat.le_refl _) _⟩

set_option maxHeartbeats 1000000 in
theorem r05_Pack (f : Fr) (A : Option Addr) (n c : Nat) (w : World) (hA : Rd w A (bs f.pdu)) (hn : f.pdu.length = n) (hok : f.ok) (hri : f.right = true) :
    Calls Try.prog 29 #[frV f.tx f.unit A n c] w fun e w' => ∃ A' c', e = .returned (.slice A' (7 + n) c') ∧ Ow w' w.heap.size 5 A' c' (bs (packF f)) ∧ Below w.heap.size w w' := by
  have hr : 1 ≤ n ∧ n ≤ 253 := by
    simp only [Fr.right, decide_eq_true_eq] at hri
    omega
  obtain ⟨hr1, hr2⟩ := hr
  obtain ⟨ht, hu, hp⟩ := hok
  obtain ⟨tx, un, pdu⟩ := f
  simp only at hA hn ht hu hp
  have HN := Lib.hid hn
  have HB : Hid (bs [tx / 256, tx % 256, 0, 0, 0, n + 1, un] = [.int .u8 ((tx : Int) / 256), .int .u8 ((tx : Int) % 256), .int .u8 0, .int .u8 0, .int .u8 0, .int .u8 ((n : Int) + 1), .int .u8 (un : Int)]) := by (show _ = _); simp [bs]
  clear hn hri
  unfold frV
  have hb1 := (Below.refl _ w).alloc (Nat.le_refl _) (.cells #[.int .u16 (tx : Int), .int .u8 (un : Int), .slice A n c] 37)
  have bx := Blk.new w 37 #[.int .u16 (tx : Int), .int .u8 (un : Int), .slice A n c]
  have g1 : ((n : Int) + 1) / 256 = 0 := by omega
  have g2 : ((n : Int) + 1) % 256 = (n : Int) + 1 := by omega
  go_enter Try.func29, Try.ntmps29
  go_wp2_with fail
  have hb2 := hb1.alloc hb1.size (.cells #[.int .u8 ((tx : Int) / 256), .int .u8 ((tx : Int) % 256), .int .u8 0, .int .u8 0, .int .u8 0, .int .u8 ((n : Int) + 1), .int .u8 (un : Int)] 5)
  have bx2 := bx.alloc (.cells #[.int .u8 ((tx : Int) / 256), .int .u8 ((tx : Int) % 256), .int .u8 0, .int .u8 0, .int .u8 0, .int .u8 ((n : Int) + 1), .int .u8 (un : Int)] 5)
  have ho2 := Ow.lit (w.alloc (.cells #[.int .u16 (tx : Int), .int .u8 (un : Int), .slice A n c] 37)) w.heap.size 5 _ hb1.size (by simp [maxLen]) HB.out rfl
  rw [World.size_alloc] at ho2
  have hw2 : w.heap.size < ((w.alloc (.cells #[.int .u16 (tx : Int), .int .u8 (un : Int), .slice A n c] 37)).alloc (.cells #[.int .u8 ((tx : Int) / 256), .int .u8 ((tx : Int) % 256), .int .u8 0, .int .u8 0, .int .u8 0, .int .u8 ((n : Int) + 1), .int .u8 (un : Int)] 5)).heap.size := by simp; omega
  clear g1 g2
  have ho2' : Ow ((w.alloc (.cells #[.int .u16 (tx : Int), .int .u8 (un : Int), .slice A n c] 37)).alloc (.cells #[.int .u8 ((tx : Int) / 256), .int .u8 ((tx : Int) % 256), .int .u8 0, .int .u8 0, .int .u8 0, .int .u8 ((n : Int) + 1), .int .u8 (un : Int)] 5)) w.heap.size 5 (some ⟨w.heap.size + 1, 0, none⟩) 7 (bs [tx / 256, tx % 256, 0, 0, 0, n + 1, un]) := ho2
  clear ho2 hb1 bx
  generalize (w.alloc (.cells #[.int .u16 (tx : Int), .int .u8 (un : Int), .slice A n c] 37)).alloc (.cells #[.int .u8 ((tx : Int) / 256), .int .u8 ((tx : Int) % 256), .int .u8 0, .int .u8 0, .int .u8 0, .int .u8 ((n : Int) + 1), .int .u8 (un : Int)] 5) = w2 at *
  go_loopw [4, 5] (fun v i wr => ∃ j : Nat, j ≤ n ∧ i = .int .i64 j ∧ Below w.heap.size w wr ∧ Blk wr w.heap.size 37 #[.int .u16 (tx : Int), .int .u8 (un : Int), .slice A n c] ∧ ∃ A4 c4, v = .slice A4 (7 + j) c4 ∧ Ow wr w.heap.size 5 A4 c4 (bs ([tx / 256, tx % 256, 0, 0, 0, n + 1, un] ++ pdu.take j))) (fun _ i _ => n - (intOf i).toNat)
  case atStart => exact ⟨0, by omega, rfl, hb2, bx2, _, _, rfl, by simpa using ho2'⟩
  case round =>
    obtain ⟨j, hj, rfl, hbr, bxr, A4, c4, rfl, ho4⟩ := hrel
    obtain ⟨d0, d1, d2⟩ := bxr.c3
    by_cases hlt : j < n
    · obtain ⟨b, off, x, rfl, hx, hcell⟩ := (hA.below hbr).byte (k := j) (by rw [HN.out]; exact hlt)
      have HT := Lib.hid (take_snoc hx)
      have HL : Hid (([tx / 256, tx % 256, 0, 0, 0, n + 1, un] ++ pdu.take j).length = 7 + j) := by (show _ = _); simp; rw [HN.out]; omega
      have HX : Hid (bs [x] = [.int .u8 (x : Int)]) := rfl
      clear hx
      go_wp2_with (at_builtin; refine app_b rfl _ _ rfl w (hbr.alloc hbr.size _) _ _ _ _ rfl (ho4.alloc _) HL.out _ 1 1 [x] rfl (Rd.lit _ _ _ HX.out) rfl (by omega) ?_)
      intro A7 c7 w7 ho7 hb7 hg7
      have bx7 := bxr.pass ho4 (by decide) hg7
      go_wp2_with fail
      go_roundw
      case rel => exact ⟨j + 1, by omega, by go_num, hb7, bx7, A7, c7, rfl, by rw [HT.out, ← List.append_assoc]; exact ho7⟩
      case measure => simp [intOf]; omega
    · obtain rfl : j = n := by omega
      go_wp2_with fail
      go_ret
      refine ⟨A4, c4, rfl, ?_, hbr⟩
      rw [List.take_of_length_le (by rw [HN.out]; exact Nat.le_refl _)] at ho4
      unfold packF
      rw [HN.out]
      exact ho4

/-- how many bytes the frame has that bytes begin -/
def longF (l : List Nat) : Int := if begF l = false then -1 else if l.length < 6 then 0 else (lenF l : Int)
theorem longF_bad {l : List Nat} {j : Nat} (h : okAt l j = false) (h1 : 2 ≤ j) (h2 : j < 6) : longF l = -1 := by
  unfold longF; rw [if_pos (begF_bad h h1 h2)]
theorem longF_short {l : List Nat} {j : Nat} (h : okTo l j) (hj : l.length ≤ j) (h6 : l.length < 6) : longF l = 0 := by
  unfold longF; rw [if_neg (by rw [h.beg (.inr hj)]; simp), if_pos h6]
theorem longF_long {l : List Nat} {x : Nat} (h : okTo l 6) (h6 : ¬ l.length < 6) (hx : l[5]? = some x) : longF l = 6 + (x : Int) := by
  unfold longF; rw [if_neg (by rw [h.beg (.inl (Nat.le_refl _))]; simp), if_neg h6]
  unfold lenF
  rw [List.getD_eq_getElem?_getD, hx]
  simp
theorem okAt_zero {l : List Nat} {j x : Nat} (h : l[j]? = some x) (h5 : j ≠ 5) : okAt l j = decide (x = 0) := by
  unfold okAt; rw [h]; simp [h5]
theorem okAt_five {l : List Nat} {x : Nat} (h : l[5]? = some x) : okAt l 5 = decide (2 ≤ x ∧ x ≤ 254) := by
  unfold okAt; rw [h]; simp

set_option maxHeartbeats 1000000 in
theorem r05_long (A : Option Addr) (n c : Nat) (l : List Nat) (w : World) (hA : Rd w A (bs l)) (hn : l.length = n) (hl : Bs l) (hm : n ≤ 1000000000) :
    Calls Try.prog 50 #[.slice A n c] w fun e w' => e = .returned (.int .i64 (longF l)) ∧ w = w' := by
  have HN := Lib.hid hn
  clear hn
  go_enter Try.func50, Try.ntmps50
  go_wp2_with fail
  go_loop [3] (fun i => ∃ j : Nat, 2 ≤ j ∧ j ≤ 4 ∧ i = .int .i64 j ∧ okTo l j) (fun i => 4 - (intOf i).toNat)
  case atStart => exact ⟨2, by omega, by omega, rfl, okTo.zero l⟩
  case round =>
    obtain ⟨j, hj2, hj4, rfl, hok⟩ := hrel
    by_cases h4 : j < 4
    · by_cases hjn : j < n
      · obtain ⟨b, off, x, rfl, hx, hcell⟩ := hA.byte (k := j) (by rw [HN.out]; exact hjn)
        have hxb := hl.get hx
        have HO := Lib.hid (okAt_zero hx (by omega))
        clear hx
        by_cases hx0 : x = 0
        · have HY : Hid (okAt l j = true) := by (show _ = _); rw [HO.out]; simp [hx0]
          have t1 : ((x : Int) != 0) = false := by simp [hx0]
          clear hx0
          go_wp2_with fail
          go_round
          case rel => exact ⟨j + 1, by omega, by omega, by go_num, hok.succ HY.out⟩
          case measure => simp [intOf]; omega
        · have HY : Hid (okAt l j = false) := by (show _ = _); rw [HO.out]; simp [hx0]
          have t1 : ((x : Int) != 0) = true := by simp; omega
          clear hx0
          go_wp2_with fail
          go_ret
          exact ⟨ret_int (longF_bad HY.out hj2 (by omega)).symm, rfl⟩
      · -- the bytes are over
        have t1 : decide ((4 : Int) < (n : Int)) = false := by simp; omega
        have t2 : decide ((n : Int) < 6) = true := by simp; omega
        go_wp2_with fail
        go_ret
        exact ⟨ret_int (longF_short hok (by rw [HN.out]; omega) (by rw [HN.out]; omega)).symm, rfl⟩
    · obtain rfl : j = 4 := by omega
      by_cases hn4 : n ≤ 4
      · have t1 : decide ((4 : Int) < (n : Int)) = false := by simp; omega
        have t2 : decide ((n : Int) < 6) = true := by simp; omega
        go_wp2_with fail
        go_ret
        exact ⟨ret_int (longF_short hok (by rw [HN.out]; omega) (by rw [HN.out]; omega)).symm, rfl⟩
      · have t1 : decide ((4 : Int) < (n : Int)) = true := by simp; omega
        obtain ⟨b, off, x, rfl, hx, hcell⟩ := hA.byte (k := 4) (by rw [HN.out]; omega)
        have hxb := hl.get hx
        have HO := Lib.hid (okAt_zero hx (by omega))
        clear hx
        by_cases hx0 : x = 0
        · have HY : Hid (okTo l 5) := hok.succ (by rw [HO.out]; simp [hx0])
          have u1 : ((x : Int) != 0) = false := by simp [hx0]
          clear hx0
          by_cases hn6 : n < 6
          · have t2 : decide ((n : Int) < 6) = true := by simp; omega
            go_wp2_with fail
            go_ret
            exact ⟨ret_int (longF_short HY.out (by rw [HN.out]; omega) (by rw [HN.out]; omega)).symm, rfl⟩
          · have t2 : decide ((n : Int) < 6) = false := by simp; omega
            obtain ⟨b', off', y, hA', hy, hcell5⟩ := hA.byte (k := 5) (by rw [HN.out]; omega)
            injection hA' with hA'
            injection hA' with e1 e2
            subst e1 e2
            have hyb := hl.get hy
            have HF := Lib.hid (okAt_five hy)
            have HG := Lib.hid hy
            clear hy
            by_cases hlo : y < 2
            · have HZ : Hid (okAt l 5 = false) := by (show _ = _); rw [HF.out]; simp; omega
              go_wp2_with fail
              go_ret
              exact ⟨ret_int (longF_bad HZ.out (by omega) (by omega)).symm, rfl⟩
            · by_cases hhi : 254 < y
              · have HZ : Hid (okAt l 5 = false) := by (show _ = _); rw [HF.out]; simp; omega
                go_wp2_with fail
                go_ret
                exact ⟨ret_int (longF_bad HZ.out (by omega) (by omega)).symm, rfl⟩
              · have HZ : Hid (okTo l 6) := HY.out.succ (by rw [HF.out]; simp; omega)
                go_wp2_with fail
                go_ret
                exact ⟨ret_int (longF_long HZ.out (by rw [HN.out]; omega) HG.out).symm, rfl⟩
        · have HY : Hid (okAt l 4 = false) := by (show _ = _); rw [HO.out]; simp [hx0]
          have u1 : ((x : Int) != 0) = true := by simp; omega
          clear hx0
          go_wp2_with fail
          go_ret
          exact ⟨ret_int (longF_bad HY.out (by omega) (by omega)).symm, rfl⟩
end Go.Proofs.Ytheepgfafjinoaa
