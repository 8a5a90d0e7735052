/- The reference's Same (written by gen_refs.py). -/
import Derived.Test.YtechhidfgheejaaRpA
namespace Go.Proofs.Ytechhidfgheejaa
open Go.RowKit
set_option linter.unusedSimpArgs false
set_option linter.unusedVariables false
set_option maxRecDepth 100000 in
set_option maxHeartbeats 4000000 in
theorem rref_Same (a b : Rp) (A : Option Addr) (c : Nat) (B : Option Addr) (d : Nat) (A' : Option Addr) (c' : Nat) (B' : Option Addr) (d' : Nat) (w : World) (ha : RpR w a A B) (hb : RpR w b A' B') (hw : a.words.length ≤ 1000000) (hk : a.bits.length ≤ 1000000) :
    Calls Try.prog 45 #[a.v A c B d, b.v A' c' B' d'] w fun e w' => e = .returned (.bool (sameR a b)) ∧ Below w.heap.size w w' := by
  obtain ⟨a0, a1, a2, a3, a4, a5⟩ := a
  obtain ⟨b0, b1, b2, b3, b4, b5⟩ := b
  obtain ⟨haw, hab⟩ : Rd w A (ws a3) ∧ Rd w B (os a2) := ⟨ha.words, ha.bits⟩
  obtain ⟨hbw, hbb⟩ : Rd w A' (ws b3) ∧ Rd w B' (os b2) := ⟨hb.words, hb.bits⟩
  clear ha hb
  have HR : Hid (sameR ⟨a0, a1, a2, a3, a4, a5⟩ ⟨b0, b1, b2, b3, b4, b5⟩ = (decide (a0 = b0) && decide (a1 = b1) && decide (a4 = b4) && decide (a5 = b5) && sameB a3 b3 && sameO a2 b2)) := by (show _ = _); first | rfl | (simp only [sameR]; ac_rfl)
  generalize sameR ⟨a0, a1, a2, a3, a4, a5⟩ ⟨b0, b1, b2, b3, b4, b5⟩ = out at *
  unfold Rp.v rpV
  simp only at hw hk ⊢
  obtain ⟨n, hn⟩ : ∃ n, a3.length = n := ⟨_, rfl⟩
  obtain ⟨m, hm⟩ : ∃ m, a2.length = m := ⟨_, rfl⟩
  obtain ⟨n', hn'⟩ : ∃ n, b3.length = n := ⟨_, rfl⟩
  obtain ⟨m', hm'⟩ : ∃ m, b2.length = m := ⟨_, rfl⟩
  rw [hn] at hw ⊢
  rw [hm] at hk ⊢
  rw [hn', hm']
  obtain ⟨x0, hx0⟩ : ∃ b, decide (a0 = b0) = b := ⟨_, rfl⟩
  obtain ⟨x1, hx1⟩ : ∃ b, decide (a1 = b1) = b := ⟨_, rfl⟩
  obtain ⟨x4, hx4⟩ : ∃ b, decide (a4 = b4) = b := ⟨_, rfl⟩
  obtain ⟨x5, hx5⟩ : ∃ b, decide (a5 = b5) = b := ⟨_, rfl⟩
  obtain ⟨y1, hy1⟩ : ∃ b, decide (n = n') = b := ⟨_, rfl⟩
  obtain ⟨y2, hy2⟩ : ∃ b, decide (m = m') = b := ⟨_, rfl⟩
  have t0 : ((a0 : Int) != (b0 : Int)) = !x0 := by rw [bne, int_eqb, hx0]
  have t1 : ((a1 : Int) != (b1 : Int)) = !x1 := by rw [bne, int_eqb, hx1]
  have t4 : ((a4 : Int) != (b4 : Int)) = !x4 := by rw [bne, int_eqb, hx4]
  have t5 : ((a5 : Int) != (b5 : Int)) = !x5 := by rw [bne, int_eqb, hx5]
  have t6 : ((n : Int) != (n' : Int)) = !y1 := by rw [bne, int_eqb, hy1]
  have t7 : ((m : Int) != (m' : Int)) = !y2 := by rw [bne, int_eqb, hy2]
  rw [hx0, hx1, hx4, hx5] at HR
  have HY1 := Lib.hid hy1
  have HY2 := Lib.hid hy2
  have HN := Lib.hid hn
  have HM := Lib.hid hm
  have HN' := Lib.hid hn'
  have HM' := Lib.hid hm'
  clear hx0 hx1 hx4 hx5 hy1 hy2 hn hm hn' hm'
  have hb1 := ((Below.refl _ w).alloc (Nat.le_refl _) (.cells #[.int .u8 (a0 : Int), .int .u8 (a1 : Int), .slice B m d, .slice A n c, .int .u16 (a4 : Int), .int .u16 (a5 : Int)] 36)).alloc (by simp [World.size_alloc]) (.cells #[.int .u8 (b0 : Int), .int .u8 (b1 : Int), .slice B' m' d', .slice A' n' c', .int .u16 (b4 : Int), .int .u16 (b5 : Int)] 36)
  have bx := (Blk.new w 36 #[.int .u8 (a0 : Int), .int .u8 (a1 : Int), .slice B m d, .slice A n c, .int .u16 (a4 : Int), .int .u16 (a5 : Int)]).alloc (.cells #[.int .u8 (b0 : Int), .int .u8 (b1 : Int), .slice B' m' d', .slice A' n' c', .int .u16 (b4 : Int), .int .u16 (b5 : Int)] 36)
  have by_ := Blk.newAt (w.alloc (.cells #[.int .u8 (a0 : Int), .int .u8 (a1 : Int), .slice B m d, .slice A n c, .int .u16 (a4 : Int), .int .u16 (a5 : Int)] 36)) 36 #[.int .u8 (b0 : Int), .int .u8 (b1 : Int), .slice B' m' d', .slice A' n' c', .int .u16 (b4 : Int), .int .u16 (b5 : Int)] (w.heap.size + 1) (World.size_alloc _ _)
  go_enter Try.func45, Try.ntmps45
  go_upto_region 1 with fail
  generalize ((w.alloc (.cells #[.int .u8 (a0 : Int), .int .u8 (a1 : Int), .slice B m d, .slice A n c, .int .u16 (a4 : Int), .int .u16 (a5 : Int)] 36)).alloc (.cells #[.int .u8 (b0 : Int), .int .u8 (b1 : Int), .slice B' m' d', .slice A' n' c', .int .u16 (b4 : Int), .int .u16 (b5 : Int)] 36)) = w1 at *
  obtain ⟨p0, p1, p2, p3, p4, p5⟩ := bx.c6
  obtain ⟨q0, q1, q2, q3, q4, q5⟩ := by_.c6
  cases x0 with
  | false =>
    go_wp2_with fail
    go_ret
    exact ⟨ret_bool (by rw [HR.out]; simp), hb1⟩
  | true =>
  cases x1 with
  | false =>
    go_wp2_with fail
    go_ret
    exact ⟨ret_bool (by rw [HR.out]; simp), hb1⟩
  | true =>
  cases x4 with
  | false =>
    go_wp2_with fail
    go_ret
    exact ⟨ret_bool (by rw [HR.out]; simp), hb1⟩
  | true =>
  cases x5 with
  | false =>
    go_wp2_with fail
    go_ret
    exact ⟨ret_bool (by rw [HR.out]; simp), hb1⟩
  | true =>
  cases y1 with
  | false =>
    go_wp2_with fail
    go_ret
    exact ⟨ret_bool (by rw [HR.out]; have : sameB a3 b3 = false := Bool.eq_false_iff.2 (fun e => absurd HY1.out (by rw [decide_eq_true (by rw [← HN.out, ← HN'.out, sameB_iff.1 e])]; decide)); rw [this]; simp), hb1⟩
  | true =>
  cases y2 with
  | false =>
    go_wp2_with fail
    go_ret
    exact ⟨ret_bool (by rw [HR.out]; have : sameO a2 b2 = false := Bool.eq_false_iff.2 (fun e => absurd HY2.out (by rw [decide_eq_true (by rw [← HM.out, ← HM'.out, sameO_iff.1 e])]; decide)); rw [this]; simp), hb1⟩
  | true =>
  have hnn : n = n' := of_decide_eq_true HY1.out
  have hmm : m = m' := of_decide_eq_true HY2.out
  subst hnn hmm
  have HR2 : Hid (out = (sameB a3 b3 && sameO a2 b2)) := by (show _ = _); rw [HR.out]; simp
  clear HR
  go_wp2_with fail
  go_loopw [5] (fun i wr => ∃ j : Nat, j ≤ n ∧ i = .int .i64 j ∧ a3.take j = b3.take j ∧ ∃ dn, wr = w1.drewN dn) (fun i _ => n - (intOf i).toNat)
  case atStart => exact ⟨0, by omega, rfl, by simp, 0, rfl⟩
  case round =>
    clear p0 p1 p2 p3 p4 p5 q0 q1 q2 q3 q4 q5
    obtain ⟨j, hj, rfl, hsame, dn, rfl⟩ := hrel
    obtain ⟨w2, hw2⟩ : ∃ w2, w1.drewN dn = w2 := ⟨_, rfl⟩
    have hb2 := below_drewN hb1 dn
    have bx2 := bx.drewN dn
    have by2 := by_.drewN dn
    rw [hw2] at hb2 bx2 by2 ⊢
    have haw2 := haw.below hb2
    have hbw2 := hbw.below hb2
    have hab2 := hab.below hb2
    have hbb2 := hbb.below hb2
    have HW := Lib.hid hw2
    clear hw2
    obtain ⟨p0, p1, p2, p3, p4, p5⟩ := bx2.c6
    obtain ⟨q0, q1, q2, q3, q4, q5⟩ := by2.c6
    have HS := Lib.hid hsame
    clear hsame
    by_cases hlt : j < n
    · obtain ⟨e1_, o1, x, rfl, hx, cx⟩ := haw2.word (k := j) (by rw [HN.out]; exact hlt)
      obtain ⟨e2_, o2, y, rfl, hy, cy⟩ := hbw2.word (k := j) (by rw [HN'.out]; exact hlt)
      have HX := Lib.hid hx
      have HY := Lib.hid hy
      clear hx hy
      have f1 : (0 : Int) ≤ (j : Int) := by omega
      have f2 : (j : Int) < (n : Int) := by omega
      by_cases hxy : x = y
      · subst hxy
        go_wp2_with fail
        go_quiet (fail)
        go_wp2_with fail
        go_roundw
        case rel => exact ⟨j + 1, by omega, by go_num, take_next HS.out HX.out HY.out, dn + nq, by rw [← HW.out]; exact World.drewN_drewN _ _ _⟩
        case measure => simp [intOf]; omega
      · have hxy' : ((x : Int) != (y : Int)) = true := by simp; omega
        have HNE := Lib.hid hxy
        clear hxy
        go_wp2_with fail
        go_quiet (fail)
        go_wp2_with fail
        go_ret
        exact ⟨ret_bool (by rw [HR2.out]; have : sameB a3 b3 = false := Bool.eq_false_iff.2 (fun e => ne_at HX.out HY.out HNE.out (sameB_iff.1 e)); rw [this]; simp), below_drewN hb2 _⟩
    · obtain rfl : j = n := by omega
      have HSW : Hid (sameB a3 b3 = true) := by (show _ = _); have h := HS.out; rw [List.take_of_length_le (by rw [HN.out]; exact Nat.le_refl _), List.take_of_length_le (by rw [HN'.out]; exact Nat.le_refl _)] at h; exact sameB_iff.2 h
      clear hb1 bx by_
      go_wp2_with fail
      go_loopw [6] (fun i wr => ∃ k : Nat, k ≤ m ∧ i = .int .i64 k ∧ a2.take k = b2.take k ∧ ∃ dn, wr = w2.drewN dn) (fun i _ => m - (intOf i).toNat)
      case atStart => exact ⟨0, by omega, rfl, by simp, 0, rfl⟩
      case round =>
        clear p0 p1 p2 p3 p4 p5 q0 q1 q2 q3 q4 q5
        obtain ⟨k, hk2, rfl, hsame, dm, rfl⟩ := hrel
        obtain ⟨w3, hw3⟩ : ∃ w3, w2.drewN dm = w3 := ⟨_, rfl⟩
        have hb3 := below_drewN hb2 dm
        have bx3 := bx2.drewN dm
        have by3 := by2.drewN dm
        rw [hw3] at hb3 bx3 by3 ⊢
        have hab3 := hab.below hb3
        have hbb3 := hbb.below hb3
        have HW3 := Lib.hid hw3
        clear hw3
        obtain ⟨p0, p1, p2, p3, p4, p5⟩ := bx3.c6
        obtain ⟨q0, q1, q2, q3, q4, q5⟩ := by3.c6
        have HSO := Lib.hid hsame
        clear hsame
        by_cases hlt : k < m
        · obtain ⟨e1_, o1, x, rfl, hx, cx⟩ := hab3.bit (k := k) (by rw [HM.out]; exact hlt)
          obtain ⟨e2_, o2, y, rfl, hy, cy⟩ := hbb3.bit (k := k) (by rw [HM'.out]; exact hlt)
          have HX := Lib.hid hx
          have HY := Lib.hid hy
          clear hx hy
          have f1 : (0 : Int) ≤ (k : Int) := by omega
          have f2 : (k : Int) < (m : Int) := by omega
          by_cases hxy : x = y
          · subst hxy
            cases x
            all_goals
              go_wp2_with fail
              go_quiet (fail)
              go_wp2_with fail
              go_roundw
              case rel => exact ⟨k + 1, by omega, by go_num, take_next HSO.out HX.out HY.out, dm + nq, by rw [← HW3.out]; exact World.drewN_drewN _ _ _⟩
              case measure => simp [intOf]; omega
          · cases x <;> cases y <;> first | exact absurd rfl hxy | skip
            all_goals
              have HNE := Lib.hid hxy
              clear hxy
              go_wp2_with fail
              go_quiet (fail)
              go_wp2_with fail
              go_ret
              exact ⟨ret_bool (by rw [HR2.out]; have : sameO a2 b2 = false := Bool.eq_false_iff.2 (fun e => ne_at HX.out HY.out HNE.out (sameO_iff.1 e)); rw [this]; simp), below_drewN hb3 _⟩
        · obtain rfl : k = m := by omega
          have HSV : Hid (sameO a2 b2 = true) := by (show _ = _); have h := HSO.out; rw [List.take_of_length_le (by rw [HM.out]; exact Nat.le_refl _), List.take_of_length_le (by rw [HM'.out]; exact Nat.le_refl _)] at h; exact sameO_iff.2 h
          go_wp2_with fail
          go_ret
          exact ⟨ret_bool (by rw [HR2.out, HSW.out, HSV.out]; rfl), hb3⟩
end Go.Proofs.Ytechhidfgheejaa
