/- The walk of the law RtuTells (written by gen_rtutells.py). With: The reference's Same (written by gen_refs.py). -/
import Derived.Test.YtechhidfgheejaaRpA
import Derived.Test.YtechhidfgheejaaRefH
import Derived.Test.YtechhidfgheejaaLowB
import Derived.Deep.DeepCutAuto
namespace Go.Proofs.Ytechhidfgheejaa
open Go.RowKit
set_option linter.unusedSimpArgs false
set_option linter.unusedVariables false
set_option maxRecDepth 100000 in
set_option maxHeartbeats 4000000 in
theorem rref_Same (a b : Rp) (A : Option Addr) (c : Nat) (B : Option Addr) (d : Nat) (A' : Option Addr) (c' : Nat) (B' : Option Addr) (d' : Nat) (w : World) (ha : RpR w a A B) (hb : RpR w b A' B') (hw : a.words.length ≤ 1000000) (hk : a.bits.length ≤ 1000000) :
    Calls Try.prog 45 #[a.v A c B d, b.v A' c' B' d'] w fun e w' => e = .returned (.bool (sameR a b)) ∧ Below w.heap.size w w' := by
  obtain ⟨a0, a1, a2, a3, a4, a5⟩ := a
  obtain ⟨b0, b1, b2, b3, b4, b5⟩ := b
  obtain ⟨haw, hab⟩ : Rd w A (ws a3) ∧ Rd w B (os a2) := ⟨ha.words, ha.bits⟩
  obtain ⟨hbw, hbb⟩ : Rd w A' (ws b3) ∧ Rd w B' (os b2) := ⟨hb.words, hb.bits⟩
  clear ha hb
  have HR : Hid (sameR ⟨a0, a1, a2, a3, a4, a5⟩ ⟨b0, b1, b2, b3, b4, b5⟩ = (decide (a0 = b0) && decide (a1 = b1) && decide (a4 = b4) && decide (a5 = b5) && sameB a3 b3 && sameO a2 b2)) := by (show _ = _); first | rfl | (simp only [sameR]; ac_rfl)
  generalize sameR ⟨a0, a1, a2, a3, a4, a5⟩ ⟨b0, b1, b2, b3, b4, b5⟩ = out at *
  unfold Rp.v rpV
  simp only at hw hk ⊢
  obtain ⟨n, hn⟩ : ∃ n, a3.length = n := ⟨_, rfl⟩
  obtain ⟨m, hm⟩ : ∃ m, a2.length = m := ⟨_, rfl⟩
  obtain ⟨n', hn'⟩ : ∃ n, b3.length = n := ⟨_, rfl⟩
  obtain ⟨m', hm'⟩ : ∃ m, b2.length = m := ⟨_, rfl⟩
  rw [hn] at hw ⊢
  rw [hm] at hk ⊢
  rw [hn', hm']
  obtain ⟨x0, hx0⟩ : ∃ b, decide (a0 = b0) = b := ⟨_, rfl⟩
  obtain ⟨x1, hx1⟩ : ∃ b, decide (a1 = b1) = b := ⟨_, rfl⟩
  obtain ⟨x4, hx4⟩ : ∃ b, decide (a4 = b4) = b := ⟨_, rfl⟩
  obtain ⟨x5, hx5⟩ : ∃ b, decide (a5 = b5) = b := ⟨_, rfl⟩
  obtain ⟨y1, hy1⟩ : ∃ b, decide (n = n') = b := ⟨_, rfl⟩
  obtain ⟨y2, hy2⟩ : ∃ b, decide (m = m') = b := ⟨_, rfl⟩
  have t0 : ((a0 : Int) != (b0 : Int)) = !x0 := by rw [bne, int_eqb, hx0]
  have t1 : ((a1 : Int) != (b1 : Int)) = !x1 := by rw [bne, int_eqb, hx1]
  have t4 : ((a4 : Int) != (b4 : Int)) = !x4 := by rw [bne, int_eqb, hx4]
  have t5 : ((a5 : Int) != (b5 : Int)) = !x5 := by rw [bne, int_eqb, hx5]
  have t6 : ((n : Int) != (n' : Int)) = !y1 := by rw [bne, int_eqb, hy1]
  have t7 : ((m : Int) != (m' : Int)) = !y2 := by rw [bne, int_eqb, hy2]
  rw [hx0, hx1, hx4, hx5] at HR
  have HY1 := Lib.hid hy1
  have HY2 := Lib.hid hy2
  have HN := Lib.hid hn
  have HM := Lib.hid hm
  have HN' := Lib.hid hn'
  have HM' := Lib.hid hm'
  clear hx0 hx1 hx4 hx5 hy1 hy2 hn hm hn' hm'
  have hb1 := ((Below.refl _ w).alloc (Nat.le_refl _) (.cells #[.int .u8 (a0 : Int), .int .u8 (a1 : Int), .slice B m d, .slice A n c, .int .u16 (a4 : Int), .int .u16 (a5 : Int)] 36)).alloc (by simp [World.size_alloc]) (.cells #[.int .u8 (b0 : Int), .int .u8 (b1 : Int), .slice B' m' d', .slice A' n' c', .int .u16 (b4 : Int), .int .u16 (b5 : Int)] 36)
  have bx := (Blk.new w 36 #[.int .u8 (a0 : Int), .int .u8 (a1 : Int), .slice B m d, .slice A n c, .int .u16 (a4 : Int), .int .u16 (a5 : Int)]).alloc (.cells #[.int .u8 (b0 : Int), .int .u8 (b1 : Int), .slice B' m' d', .slice A' n' c', .int .u16 (b4 : Int), .int .u16 (b5 : Int)] 36)
  have by_ := Blk.newAt (w.alloc (.cells #[.int .u8 (a0 : Int), .int .u8 (a1 : Int), .slice B m d, .slice A n c, .int .u16 (a4 : Int), .int .u16 (a5 : Int)] 36)) 36 #[.int .u8 (b0 : Int), .int .u8 (b1 : Int), .slice B' m' d', .slice A' n' c', .int .u16 (b4 : Int), .int .u16 (b5 : Int)] (w.heap.size + 1) (World.size_alloc _ _)
  go_enter Try.func45, Try.ntmps45
  go_upto_region 1 with fail
  generalize ((w.alloc (.cells #[.int .u8 (a0 : Int), .int .u8 (a1 : Int), .slice B m d, .slice A n c, .int .u16 (a4 : Int), .int .u16 (a5 : Int)] 36)).alloc (.cells #[.int .u8 (b0 : Int), .int .u8 (b1 : Int), .slice B' m' d', .slice A' n' c', .int .u16 (b4 : Int), .int .u16 (b5 : Int)] 36)) = w1 at *
  obtain ⟨p0, p1, p2, p3, p4, p5⟩ := bx.c6
  obtain ⟨q0, q1, q2, q3, q4, q5⟩ := by_.c6
  cases x0 with
  | false =>
    go_wp2_with fail
    go_ret
    exact ⟨ret_bool (by rw [HR.out]; simp), hb1⟩
  | true =>
  cases x1 with
  | false =>
    go_wp2_with fail
    go_ret
    exact ⟨ret_bool (by rw [HR.out]; simp), hb1⟩
  | true =>
  cases x4 with
  | false =>
    go_wp2_with fail
    go_ret
    exact ⟨ret_bool (by rw [HR.out]; simp), hb1⟩
  | true =>
  cases x5 with
  | false =>
    go_wp2_with fail
    go_ret
    exact ⟨ret_bool (by rw [HR.out]; simp), hb1⟩
  | true =>
  cases y1 with
  | false =>
    go_wp2_with fail
    go_ret
    exact ⟨ret_bool (by rw [HR.out]; have : sameB a3 b3 = false := Bool.eq_false_iff.2 (fun e => absurd HY1.out (by rw [decide_eq_true (by rw [← HN.out, ← HN'.out, sameB_iff.1 e])]; decide)); rw [this]; simp), hb1⟩
  | true =>
  cases y2 with
  | false =>
    go_wp2_with fail
    go_ret
    exact ⟨ret_bool (by rw [HR.out]; have : sameO a2 b2 = false := Bool.eq_false_iff.2 (fun e => absurd HY2.out (by rw [decide_eq_true (by rw [← HM.out, ← HM'.out, sameO_iff.1 e])]; decide)); rw [this]; simp), hb1⟩
  | true =>
  have hnn : n = n' := of_decide_eq_true HY1.out
  have hmm : m = m' := of_decide_eq_true HY2.out
  subst hnn hmm
  have HR2 : Hid (out = (sameB a3 b3 && sameO a2 b2)) := by (show _ = _); rw [HR.out]; simp
  clear HR
  go_wp2_with fail
  go_loopw [5] (fun i wr => ∃ j : Nat, j ≤ n ∧ i = .int .i64 j ∧ a3.take j = b3.take j ∧ ∃ dn, wr = w1.drewN dn) (fun i _ => n - (intOf i).toNat)
  case atStart => exact ⟨0, by omega, rfl, by simp, 0, rfl⟩
  case round =>
    clear p0 p1 p2 p3 p4 p5 q0 q1 q2 q3 q4 q5
    obtain ⟨j, hj, rfl, hsame, dn, rfl⟩ := hrel
    obtain ⟨w2, hw2⟩ : ∃ w2, w1.drewN dn = w2 := ⟨_, rfl⟩
    have hb2 := below_drewN hb1 dn
    have bx2 := bx.drewN dn
    have by2 := by_.drewN dn
    rw [hw2] at hb2 bx2 by2 ⊢
    have haw2 := haw.below hb2
    have hbw2 := hbw.below hb2
    have hab2 := hab.below hb2
    have hbb2 := hbb.below hb2
    have HW := Lib.hid hw2
    clear hw2
    obtain ⟨p0, p1, p2, p3, p4, p5⟩ := bx2.c6
    obtain ⟨q0, q1, q2, q3, q4, q5⟩ := by2.c6
    have HS := Lib.hid hsame
    clear hsame
    by_cases hlt : j < n
    · obtain ⟨e1_, o1, x, rfl, hx, cx⟩ := haw2.word (k := j) (by rw [HN.out]; exact hlt)
      obtain ⟨e2_, o2, y, rfl, hy, cy⟩ := hbw2.word (k := j) (by rw [HN'.out]; exact hlt)
      have HX := Lib.hid hx
      have HY := Lib.hid hy
      clear hx hy
      have f1 : (0 : Int) ≤ (j : Int) := by omega
      have f2 : (j : Int) < (n : Int) := by omega
      by_cases hxy : x = y
      · subst hxy
        go_wp2_with fail
        go_quiet (fail)
        go_wp2_with fail
        go_roundw
        case rel => exact ⟨j + 1, by omega, by go_num, take_next HS.out HX.out HY.out, dn + nq, by rw [← HW.out]; exact World.drewN_drewN _ _ _⟩
        case measure => simp [intOf]; omega
      · have hxy' : ((x : Int) != (y : Int)) = true := by simp; omega
        have HNE := Lib.hid hxy
        clear hxy
        go_wp2_with fail
        go_quiet (fail)
        go_wp2_with fail
        go_ret
        exact ⟨ret_bool (by rw [HR2.out]; have : sameB a3 b3 = false := Bool.eq_false_iff.2 (fun e => ne_at HX.out HY.out HNE.out (sameB_iff.1 e)); rw [this]; simp), below_drewN hb2 _⟩
    · obtain rfl : j = n := by omega
      have HSW : Hid (sameB a3 b3 = true) := by (show _ = _); have h := HS.out; rw [List.take_of_length_le (by rw [HN.out]; exact Nat.le_refl _), List.take_of_length_le (by rw [HN'.out]; exact Nat.le_refl _)] at h; exact sameB_iff.2 h
      clear hb1 bx by_
      go_wp2_with fail
      go_loopw [6] (fun i wr => ∃ k : Nat, k ≤ m ∧ i = .int .i64 k ∧ a2.take k = b2.take k ∧ ∃ dn, wr = w2.drewN dn) (fun i _ => m - (intOf i).toNat)
      case atStart => exact ⟨0, by omega, rfl, by simp, 0, rfl⟩
      case round =>
        clear p0 p1 p2 p3 p4 p5 q0 q1 q2 q3 q4 q5
        obtain ⟨k, hk2, rfl, hsame, dm, rfl⟩ := hrel
        obtain ⟨w3, hw3⟩ : ∃ w3, w2.drewN dm = w3 := ⟨_, rfl⟩
        have hb3 := below_drewN hb2 dm
        have bx3 := bx2.drewN dm
        have by3 := by2.drewN dm
        rw [hw3] at hb3 bx3 by3 ⊢
        have hab3 := hab.below hb3
        have hbb3 := hbb.below hb3
        have HW3 := Lib.hid hw3
        clear hw3
        obtain ⟨p0, p1, p2, p3, p4, p5⟩ := bx3.c6
        obtain ⟨q0, q1, q2, q3, q4, q5⟩ := by3.c6
        have HSO := Lib.hid hsame
        clear hsame
        by_cases hlt : k < m
        · obtain ⟨e1_, o1, x, rfl, hx, cx⟩ := hab3.bit (k := k) (by rw [HM.out]; exact hlt)
          obtain ⟨e2_, o2, y, rfl, hy, cy⟩ := hbb3.bit (k := k) (by rw [HM'.out]; exact hlt)
          have HX := Lib.hid hx
          have HY := Lib.hid hy
          clear hx hy
          have f1 : (0 : Int) ≤ (k : Int) := by omega
          have f2 : (k : Int) < (m : Int) := by omega
          by_cases hxy : x = y
          · subst hxy
            cases x
            all_goals
              go_wp2_with fail
              go_quiet (fail)
              go_wp2_with fail
              go_roundw
              case rel => exact ⟨k + 1, by omega, by go_num, take_next HSO.out HX.out HY.out, dm + nq, by rw [← HW3.out]; exact World.drewN_drewN _ _ _⟩
              case measure => simp [intOf]; omega
          · cases x <;> cases y <;> first | exact absurd rfl hxy | skip
            all_goals
              have HNE := Lib.hid hxy
              clear hxy
              go_wp2_with fail
              go_quiet (fail)
              go_wp2_with fail
              go_ret
              exact ⟨ret_bool (by rw [HR2.out]; have : sameO a2 b2 = false := Bool.eq_false_iff.2 (fun e => ne_at HX.out HY.out HNE.out (sameO_iff.1 e)); rw [this]; simp), below_drewN hb3 _⟩
        · obtain rfl : k = m := by omega
          have HSV : Hid (sameO a2 b2 = true) := by (show _ = _); have h := HSO.out; rw [List.take_of_length_le (by rw [HM.out]; exact Nat.le_refl _), List.take_of_length_le (by rw [HM'.out]; exact Nat.le_refl _)] at h; exact sameO_iff.2 h
          go_wp2_with fail
          go_ret
          exact ⟨ret_bool (by rw [HR2.out, HSW.out, HSV.out]; rfl), hb3⟩
end Go.Proofs.Ytechhidfgheejaa
namespace Go.Proofs.Ytechhidfgheejaa
open Go.RowKit
set_option linter.unusedSimpArgs false
set_option linter.unusedVariables false

/-- what is told of a frame, either way -/
theorem ToldQ.anyE {w w' : World} {r : Option Rp} {k : Nat} {e : Ending} (h : ToldQ w r (.int .i64 0) (.int .i64 (k : Int)) e w') :
    ∃ A c B d, e = .returned (.tuple #[(r.getD Rp.zero).v A c B d, .int .i64 ((if r.isSome then 0 else k : Nat) : Int)]) ∧ (RdN w.heap.size w' A (ws (r.getD Rp.zero).words) ∧ RdN w.heap.size w' B (os (r.getD Rp.zero).bits)) ∧ Below w.heap.size w w' := by
  cases r with
  | none => exact ⟨none, 0, none, 0, h.1, ⟨RdN.nil, RdN.nil⟩, h.2⟩
  | some a =>
    obtain ⟨A, c, B, d, he, h1, h2, hb⟩ := h
    exact ⟨A, c, B, d, he, ⟨h1, h2⟩, hb⟩
theorem repF_small {l : List Nat} (u : Nat) (hl : Bs l) : ((repF u l).getD Rp.zero).words.length ≤ 1000 ∧ ((repF u l).getD Rp.zero).bits.length ≤ 5000 := by
  cases hp : repF u l with
  | none => exact ⟨by decide, by decide⟩
  | some r =>
    unfold repF at hp
    split at hp
    · cases hp
    split at hp
    · cases hp
    · obtain ⟨k, rfl, -⟩ := parseR_read hp
      have := readK_len k (pduF l)
      have := pduF_len l
      exact ⟨by simp only [Option.getD_some]; omega, by simp only [Option.getD_some]; omega⟩
theorem frmF_Bs {u : Nat} {p : List Nat} (hu : u < 256) (hp : Bs p) : Bs (frmF u p) := by
  unfold frmF
  split
  · exact putL_Bs (Bs.cons hu hp)
  · intro x hx; cases hx
theorem askF_Bs {u : Nat} {a : Ak} (hu : u < 256) (hok : a.ok) : Bs (askF u a) := by
  unfold askF
  split
  · rename_i h
    have := bytesA_Bs hok h
    rw [bytesN_of h] at this
    exact frmF_Bs hu this
  · intro x hx; cases hx

set_option maxRecDepth 100000 in
set_option maxHeartbeats 8000000 in
theorem RtuTells_walk (u : Nat) (Ap : Option Addr) (np cp : Nat) (p : List Nat) (A : Option Addr) (n c : Nat) (l : List Nat) (a : Ak) (Aa : Option Addr) (ca : Nat) (Ba : Option Addr) (da : Nat) (w : World) (hu : u < 256) (hP : Rd w Ap (bs p)) (hnp : p.length = np) (hp : Bs p) (hnpc : np ≤ cp) (hA : Rd w A (bs l)) (hn : l.length = n) (hl : Bs l) (hnc : n ≤ c) (hRa : AkR w a Aa Ba) (hoa : a.ok) :
    Calls Try.prog 9 #[.int .u8 (u : Int), .slice Ap np cp, .slice A n c, a.v Aa ca Ba da] w fun e w' => e = .returned (.bool true) ∧ Below w.heap.size w w' := by
  have HN := Lib.hid hn
  have HNP := Lib.hid hnp
  clear hn hnp
  have E1 := Lib.hid (fun W => low_Few Aa a.words.length ca Ba a.bits.length da W)
  obtain ⟨f1, hf1⟩ : ∃ b, fewN a.words.length a.bits.length = b := ⟨_, rfl⟩
  rw [hf1] at E1
  simp only [Ak.v, akV]
  have hb := (Below.refl w.heap.size w).alloc (Nat.le_refl _) (.cells #[.int .u8 (a.fn : Int), .int .u16 (a.at_ : Int), .int .u16 (a.many : Int), .int .u16 (a.to_ : Int), .slice Aa a.words.length ca, .slice Ba a.bits.length da] 41)
  have ba := Blk.newAt w 41 #[.int .u8 (a.fn : Int), .int .u16 (a.at_ : Int), .int .u16 (a.many : Int), .int .u16 (a.to_ : Int), .slice Aa a.words.length ca, .slice Ba a.bits.length da] (w.heap.size) rfl
  go_enter Try.func9, Try.ntmps9
  go_upto_region 1 with fail
  obtain ⟨ga, hga⟩ : ∃ g, w.heap.size = g := ⟨_, rfl⟩
  rw [hga] at ba ⊢
  generalize w.alloc (.cells #[.int .u8 (a.fn : Int), .int .u16 (a.at_ : Int), .int .u16 (a.many : Int), .int .u16 (a.to_ : Int), .slice Aa a.words.length ca, .slice Ba a.bits.length da] 41) = w1 at *
  have hwga : w.heap.size ≤ ga := by omega
  clear hga
  obtain ⟨s0, s1, s2, s3, s4, s5⟩ := ba.c6
  by_cases hb1 : 300 < np
  · have v1 : decide ((300 : Int) < (np : Int)) = true := decide_eq_true (by omega)
    go_wp2_with fail
    refine (rtu_awake _).mono ?_
    rintro e wz ⟨rfl, hs⟩
    go_wp2_with fail
    go_ret
    exact ⟨rfl, bthen hb hs⟩
  have v1 : decide ((300 : Int) < (np : Int)) = false := decide_eq_false (by omega)
  by_cases hb2 : 300 < n
  · have v2 : decide ((300 : Int) < (n : Int)) = true := decide_eq_true (by omega)
    go_wp2_with fail
    refine (rtu_awake _).mono ?_
    rintro e wz ⟨rfl, hs⟩
    go_wp2_with fail
    go_ret
    exact ⟨rfl, bthen hb hs⟩
  have v2 : decide ((300 : Int) < (n : Int)) = false := decide_eq_false (by omega)
  have hl0 : n ≤ 300 := by omega
  have hp0 : np ≤ 300 := by omega
  clear hb1 hb2
  cases f1 with
  | false =>
    go_wp2_with fail
    refine (E1.out _).mono ?_
    rintro e wq ⟨rfl, rfl⟩
    go_wp2_with fail
    refine (rtu_awake _).mono ?_
    rintro e wz ⟨rfl, hs⟩
    go_wp2_with fail
    go_ret
    exact ⟨rfl, bthen hb hs⟩
  | true =>
  obtain ⟨la1, la2⟩ := fewN_le hf1
  clear hf1
  go_wp2_with fail
  refine (E1.out _).mono ?_
  rintro e wq ⟨rfl, rfl⟩
  clear E1
  clear s0 s1 s2 s3 s4 s5
  replace hRa := hRa.below hb
  replace hP := hP.below hb
  replace hA := hA.below hb
  have HE : Hid (bs [] = []) := rfl
  go_wp2_with (at_builtin; refine app_b rfl _ _ rfl w1 ((Below.refl _ _).alloc (Nat.le_refl _) _) _ _ _ [] rfl (Ow.lit _ _ _ [] (Nat.le_refl _) (Nat.zero_le _) HE.out rfl) rfl A n c l rfl (hA.alloc _) HN.out (by omega) ?_)
  intro A2 c2 w2 o2 hs hg
  clear hg HE
  replace ba := ba.all hs
  replace hRa := hRa.below hs
  replace hA := hA.below hs
  replace hP := hP.below hs
  replace hb := bthen hb hs
  clear hs
  have hnc2 : n ≤ c2 := by have := o2.le; rw [bs_length] at this; have := HN.out; simp at *; omega
  replace o2 := o2.rd
  (try rw [List.nil_append] at o2)
  go_upto_region 4 with fail
  (try rw [Nat.zero_add])
  obtain ⟨nx, hnx⟩ : ∃ k, (frmF u p).length = k := ⟨_, rfl⟩
  have HNX := Lib.hid hnx
  obtain ⟨er, her⟩ : ∃ k, frmE u p = k := ⟨_, rfl⟩
  have hBx := frmF_Bs hu hp
  have F1 := Lib.hid (fun W h => rtu_Bytes u Ap np cp p W hu h HNP.out hp (by omega))
  have F2 := Lib.hid (fun W h => r04_Bytes u Ap np cp p W hu h HNP.out hp (by omega))
  simp only [hnx, her] at F1 F2
  obtain ⟨nq, hnq⟩ : ∃ k, (pduF l).length = k := ⟨_, rfl⟩
  have HNQ := Lib.hid hnq
  obtain ⟨ef, hef⟩ : ∃ k, errF l = k := ⟨_, rfl⟩
  obtain ⟨uf, huf⟩ : ∃ k, unitF l = k := ⟨_, rfl⟩
  have hBq := pduF_Bs hl
  have P1 := Lib.hid (fun W h => rtu_Parse A2 n c2 l W h HN.out hl hnc2 (by omega))
  have P2 := Lib.hid (fun W h => r04_Parse A n c l W h HN.out hl hnc (by omega))
  simp only [hnq, hef, huf] at P1 P2
  clear hnx her hnq hef huf
  go_wp2_with fail
  refine (F1.out _ hP).mono ?_
  rintro e w3 ⟨A3, c3, rfl, o3, hs⟩
  replace ba := ba.all hs
  replace hRa := hRa.below hs
  replace hA := hA.below hs
  replace hP := hP.below hs
  replace o2 := o2.below hs
  replace hb := bthen hb hs
  clear hs
  replace o3 := o3.rd
  go_wp2_with fail
  refine (F2.out _ hP).mono ?_
  rintro e w4 ⟨A4, c4, rfl, o4, hs⟩
  replace ba := ba.all hs
  replace hRa := hRa.below hs
  replace hA := hA.below hs
  replace hP := hP.below hs
  replace o2 := o2.below hs
  replace o3 := o3.below hs
  replace hb := bthen hb hs
  clear hs
  replace o4 := o4.rd
  go_wp2_with fail
  refine (P1.out _ o2).mono ?_
  rintro e w5 ⟨A5, c5, rfl, r5, -, hs⟩
  replace ba := ba.all hs
  replace hRa := hRa.below hs
  replace hA := hA.below hs
  replace hP := hP.below hs
  replace o2 := o2.below hs
  replace o3 := o3.below hs
  replace o4 := o4.below hs
  replace hb := bthen hb hs
  clear hs
  replace r5 := r5.rd
  go_wp2_with fail
  refine (P2.out _ hA).mono ?_
  rintro e w6 ⟨A6, c6, rfl, r6, -, hs⟩
  replace ba := ba.all hs
  replace hRa := hRa.below hs
  replace hA := hA.below hs
  replace hP := hP.below hs
  replace o2 := o2.below hs
  replace o3 := o3.below hs
  replace o4 := o4.below hs
  replace r5 := r5.below hs
  replace hb := bthen hb hs
  clear hs
  replace r6 := r6.rd
  clear F1 F2 P1 P2
  have L1 := Lib.hid (fun W h1 h2 => low_Same A3 A4 nx c3 nx c4 (frmF u p) (frmF u p) W h1 h2 hBx hBx HNX.out HNX.out)
  rw [sameB_self] at L1
  have L2 := Lib.hid (fun W h1 h2 => low_Same A5 A6 nq c5 nq c6 (pduF l) (pduF l) W h1 h2 hBq hBq HNQ.out HNQ.out)
  rw [sameB_self] at L2
  go_wp2_with fail
  refine (L1.out _ o3 o4).mono ?_
  rintro e wq ⟨rfl, rfl⟩
  go_wp2_with fail
  refine (L2.out _ r5 r6).mono ?_
  rintro e wq ⟨rfl, rfl⟩
  clear L1 L2
  clear o3 o4 r5 r6 hP
  obtain ⟨ny, hny⟩ : ∃ k, (askF u a).length = k := ⟨_, rfl⟩
  have HNY := Lib.hid hny
  obtain ⟨ea, hea⟩ : ∃ k, askFE u a = k := ⟨_, rfl⟩
  have hBy := askF_Bs hu hoa
  have F1 := Lib.hid (fun W (h : AkR W a Aa Ba) => rtu_Ask u a Aa ca Ba da W hu h hoa (by omega) (by omega))
  have F2 := Lib.hid (fun W (h : AkR W a Aa Ba) => r04_Ask u a Aa ca Ba da W hu h hoa (by omega) (by omega))
  simp only [hny, hea] at F1 F2
  simp only [Ak.v, akV] at F1 F2
  obtain ⟨x, hx⟩ : ∃ x, (repF u l).getD Rp.zero = x := ⟨_, rfl⟩
  obtain ⟨ep, hep⟩ : ∃ k, (if (repF u l).isSome then 0 else repFE u l : Nat) = k := ⟨_, rfl⟩
  obtain ⟨hxw, hxk⟩ := repF_small u hl
  rw [hx] at hxw hxk
  have P1 := Lib.hid (fun W h => (rtu_Reply u A2 n c2 l W hu h HN.out hl hnc2 (by omega)).mono fun e w' (hT : ToldQ W (repF u l) (.int .i64 0) (.int .i64 (repFE u l : Nat)) e w') => hT.anyE)
  have P2 := Lib.hid (fun W h => (r04_Reply u A n c l W hu h HN.out hl hnc (by omega)).mono fun e w' (hT : ToldQ W (repF u l) (.int .i64 0) (.int .i64 (repFE u l : Nat)) e w') => hT.anyE)
  simp only [hx, hep] at P1 P2
  simp only [Rp.v, rpV] at P1 P2
  clear hny hea hx hep
  obtain ⟨s0, s1, s2, s3, s4, s5⟩ := ba.c6
  go_wp2_with fail
  refine (F1.out _ hRa).mono ?_
  rintro e w7 ⟨A3, c3, rfl, o3, hs⟩
  clear s0 s1 s2 s3 s4 s5
  replace ba := ba.all hs
  replace hRa := hRa.below hs
  replace hA := hA.below hs
  replace o2 := o2.below hs
  replace hb := bthen hb hs
  clear hs
  obtain ⟨s0, s1, s2, s3, s4, s5⟩ := ba.c6
  replace o3 := o3.rd
  go_wp2_with fail
  refine (F2.out _ hRa).mono ?_
  rintro e w8 ⟨A4, c4, rfl, o4, hs⟩
  clear s0 s1 s2 s3 s4 s5
  replace ba := ba.all hs
  replace hRa := hRa.below hs
  replace hA := hA.below hs
  replace o2 := o2.below hs
  replace o3 := o3.below hs
  replace hb := bthen hb hs
  clear hs
  obtain ⟨s0, s1, s2, s3, s4, s5⟩ := ba.c6
  replace o4 := o4.rd
  clear F1 F2
  clear s0 s1 s2 s3 s4 s5
  go_wp2_with fail
  refine (P1.out _ o2).mono ?_
  rintro e w9 ⟨A7, c7, B7, d7, rfl, ⟨rw7, rb7⟩, hs⟩
  replace ba := ba.all hs
  replace hRa := hRa.below hs
  replace hA := hA.below hs
  replace o2 := o2.below hs
  replace o3 := o3.below hs
  replace o4 := o4.below hs
  replace hb := bthen hb hs
  clear hs
  go_upto_region 13 with fail
  have bk7 := Blk.new w9 36 #[.int .u8 (x.fn : Int), .int .u8 (x.ex : Int), .slice B7 x.bits.length d7, .slice A7 x.words.length c7, .int .u16 (x.at_ : Int), .int .u16 (x.many : Int)]
  have hs := (Below.refl w9.heap.size w9).alloc (Nat.le_refl _) (.cells #[.int .u8 (x.fn : Int), .int .u8 (x.ex : Int), .slice B7 x.bits.length d7, .slice A7 x.words.length c7, .int .u16 (x.at_ : Int), .int .u16 (x.many : Int)] 36)
  generalize w9.alloc (.cells #[.int .u8 (x.fn : Int), .int .u8 (x.ex : Int), .slice B7 x.bits.length d7, .slice A7 x.words.length c7, .int .u16 (x.at_ : Int), .int .u16 (x.many : Int)] 36) = w10 at *
  obtain ⟨g7, hg7⟩ : ∃ g, w9.heap.size = g := ⟨_, rfl⟩
  have g7lt : w9.heap.size ≤ g7 := by omega
  replace ba := ba.all hs
  replace hRa := hRa.below hs
  replace hA := hA.below hs
  replace o2 := o2.below hs
  replace o3 := o3.below hs
  replace o4 := o4.below hs
  replace rw7 := rw7.below hs
  replace rb7 := rb7.below hs
  replace hb := bthen hb hs
  clear hs
  rw [hg7] at bk7 ⊢
  clear hg7 g7lt
  go_wp2_with fail
  refine (P2.out _ hA).mono ?_
  rintro e w11 ⟨A8, c8, B8, d8, rfl, ⟨rw8, rb8⟩, hs⟩
  replace ba := ba.all hs
  replace hRa := hRa.below hs
  replace hA := hA.below hs
  replace o2 := o2.below hs
  replace o3 := o3.below hs
  replace o4 := o4.below hs
  replace rw7 := rw7.below hs
  replace rb7 := rb7.below hs
  replace bk7 := bk7.all hs
  replace hb := bthen hb hs
  clear hs
  go_upto_region 14 with fail
  have bk8 := Blk.new w11 36 #[.int .u8 (x.fn : Int), .int .u8 (x.ex : Int), .slice B8 x.bits.length d8, .slice A8 x.words.length c8, .int .u16 (x.at_ : Int), .int .u16 (x.many : Int)]
  have hs := (Below.refl w11.heap.size w11).alloc (Nat.le_refl _) (.cells #[.int .u8 (x.fn : Int), .int .u8 (x.ex : Int), .slice B8 x.bits.length d8, .slice A8 x.words.length c8, .int .u16 (x.at_ : Int), .int .u16 (x.many : Int)] 36)
  generalize w11.alloc (.cells #[.int .u8 (x.fn : Int), .int .u8 (x.ex : Int), .slice B8 x.bits.length d8, .slice A8 x.words.length c8, .int .u16 (x.at_ : Int), .int .u16 (x.many : Int)] 36) = w12 at *
  obtain ⟨g8, hg8⟩ : ∃ g, w11.heap.size = g := ⟨_, rfl⟩
  have g8lt : w11.heap.size ≤ g8 := by omega
  replace ba := ba.all hs
  replace hRa := hRa.below hs
  replace hA := hA.below hs
  replace o2 := o2.below hs
  replace o3 := o3.below hs
  replace o4 := o4.below hs
  replace rw7 := rw7.below hs
  replace rb7 := rb7.below hs
  replace bk7 := bk7.all hs
  replace rw8 := rw8.below hs
  replace rb8 := rb8.below hs
  replace hb := bthen hb hs
  clear hs
  rw [hg8] at bk8 ⊢
  clear hg8 g8lt
  clear P1 P2
  have L1 := Lib.hid (fun W h1 h2 => low_Same A3 A4 ny c3 ny c4 (askF u a) (askF u a) W h1 h2 hBy hBy HNY.out HNY.out)
  rw [sameB_self] at L1
  have T1 := Lib.hid (fun W h1 h2 => rref_Same x x A7 c7 B7 d7 A8 c8 B8 d8 W h1 h2 (by omega) (by omega))
  rw [sameR_self] at T1
  simp only [Rp.v, rpV] at T1
  have U4 := Lib.hid (fun W h1 h2 => low_Same A2 A n c2 n c l l W h1 h2 hl hl HN.out HN.out)
  rw [sameB_self] at U4
  have awk := Lib.hid rtu_awake
  obtain ⟨m0, m1, m2, m3, m4, m5⟩ := bk7.c6
  obtain ⟨k0, k1, k2, k3, k4, k5⟩ := bk8.c6
  go_wp2_with fail
  refine (L1.out _ o3 o4).mono ?_
  rintro e wq ⟨rfl, rfl⟩
  go_wp2_with fail
  refine (T1.out _ ⟨rw7.rd, rb7.rd⟩ ⟨rw8.rd, rb8.rd⟩).mono ?_
  rintro e w13 ⟨rfl, hs⟩
  clear m0 m1 m2 m3 m4 m5
  clear k0 k1 k2 k3 k4 k5
  replace ba := ba.all hs
  replace hRa := hRa.below hs
  replace hA := hA.below hs
  replace o2 := o2.below hs
  replace o3 := o3.below hs
  replace o4 := o4.below hs
  replace rw7 := rw7.below hs
  replace rb7 := rb7.below hs
  replace bk7 := bk7.all hs
  replace rw8 := rw8.below hs
  replace rb8 := rb8.below hs
  replace bk8 := bk8.all hs
  replace hb := bthen hb hs
  clear hs
  obtain ⟨m0, m1, m2, m3, m4, m5⟩ := bk7.c6
  obtain ⟨k0, k1, k2, k3, k4, k5⟩ := bk8.c6
  clear m0 m1 m2 m3 m4 m5
  clear k0 k1 k2 k3 k4 k5
  go_wp2_with fail
  refine (U4.out _ o2 hA).mono ?_
  rintro e wq ⟨rfl, rfl⟩
  go_wp2_with fail
  refine (awk.out _).mono ?_
  rintro e w14 ⟨rfl, hs⟩
  replace ba := ba.all hs
  replace hRa := hRa.below hs
  replace hA := hA.below hs
  replace o2 := o2.below hs
  replace o3 := o3.below hs
  replace o4 := o4.below hs
  replace rw7 := rw7.below hs
  replace rb7 := rb7.below hs
  replace bk7 := bk7.all hs
  replace rw8 := rw8.below hs
  replace rb8 := rb8.below hs
  replace bk8 := bk8.all hs
  replace hb := bthen hb hs
  clear hs
  go_wp2_with fail
  go_ret
  exact ⟨rfl, hb⟩
end Go.Proofs.Ytechhidfgheejaa
