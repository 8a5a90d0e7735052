/- The walk of the law RtuTalks (written by gen_rtutalks.py). -/
import Derived.Test.YtgofgnaaoaoemaaLawRtuBack
import Derived.Test.YtgofgnaaoaoemaaRpLaw
namespace Go.Proofs.Ytgofgnaaoaoemaa
open Go.RowKit
set_option linter.unusedSimpArgs false
set_option linter.unusedVariables false

theorem may_ask {u : Nat} {a : Ak} (hu : isUn u = true) (h : rightA a = true) : mayF u (bytesA a) = true := by
  obtain ⟨-, h1, h2, -⟩ := total_app h []
  unfold mayF
  rw [hu, decide_eq_true (by omega), decide_eq_true (by omega)]; rfl
theorem may_rep {u : Nat} {r : Rp} (hu : isUn u = true) (h : rightR r = true) : mayF u (bytesR r) = true := by
  obtain ⟨-, -, h1, h2⟩ := parse_bytesR h
  unfold mayF
  rw [hu, decide_eq_true (by omega), decide_eq_true (by omega)]; rfl
theorem ask_frame {u : Nat} {a : Ak} (hu : isUn u = true) (h : rightA a = true) : askFE u a = 0 ∧ askF u a = putL (u :: bytesA a) := by
  have hm := may_ask hu h
  unfold askFE askF frmE frmF
  rw [if_pos h, if_pos h, if_pos hm, if_pos hm]
  exact ⟨rfl, rfl⟩
theorem rep_frame {u : Nat} {r : Rp} (hu : isUn u = true) (h : rightR r = true) (v : Nat) : repF v (putL (u :: bytesR r)) = (if u = v then some r else none) ∧ repFE v (putL (u :: bytesR r)) = (if u = v then 0 else 10) := by
  obtain ⟨h1, h2, h3, -⟩ := frm_tells (may_rep hu h)
  by_cases e : u = v
  · subst e
    simp [repF, repFE, h1, h2, h3, parseR_bytes h]
  · simp [repF, repFE, h1, h2, e]

set_option maxRecDepth 100000 in
set_option maxHeartbeats 8000000 in
theorem RtuTalks_walk (a : Ak) (A : Option Addr) (c : Nat) (B : Option Addr) (d : Nat) (r : Rp) (A' : Option Addr) (c' : Nat) (B' : Option Addr) (d' : Nat) (u v : Nat) (w : World) (hR : AkR w a A B) (hok : a.ok) (hR' : RpR w r A' B') (hok' : r.ok) (hu : u < 256) (hv : v < 256) :
    Calls Try.prog 11 #[a.v A c B d, r.v A' c' B' d', .int .u8 (u : Int), .int .u8 (v : Int)] w fun e w' => e = .returned (.bool true) ∧ Below w.heap.size w w' := by
  have awk := Lib.hid rtu_awake
  have FW1 := Lib.hid (fun W => low_Few A a.words.length c B a.bits.length d W)
  have FW2 := Lib.hid (fun W => low_Few A' r.words.length c' B' r.bits.length d' W)
  obtain ⟨f1, hf1⟩ : ∃ b, fewN a.words.length a.bits.length = b := ⟨_, rfl⟩
  obtain ⟨f2, hf2⟩ : ∃ b, fewN r.words.length r.bits.length = b := ⟨_, rfl⟩
  rw [hf1] at FW1
  rw [hf2] at FW2
  have hb := ((Below.refl w.heap.size w).alloc (Nat.le_refl _) (.cells #[.int .u8 (a.fn : Int), .int .u16 (a.at_ : Int), .int .u16 (a.many : Int), .int .u16 (a.to_ : Int), .slice A a.words.length c, .slice B a.bits.length d] 41)).alloc (by simp [World.size_alloc]) (.cells #[.int .u8 (r.fn : Int), .int .u8 (r.ex : Int), .slice B' r.bits.length d', .slice A' r.words.length c', .int .u16 (r.at_ : Int), .int .u16 (r.many : Int)] 36)
  have bx := (Blk.new w 41 #[.int .u8 (a.fn : Int), .int .u16 (a.at_ : Int), .int .u16 (a.many : Int), .int .u16 (a.to_ : Int), .slice A a.words.length c, .slice B a.bits.length d]).alloc (.cells #[.int .u8 (r.fn : Int), .int .u8 (r.ex : Int), .slice B' r.bits.length d', .slice A' r.words.length c', .int .u16 (r.at_ : Int), .int .u16 (r.many : Int)] 36)
  have by_ := Blk.newAt (w.alloc (.cells #[.int .u8 (a.fn : Int), .int .u16 (a.at_ : Int), .int .u16 (a.many : Int), .int .u16 (a.to_ : Int), .slice A a.words.length c, .slice B a.bits.length d] 41)) 36 #[.int .u8 (r.fn : Int), .int .u8 (r.ex : Int), .slice B' r.bits.length d', .slice A' r.words.length c', .int .u16 (r.at_ : Int), .int .u16 (r.many : Int)] (w.heap.size + 1) (World.size_alloc _ _)
  simp only [Ak.v, akV, Rp.v, rpV]
  go_enter Try.func11, Try.ntmps11
  go_upto_region 1 with fail
  generalize (w.alloc (.cells #[.int .u8 (a.fn : Int), .int .u16 (a.at_ : Int), .int .u16 (a.many : Int), .int .u16 (a.to_ : Int), .slice A a.words.length c, .slice B a.bits.length d] 41)).alloc (.cells #[.int .u8 (r.fn : Int), .int .u8 (r.ex : Int), .slice B' r.bits.length d', .slice A' r.words.length c', .int .u16 (r.at_ : Int), .int .u16 (r.many : Int)] 36) = w1 at *
  obtain ⟨gr, hgr⟩ : ∃ g, w.heap.size + 1 = g := ⟨_, rfl⟩
  rw [hgr] at by_ ⊢
  clear hgr
  obtain ⟨ga, hga⟩ : ∃ g, w.heap.size = g := ⟨_, rfl⟩
  rw [hga] at bx ⊢
  clear hga
  obtain ⟨p0, p1, p2, p3, p4, p5⟩ := bx.c6
  obtain ⟨q0, q1, q2, q3, q4, q5⟩ := by_.c6
  cases f1 with
  | false =>
    go_wp2_with fail
    refine (FW1.out _).mono ?_
    rintro e wq ⟨rfl, rfl⟩
    go_wp2_with fail
    refine (awk.out _).mono ?_
    rintro e wz ⟨rfl, hs⟩
    go_wp2_with fail
    go_ret
    exact ⟨rfl, bthen hb hs⟩
  | true =>
  cases f2 with
  | false =>
    go_wp2_with fail
    refine (FW1.out _).mono ?_
    rintro e wq ⟨rfl, rfl⟩
    go_wp2_with fail
    refine (FW2.out _).mono ?_
    rintro e wq ⟨rfl, rfl⟩
    go_wp2_with fail
    refine (awk.out _).mono ?_
    rintro e wz ⟨rfl, hs⟩
    go_wp2_with fail
    go_ret
    exact ⟨rfl, bthen hb hs⟩
  | true =>
  obtain ⟨la1, la2⟩ := fewN_le hf1
  obtain ⟨lr1, lr2⟩ := fewN_le hf2
  clear hf1 hf2
  cases hun : isUn u with
  | false =>
    have hc : ((u : Int) == 0) = true ∨ (((u : Int) == 0) = false ∧ decide ((247 : Int) < (u : Int)) = true) := by
      unfold isUn at hun
      by_cases h0 : u = 0
      · left; simp [h0]
      · right
        refine ⟨by simp; omega, decide_eq_true ?_⟩
        rw [decide_eq_true (show 1 ≤ u by omega)] at hun
        have : ¬ u ≤ 247 := by simpa using hun
        omega
    clear hun
    rcases hc with c1 | ⟨c1, c2⟩
    all_goals
      go_wp2_with fail
      refine (FW1.out _).mono ?_
      rintro e wq ⟨rfl, rfl⟩
      go_wp2_with fail
      refine (FW2.out _).mono ?_
      rintro e wq ⟨rfl, rfl⟩
      go_wp2_with fail
      refine (awk.out _).mono ?_
      rintro e wz ⟨rfl, hs⟩
      go_wp2_with fail
      go_ret
      exact ⟨rfl, bthen hb hs⟩
  | true =>
  have c1 : ((u : Int) == 0) = false := by unfold isUn at hun; simp at hun ⊢; omega
  have c2 : decide ((247 : Int) < (u : Int)) = false := by unfold isUn at hun; simp at hun ⊢; omega
  have HUN := Lib.hid hun
  have E1 := Lib.hid (fun W (h : AkR W a A B) => rtu_Ask u a A c B d W hu h hok (by omega) (by omega))
  have E2 := Lib.hid (fun W => ask_Right a.fn a.at_ a.many a.to_ A a.words.length c B a.bits.length d W hok.fn hok.many hok.to_ (by omega) (by omega))
  have E5 := Lib.hid (fun W (h : RpR W r A' B') => reply_Bytes r A' c' B' d' W h hok' (by omega) (by omega))
  obtain ⟨rt, hrt⟩ : ∃ b, rightA a = b := ⟨_, rfl⟩
  rw [show rightN a.fn a.many a.to_ a.words.length a.bits.length = rt from hrt] at E2
  have HRT := Lib.hid hrt
  obtain ⟨rr, hrr⟩ : ∃ b, rightR r = b := ⟨_, rfl⟩
  have HRR := Lib.hid hrr
  simp only [Ak.v, akV, Rp.v, rpV] at E1 E2 E5
  clear hrt hun hrr
  go_wp2_with fail
  refine (FW1.out _).mono ?_
  rintro e wq ⟨rfl, rfl⟩
  go_wp2_with fail
  refine (FW2.out _).mono ?_
  rintro e wq ⟨rfl, rfl⟩
  clear FW1 FW2
  cases rt with
  | false =>
    have HV : Hid (askF u a = [] ∧ askFE u a = 12) := ⟨by unfold askF; rw [if_neg (by simp [HRT.out])], by unfold askFE; rw [if_neg (by simp [HRT.out])]⟩
    rw [HV.out.1, HV.out.2] at E1
    simp only [List.length_nil] at E1
    go_wp2_with fail
    refine (E1.out _ (hR.below hb)).mono ?_
    rintro e w2 ⟨A2, c2, rfl, -, hs⟩
    clear p0 p1 p2 p3 p4 p5
    clear q0 q1 q2 q3 q4 q5
    replace bx := bx.all hs
    replace by_ := by_.all hs
    replace hb := bthen hb hs
    clear hs
    obtain ⟨p0, p1, p2, p3, p4, p5⟩ := bx.c6
    obtain ⟨q0, q1, q2, q3, q4, q5⟩ := by_.c6
    go_wp2_with fail
    refine (E2.out _).mono ?_
    rintro e w3 ⟨rfl, hs⟩
    clear p0 p1 p2 p3 p4 p5
    clear q0 q1 q2 q3 q4 q5
    replace bx := bx.all hs
    replace by_ := by_.all hs
    replace hb := bthen hb hs
    clear hs
    obtain ⟨p0, p1, p2, p3, p4, p5⟩ := bx.c6
    obtain ⟨q0, q1, q2, q3, q4, q5⟩ := by_.c6
    cases rr with
    | false =>
      have h1 : errR r = 13 := by unfold errR; rw [if_neg (by simp [HRR.out])]
      rw [h1] at E5
      clear h1
      go_wp2_with fail
      refine (E5.out _ (hR'.below hb)).mono ?_
      rintro e w4 ⟨A5, c5, rfl, -, hs⟩
      clear p0 p1 p2 p3 p4 p5
      clear q0 q1 q2 q3 q4 q5
      replace bx := bx.all hs
      replace by_ := by_.all hs
      replace hb := bthen hb hs
      clear hs
      obtain ⟨p0, p1, p2, p3, p4, p5⟩ := bx.c6
      obtain ⟨q0, q1, q2, q3, q4, q5⟩ := by_.c6
      go_wp2_with fail
      refine (awk.out _).mono ?_
      rintro e wz ⟨rfl, hs⟩
      go_wp2_with fail
      go_ret
      exact ⟨rfl, bthen hb hs⟩
    | true =>
      have h1 : errR r = 0 := by unfold errR; rw [if_pos HRR.out]
      rw [h1] at E5
      have hm := may_rep HUN.out HRR.out
      have h2 : frmF u (bytesR r) = putL (u :: bytesR r) := by unfold frmF; rw [if_pos hm]
      have h3 := (show frmE u (bytesR r) = 0 by unfold frmE; rw [if_pos hm])
      have hRB := bytesR_Bs hok' HRR.out
      have hlen := (parse_bytesR HRR.out).2.2.2
      have E6 := Lib.hid (fun W A' c' (h : Rd W A' (bs (bytesR r))) => rtu_Bytes u A' (bytesR r).length c' (bytesR r) W hu h rfl hRB (by omega))
      rw [h2, h3] at E6
      obtain ⟨f7, e7⟩ := rep_frame HUN.out HRR.out u
      obtain ⟨f8, e8⟩ := rep_frame HUN.out HRR.out v
      rw [if_pos rfl] at f7 e7
      have hPB := putL_Bs (Bs.cons hu hRB)
      have hPL : (putL (u :: bytesR r)).length ≤ 1000 := by rw [putL_length, List.length_cons]; omega
      obtain ⟨L, hL⟩ : ∃ L, putL (u :: bytesR r) = L := ⟨_, rfl⟩
      rw [hL] at E6 f7 e7 f8 e8 hPB hPL
      have E7 := Lib.hid (fun W A' c' (h : Rd W A' (bs L)) hc => rtu_Reply u A' L.length c' L W hu h rfl hPB hc (by omega))
      have E8 := Lib.hid (fun W A' c' (h : Rd W A' (bs L)) hc => rtu_Reply v A' L.length c' L W hv h rfl hPB hc (by omega))
      rw [f7, e7] at E7
      rw [f8, e8] at E8
      have S9 := Lib.hid (fun W Ax cx Bx dx (h1 : RpR W r Ax Bx) (h2 : RpR W r A' B') => reply_Same r r Ax cx Bx dx A' c' B' d' W h1 h2 (by omega) (by omega))
      rw [sameR_self] at S9
      simp only [Rp.v, rpV] at S9
      clear h1 hm h2 h3 hlen f7 e7 f8 e8 hL hPL
      go_wp2_with fail
      refine (E5.out _ (hR'.below hb)).mono ?_
      rintro e w4 ⟨A5, c5, rfl, o5, hs⟩
      clear p0 p1 p2 p3 p4 p5
      clear q0 q1 q2 q3 q4 q5
      replace bx := bx.all hs
      replace by_ := by_.all hs
      replace hb := bthen hb hs
      clear hs
      obtain ⟨p0, p1, p2, p3, p4, p5⟩ := bx.c6
      obtain ⟨q0, q1, q2, q3, q4, q5⟩ := by_.c6
      go_wp2_with fail
      refine (E6.out _ _ _ o5.rd).mono ?_
      rintro e w5 ⟨A6, c6, rfl, o6, hs⟩
      clear p0 p1 p2 p3 p4 p5
      clear q0 q1 q2 q3 q4 q5
      replace bx := bx.all hs
      replace by_ := by_.all hs
      replace hb := bthen hb hs
      clear hs
      obtain ⟨p0, p1, p2, p3, p4, p5⟩ := bx.c6
      obtain ⟨q0, q1, q2, q3, q4, q5⟩ := by_.c6
      have hc6 := o6.le.1
      rw [bs_length] at hc6
      clear o5
      go_wp2_with fail
      refine (E7.out _ _ _ o6.rd hc6).mono ?_
      rintro e w6 ⟨Ax, cx, Bx, dx, he, rwx, rbx, hs⟩
      simp only [Rp.v, rpV] at he
      subst he
      clear p0 p1 p2 p3 p4 p5
      clear q0 q1 q2 q3 q4 q5
      replace bx := bx.all hs
      replace by_ := by_.all hs
      replace o6 := o6.below hs
      replace hb := bthen hb hs
      clear hs
      obtain ⟨p0, p1, p2, p3, p4, p5⟩ := bx.c6
      obtain ⟨q0, q1, q2, q3, q4, q5⟩ := by_.c6
      go_upto_region 16 with fail
      have bxx := Blk.new w6 36 #[.int .u8 (r.fn : Int), .int .u8 (r.ex : Int), .slice Bx r.bits.length dx, .slice Ax r.words.length cx, .int .u16 (r.at_ : Int), .int .u16 (r.many : Int)]
      have hs := (Below.refl w6.heap.size w6).alloc (Nat.le_refl _) (.cells #[.int .u8 (r.fn : Int), .int .u8 (r.ex : Int), .slice Bx r.bits.length dx, .slice Ax r.words.length cx, .int .u16 (r.at_ : Int), .int .u16 (r.many : Int)] 36)
      generalize w6.alloc (.cells #[.int .u8 (r.fn : Int), .int .u8 (r.ex : Int), .slice Bx r.bits.length dx, .slice Ax r.words.length cx, .int .u16 (r.at_ : Int), .int .u16 (r.many : Int)] 36) = w7 at *
      obtain ⟨gx, hgx⟩ : ∃ g, w6.heap.size = g := ⟨_, rfl⟩
      have gxlt : w6.heap.size ≤ gx := by omega
      clear p0 p1 p2 p3 p4 p5
      clear q0 q1 q2 q3 q4 q5
      replace bx := bx.all hs
      replace by_ := by_.all hs
      replace o6 := o6.below hs
      replace rwx := rwx.below hs
      replace rbx := rbx.below hs
      replace hb := bthen hb hs
      clear hs
      obtain ⟨p0, p1, p2, p3, p4, p5⟩ := bx.c6
      obtain ⟨q0, q1, q2, q3, q4, q5⟩ := by_.c6
      rw [hgx] at bxx ⊢
      clear hgx gxlt
      go_wp2_with fail
      refine (E8.out _ _ _ o6.rd hc6).mono ?_
      rintro e w8 hT
      by_cases huv : u = v
      · rw [if_pos huv, if_pos huv] at hT
        obtain ⟨Ay, cy, By, dy, he, -, -, hs⟩ := hT
        simp only [Rp.v, rpV] at he
        subst he
        have t1 : ((u : Int) == (v : Int)) = true := by simp [huv]
        clear huv
        clear p0 p1 p2 p3 p4 p5
        clear q0 q1 q2 q3 q4 q5
        replace bx := bx.all hs
        replace by_ := by_.all hs
        replace o6 := o6.below hs
        replace rwx := rwx.below hs
        replace rbx := rbx.below hs
        replace bxx := bxx.all hs
        replace hb := bthen hb hs
        clear hs
        obtain ⟨p0, p1, p2, p3, p4, p5⟩ := bx.c6
        obtain ⟨q0, q1, q2, q3, q4, q5⟩ := by_.c6
        go_upto_region 17 with fail
        have by2 := Blk.new w8 36 #[.int .u8 (r.fn : Int), .int .u8 (r.ex : Int), .slice By r.bits.length dy, .slice Ay r.words.length cy, .int .u16 (r.at_ : Int), .int .u16 (r.many : Int)]
        have hs := (Below.refl w8.heap.size w8).alloc (Nat.le_refl _) (.cells #[.int .u8 (r.fn : Int), .int .u8 (r.ex : Int), .slice By r.bits.length dy, .slice Ay r.words.length cy, .int .u16 (r.at_ : Int), .int .u16 (r.many : Int)] 36)
        generalize w8.alloc (.cells #[.int .u8 (r.fn : Int), .int .u8 (r.ex : Int), .slice By r.bits.length dy, .slice Ay r.words.length cy, .int .u16 (r.at_ : Int), .int .u16 (r.many : Int)] 36) = w9 at *
        obtain ⟨gy, hgy⟩ : ∃ g, w8.heap.size = g := ⟨_, rfl⟩
        have gylt : w8.heap.size ≤ gy := by omega
        clear p0 p1 p2 p3 p4 p5
        clear q0 q1 q2 q3 q4 q5
        replace bx := bx.all hs
        replace by_ := by_.all hs
        replace o6 := o6.below hs
        replace rwx := rwx.below hs
        replace rbx := rbx.below hs
        replace bxx := bxx.all hs
        replace hb := bthen hb hs
        clear hs
        obtain ⟨p0, p1, p2, p3, p4, p5⟩ := bx.c6
        obtain ⟨q0, q1, q2, q3, q4, q5⟩ := by_.c6
        rw [hgy] at by2 ⊢
        clear hgy gylt
        obtain ⟨x0, x1, x2, x3, x4, x5⟩ := bxx.c6
        go_wp2_with fail
        refine (S9.out _ _ _ _ _ ⟨rwx.rd, rbx.rd⟩ (hR'.below hb)).mono ?_
        rintro e w10 ⟨rfl, hs⟩
        clear p0 p1 p2 p3 p4 p5
        clear q0 q1 q2 q3 q4 q5
        clear x0 x1 x2 x3 x4 x5
        replace bx := bx.all hs
        replace by_ := by_.all hs
        replace o6 := o6.below hs
        replace rwx := rwx.below hs
        replace rbx := rbx.below hs
        replace bxx := bxx.all hs
        replace by2 := by2.all hs
        replace hb := bthen hb hs
        clear hs
        obtain ⟨p0, p1, p2, p3, p4, p5⟩ := bx.c6
        obtain ⟨q0, q1, q2, q3, q4, q5⟩ := by_.c6
        obtain ⟨x0, x1, x2, x3, x4, x5⟩ := bxx.c6
        go_wp2_with fail
        refine (awk.out _).mono ?_
        rintro e wz ⟨rfl, hs⟩
        go_wp2_with fail
        go_ret
        exact ⟨rfl, bthen hb hs⟩
      · rw [if_neg huv, if_neg huv] at hT
        obtain ⟨he, hs⟩ := hT
        rw [show Rp.zero.v none 0 none 0 = .agg #[.int .u8 0, .int .u8 0, .slice none 0 0, .slice none 0 0, .int .u16 0, .int .u16 0] from rfl] at he
        subst he
        have t1 : ((u : Int) == (v : Int)) = false := by simp; omega
        clear huv
        clear p0 p1 p2 p3 p4 p5
        clear q0 q1 q2 q3 q4 q5
        replace bx := bx.all hs
        replace by_ := by_.all hs
        replace o6 := o6.below hs
        replace rwx := rwx.below hs
        replace rbx := rbx.below hs
        replace bxx := bxx.all hs
        replace hb := bthen hb hs
        clear hs
        obtain ⟨p0, p1, p2, p3, p4, p5⟩ := bx.c6
        obtain ⟨q0, q1, q2, q3, q4, q5⟩ := by_.c6
        go_upto_region 17 with fail
        have by2 := Blk.new w8 36 #[.int .u8 0, .int .u8 0, .slice none 0 0, .slice none 0 0, .int .u16 0, .int .u16 0]
        have hs := (Below.refl w8.heap.size w8).alloc (Nat.le_refl _) (.cells #[.int .u8 0, .int .u8 0, .slice none 0 0, .slice none 0 0, .int .u16 0, .int .u16 0] 36)
        generalize w8.alloc (.cells #[.int .u8 0, .int .u8 0, .slice none 0 0, .slice none 0 0, .int .u16 0, .int .u16 0] 36) = w9 at *
        obtain ⟨gy, hgy⟩ : ∃ g, w8.heap.size = g := ⟨_, rfl⟩
        have gylt : w8.heap.size ≤ gy := by omega
        clear p0 p1 p2 p3 p4 p5
        clear q0 q1 q2 q3 q4 q5
        replace bx := bx.all hs
        replace by_ := by_.all hs
        replace o6 := o6.below hs
        replace rwx := rwx.below hs
        replace rbx := rbx.below hs
        replace bxx := bxx.all hs
        replace hb := bthen hb hs
        clear hs
        obtain ⟨p0, p1, p2, p3, p4, p5⟩ := bx.c6
        obtain ⟨q0, q1, q2, q3, q4, q5⟩ := by_.c6
        rw [hgy] at by2 ⊢
        clear hgy gylt
        obtain ⟨x0, x1, x2, x3, x4, x5⟩ := bxx.c6
        go_wp2_with fail
        refine (S9.out _ _ _ _ _ ⟨rwx.rd, rbx.rd⟩ (hR'.below hb)).mono ?_
        rintro e w10 ⟨rfl, hs⟩
        clear p0 p1 p2 p3 p4 p5
        clear q0 q1 q2 q3 q4 q5
        clear x0 x1 x2 x3 x4 x5
        replace bx := bx.all hs
        replace by_ := by_.all hs
        replace o6 := o6.below hs
        replace rwx := rwx.below hs
        replace rbx := rbx.below hs
        replace bxx := bxx.all hs
        replace by2 := by2.all hs
        replace hb := bthen hb hs
        clear hs
        obtain ⟨p0, p1, p2, p3, p4, p5⟩ := bx.c6
        obtain ⟨q0, q1, q2, q3, q4, q5⟩ := by_.c6
        obtain ⟨x0, x1, x2, x3, x4, x5⟩ := bxx.c6
        go_wp2_with fail
        refine (awk.out _).mono ?_
        rintro e wz ⟨rfl, hs⟩
        go_wp2_with fail
        go_ret
        exact ⟨rfl, bthen hb hs⟩
  | true =>
    obtain ⟨f1, f2⟩ := ask_frame HUN.out HRT.out
    obtain ⟨te, tu, tp, -⟩ := frm_tells (may_ask HUN.out HRT.out)
    have hAB : Bs (bytesA a) := by
      have := bytesA_Bs hok HRT.out
      rw [bytesN_of HRT.out] at this
      exact this
    have hlen := (total_app HRT.out []).2.2.1
    have hpb := parse_bytes HRT.out
    rw [f1, f2] at E1
    have hPB := putL_Bs (Bs.cons hu hAB)
    have hPL : (putL (u :: bytesA a)).length ≤ 1000 := by rw [putL_length, List.length_cons]; omega
    obtain ⟨L, hL⟩ : ∃ L, putL (u :: bytesA a) = L := ⟨_, rfl⟩
    obtain ⟨K, hK⟩ : ∃ K, bytesA a = K := ⟨_, rfl⟩
    rw [hL] at E1 te tu tp hPB hPL
    rw [hK] at tp hAB hlen hpb
    have E3 := Lib.hid (fun W A' c' (h : Rd W A' (bs L)) hc => rtu_Parse A' L.length c' L W h rfl hPB hc (by omega))
    rw [te, tu, tp] at E3
    have E4 := Lib.hid (fun W A' c' (h : Rd W A' (bs K)) hc => ask_Parse A' K.length c' K W h rfl hAB hc (by omega))
    rw [hpb] at E4
    have SA := Lib.hid (fun W Ax cx Bx dx (h1 : AkR W a Ax Bx) (h2 : AkR W a A B) => ask_Same a a Ax cx Bx dx A c B d W h1 h2 (by omega) (by omega))
    rw [sameA_iff.2 rfl] at SA
    simp only [Ak.v, akV] at SA
    clear f1 f2 te tu tp hL hK hlen hpb hPL
    go_wp2_with fail
    refine (E1.out _ (hR.below hb)).mono ?_
    rintro e w2 ⟨A2, c2, rfl, o2, hs⟩
    clear p0 p1 p2 p3 p4 p5
    clear q0 q1 q2 q3 q4 q5
    replace bx := bx.all hs
    replace by_ := by_.all hs
    replace hb := bthen hb hs
    clear hs
    obtain ⟨p0, p1, p2, p3, p4, p5⟩ := bx.c6
    obtain ⟨q0, q1, q2, q3, q4, q5⟩ := by_.c6
    have hc2 := o2.le.1
    rw [bs_length] at hc2
    go_wp2_with fail
    refine (E2.out _).mono ?_
    rintro e w3 ⟨rfl, hs⟩
    clear p0 p1 p2 p3 p4 p5
    clear q0 q1 q2 q3 q4 q5
    replace bx := bx.all hs
    replace by_ := by_.all hs
    replace o2 := o2.below hs
    replace hb := bthen hb hs
    clear hs
    obtain ⟨p0, p1, p2, p3, p4, p5⟩ := bx.c6
    obtain ⟨q0, q1, q2, q3, q4, q5⟩ := by_.c6
    go_wp2_with fail
    refine (E3.out _ _ _ o2.rd hc2).mono ?_
    rintro e w4 ⟨A3, c3, rfl, r3, hc3, hs⟩
    clear p0 p1 p2 p3 p4 p5
    clear q0 q1 q2 q3 q4 q5
    replace bx := bx.all hs
    replace by_ := by_.all hs
    replace o2 := o2.below hs
    replace hb := bthen hb hs
    clear hs
    obtain ⟨p0, p1, p2, p3, p4, p5⟩ := bx.c6
    obtain ⟨q0, q1, q2, q3, q4, q5⟩ := by_.c6
    go_wp2_with fail
    refine (E4.out _ _ _ r3.rd hc3).mono ?_
    rintro e w5 ⟨Ax, cx, Bx, dx, he, rwx, rbx, hs⟩
    simp only [Ak.v, akV] at he
    subst he
    clear r3 o2
    clear p0 p1 p2 p3 p4 p5
    clear q0 q1 q2 q3 q4 q5
    replace bx := bx.all hs
    replace by_ := by_.all hs
    replace hb := bthen hb hs
    clear hs
    obtain ⟨p0, p1, p2, p3, p4, p5⟩ := bx.c6
    obtain ⟨q0, q1, q2, q3, q4, q5⟩ := by_.c6
    go_upto_region 9 with fail
    have bxx := Blk.new w5 41 #[.int .u8 (a.fn : Int), .int .u16 (a.at_ : Int), .int .u16 (a.many : Int), .int .u16 (a.to_ : Int), .slice Ax a.words.length cx, .slice Bx a.bits.length dx]
    have hs := (Below.refl w5.heap.size w5).alloc (Nat.le_refl _) (.cells #[.int .u8 (a.fn : Int), .int .u16 (a.at_ : Int), .int .u16 (a.many : Int), .int .u16 (a.to_ : Int), .slice Ax a.words.length cx, .slice Bx a.bits.length dx] 41)
    generalize w5.alloc (.cells #[.int .u8 (a.fn : Int), .int .u16 (a.at_ : Int), .int .u16 (a.many : Int), .int .u16 (a.to_ : Int), .slice Ax a.words.length cx, .slice Bx a.bits.length dx] 41) = w6 at *
    obtain ⟨gx, hgx⟩ : ∃ g, w5.heap.size = g := ⟨_, rfl⟩
    have gxlt : w5.heap.size ≤ gx := by omega
    clear p0 p1 p2 p3 p4 p5
    clear q0 q1 q2 q3 q4 q5
    replace bx := bx.all hs
    replace by_ := by_.all hs
    replace rwx := rwx.below hs
    replace rbx := rbx.below hs
    replace hb := bthen hb hs
    clear hs
    obtain ⟨p0, p1, p2, p3, p4, p5⟩ := bx.c6
    obtain ⟨q0, q1, q2, q3, q4, q5⟩ := by_.c6
    rw [hgx] at bxx ⊢
    clear hgx gxlt
    obtain ⟨x0, x1, x2, x3, x4, x5⟩ := bxx.c6
    go_wp2_with fail
    refine (SA.out _ _ _ _ _ ⟨rwx.rd, rbx.rd⟩ (hR.below hb)).mono ?_
    rintro e w7 ⟨rfl, hs⟩
    clear p0 p1 p2 p3 p4 p5
    clear q0 q1 q2 q3 q4 q5
    clear x0 x1 x2 x3 x4 x5
    replace bx := bx.all hs
    replace by_ := by_.all hs
    replace rwx := rwx.below hs
    replace rbx := rbx.below hs
    replace bxx := bxx.all hs
    replace hb := bthen hb hs
    clear hs
    obtain ⟨p0, p1, p2, p3, p4, p5⟩ := bx.c6
    obtain ⟨q0, q1, q2, q3, q4, q5⟩ := by_.c6
    obtain ⟨x0, x1, x2, x3, x4, x5⟩ := bxx.c6
    clear x0 x1 x2 x3 x4 x5 bxx rwx rbx
    cases rr with
    | false =>
      have h1 : errR r = 13 := by unfold errR; rw [if_neg (by simp [HRR.out])]
      rw [h1] at E5
      clear h1
      go_wp2_with fail
      refine (E5.out _ (hR'.below hb)).mono ?_
      rintro e w8 ⟨A5, c5, rfl, -, hs⟩
      clear p0 p1 p2 p3 p4 p5
      clear q0 q1 q2 q3 q4 q5
      replace bx := bx.all hs
      replace by_ := by_.all hs
      replace hb := bthen hb hs
      clear hs
      obtain ⟨p0, p1, p2, p3, p4, p5⟩ := bx.c6
      obtain ⟨q0, q1, q2, q3, q4, q5⟩ := by_.c6
      go_wp2_with fail
      refine (awk.out _).mono ?_
      rintro e wz ⟨rfl, hs⟩
      go_wp2_with fail
      go_ret
      exact ⟨rfl, bthen hb hs⟩
    | true =>
      have h1 : errR r = 0 := by unfold errR; rw [if_pos HRR.out]
      rw [h1] at E5
      have hm := may_rep HUN.out HRR.out
      have h2 : frmF u (bytesR r) = putL (u :: bytesR r) := by unfold frmF; rw [if_pos hm]
      have h3 := (show frmE u (bytesR r) = 0 by unfold frmE; rw [if_pos hm])
      have hRB := bytesR_Bs hok' HRR.out
      have hlen := (parse_bytesR HRR.out).2.2.2
      have E6 := Lib.hid (fun W A' c' (h : Rd W A' (bs (bytesR r))) => rtu_Bytes u A' (bytesR r).length c' (bytesR r) W hu h rfl hRB (by omega))
      rw [h2, h3] at E6
      obtain ⟨f7, e7⟩ := rep_frame HUN.out HRR.out u
      obtain ⟨f8, e8⟩ := rep_frame HUN.out HRR.out v
      rw [if_pos rfl] at f7 e7
      have hPB := putL_Bs (Bs.cons hu hRB)
      have hPL : (putL (u :: bytesR r)).length ≤ 1000 := by rw [putL_length, List.length_cons]; omega
      obtain ⟨L, hL⟩ : ∃ L, putL (u :: bytesR r) = L := ⟨_, rfl⟩
      rw [hL] at E6 f7 e7 f8 e8 hPB hPL
      have E7 := Lib.hid (fun W A' c' (h : Rd W A' (bs L)) hc => rtu_Reply u A' L.length c' L W hu h rfl hPB hc (by omega))
      have E8 := Lib.hid (fun W A' c' (h : Rd W A' (bs L)) hc => rtu_Reply v A' L.length c' L W hv h rfl hPB hc (by omega))
      rw [f7, e7] at E7
      rw [f8, e8] at E8
      have S9 := Lib.hid (fun W Ax cx Bx dx (h1 : RpR W r Ax Bx) (h2 : RpR W r A' B') => reply_Same r r Ax cx Bx dx A' c' B' d' W h1 h2 (by omega) (by omega))
      rw [sameR_self] at S9
      simp only [Rp.v, rpV] at S9
      clear h1 hm h2 h3 hlen f7 e7 f8 e8 hL hPL
      go_wp2_with fail
      refine (E5.out _ (hR'.below hb)).mono ?_
      rintro e w8 ⟨A5, c5, rfl, o5, hs⟩
      clear p0 p1 p2 p3 p4 p5
      clear q0 q1 q2 q3 q4 q5
      replace bx := bx.all hs
      replace by_ := by_.all hs
      replace hb := bthen hb hs
      clear hs
      obtain ⟨p0, p1, p2, p3, p4, p5⟩ := bx.c6
      obtain ⟨q0, q1, q2, q3, q4, q5⟩ := by_.c6
      go_wp2_with fail
      refine (E6.out _ _ _ o5.rd).mono ?_
      rintro e w9 ⟨A6, c6, rfl, o6, hs⟩
      clear p0 p1 p2 p3 p4 p5
      clear q0 q1 q2 q3 q4 q5
      replace bx := bx.all hs
      replace by_ := by_.all hs
      replace hb := bthen hb hs
      clear hs
      obtain ⟨p0, p1, p2, p3, p4, p5⟩ := bx.c6
      obtain ⟨q0, q1, q2, q3, q4, q5⟩ := by_.c6
      have hc6 := o6.le.1
      rw [bs_length] at hc6
      clear o5
      go_wp2_with fail
      refine (E7.out _ _ _ o6.rd hc6).mono ?_
      rintro e w10 ⟨Ax, cx, Bx, dx, he, rwx, rbx, hs⟩
      simp only [Rp.v, rpV] at he
      subst he
      clear p0 p1 p2 p3 p4 p5
      clear q0 q1 q2 q3 q4 q5
      replace bx := bx.all hs
      replace by_ := by_.all hs
      replace o6 := o6.below hs
      replace hb := bthen hb hs
      clear hs
      obtain ⟨p0, p1, p2, p3, p4, p5⟩ := bx.c6
      obtain ⟨q0, q1, q2, q3, q4, q5⟩ := by_.c6
      go_upto_region 16 with fail
      have bxx := Blk.new w10 36 #[.int .u8 (r.fn : Int), .int .u8 (r.ex : Int), .slice Bx r.bits.length dx, .slice Ax r.words.length cx, .int .u16 (r.at_ : Int), .int .u16 (r.many : Int)]
      have hs := (Below.refl w10.heap.size w10).alloc (Nat.le_refl _) (.cells #[.int .u8 (r.fn : Int), .int .u8 (r.ex : Int), .slice Bx r.bits.length dx, .slice Ax r.words.length cx, .int .u16 (r.at_ : Int), .int .u16 (r.many : Int)] 36)
      generalize w10.alloc (.cells #[.int .u8 (r.fn : Int), .int .u8 (r.ex : Int), .slice Bx r.bits.length dx, .slice Ax r.words.length cx, .int .u16 (r.at_ : Int), .int .u16 (r.many : Int)] 36) = w11 at *
      obtain ⟨gx, hgx⟩ : ∃ g, w10.heap.size = g := ⟨_, rfl⟩
      have gxlt : w10.heap.size ≤ gx := by omega
      clear p0 p1 p2 p3 p4 p5
      clear q0 q1 q2 q3 q4 q5
      replace bx := bx.all hs
      replace by_ := by_.all hs
      replace o6 := o6.below hs
      replace rwx := rwx.below hs
      replace rbx := rbx.below hs
      replace hb := bthen hb hs
      clear hs
      obtain ⟨p0, p1, p2, p3, p4, p5⟩ := bx.c6
      obtain ⟨q0, q1, q2, q3, q4, q5⟩ := by_.c6
      rw [hgx] at bxx ⊢
      clear hgx gxlt
      go_wp2_with fail
      refine (E8.out _ _ _ o6.rd hc6).mono ?_
      rintro e w12 hT
      by_cases huv : u = v
      · rw [if_pos huv, if_pos huv] at hT
        obtain ⟨Ay, cy, By, dy, he, -, -, hs⟩ := hT
        simp only [Rp.v, rpV] at he
        subst he
        have t1 : ((u : Int) == (v : Int)) = true := by simp [huv]
        clear huv
        clear p0 p1 p2 p3 p4 p5
        clear q0 q1 q2 q3 q4 q5
        replace bx := bx.all hs
        replace by_ := by_.all hs
        replace o6 := o6.below hs
        replace rwx := rwx.below hs
        replace rbx := rbx.below hs
        replace bxx := bxx.all hs
        replace hb := bthen hb hs
        clear hs
        obtain ⟨p0, p1, p2, p3, p4, p5⟩ := bx.c6
        obtain ⟨q0, q1, q2, q3, q4, q5⟩ := by_.c6
        go_upto_region 17 with fail
        have by2 := Blk.new w12 36 #[.int .u8 (r.fn : Int), .int .u8 (r.ex : Int), .slice By r.bits.length dy, .slice Ay r.words.length cy, .int .u16 (r.at_ : Int), .int .u16 (r.many : Int)]
        have hs := (Below.refl w12.heap.size w12).alloc (Nat.le_refl _) (.cells #[.int .u8 (r.fn : Int), .int .u8 (r.ex : Int), .slice By r.bits.length dy, .slice Ay r.words.length cy, .int .u16 (r.at_ : Int), .int .u16 (r.many : Int)] 36)
        generalize w12.alloc (.cells #[.int .u8 (r.fn : Int), .int .u8 (r.ex : Int), .slice By r.bits.length dy, .slice Ay r.words.length cy, .int .u16 (r.at_ : Int), .int .u16 (r.many : Int)] 36) = w13 at *
        obtain ⟨gy, hgy⟩ : ∃ g, w12.heap.size = g := ⟨_, rfl⟩
        have gylt : w12.heap.size ≤ gy := by omega
        clear p0 p1 p2 p3 p4 p5
        clear q0 q1 q2 q3 q4 q5
        replace bx := bx.all hs
        replace by_ := by_.all hs
        replace o6 := o6.below hs
        replace rwx := rwx.below hs
        replace rbx := rbx.below hs
        replace bxx := bxx.all hs
        replace hb := bthen hb hs
        clear hs
        obtain ⟨p0, p1, p2, p3, p4, p5⟩ := bx.c6
        obtain ⟨q0, q1, q2, q3, q4, q5⟩ := by_.c6
        rw [hgy] at by2 ⊢
        clear hgy gylt
        obtain ⟨x0, x1, x2, x3, x4, x5⟩ := bxx.c6
        go_wp2_with fail
        refine (S9.out _ _ _ _ _ ⟨rwx.rd, rbx.rd⟩ (hR'.below hb)).mono ?_
        rintro e w14 ⟨rfl, hs⟩
        clear p0 p1 p2 p3 p4 p5
        clear q0 q1 q2 q3 q4 q5
        clear x0 x1 x2 x3 x4 x5
        replace bx := bx.all hs
        replace by_ := by_.all hs
        replace o6 := o6.below hs
        replace rwx := rwx.below hs
        replace rbx := rbx.below hs
        replace bxx := bxx.all hs
        replace by2 := by2.all hs
        replace hb := bthen hb hs
        clear hs
        obtain ⟨p0, p1, p2, p3, p4, p5⟩ := bx.c6
        obtain ⟨q0, q1, q2, q3, q4, q5⟩ := by_.c6
        obtain ⟨x0, x1, x2, x3, x4, x5⟩ := bxx.c6
        go_wp2_with fail
        refine (awk.out _).mono ?_
        rintro e wz ⟨rfl, hs⟩
        go_wp2_with fail
        go_ret
        exact ⟨rfl, bthen hb hs⟩
      · rw [if_neg huv, if_neg huv] at hT
        obtain ⟨he, hs⟩ := hT
        rw [show Rp.zero.v none 0 none 0 = .agg #[.int .u8 0, .int .u8 0, .slice none 0 0, .slice none 0 0, .int .u16 0, .int .u16 0] from rfl] at he
        subst he
        have t1 : ((u : Int) == (v : Int)) = false := by simp; omega
        clear huv
        clear p0 p1 p2 p3 p4 p5
        clear q0 q1 q2 q3 q4 q5
        replace bx := bx.all hs
        replace by_ := by_.all hs
        replace o6 := o6.below hs
        replace rwx := rwx.below hs
        replace rbx := rbx.below hs
        replace bxx := bxx.all hs
        replace hb := bthen hb hs
        clear hs
        obtain ⟨p0, p1, p2, p3, p4, p5⟩ := bx.c6
        obtain ⟨q0, q1, q2, q3, q4, q5⟩ := by_.c6
        go_upto_region 17 with fail
        have by2 := Blk.new w12 36 #[.int .u8 0, .int .u8 0, .slice none 0 0, .slice none 0 0, .int .u16 0, .int .u16 0]
        have hs := (Below.refl w12.heap.size w12).alloc (Nat.le_refl _) (.cells #[.int .u8 0, .int .u8 0, .slice none 0 0, .slice none 0 0, .int .u16 0, .int .u16 0] 36)
        generalize w12.alloc (.cells #[.int .u8 0, .int .u8 0, .slice none 0 0, .slice none 0 0, .int .u16 0, .int .u16 0] 36) = w13 at *
        obtain ⟨gy, hgy⟩ : ∃ g, w12.heap.size = g := ⟨_, rfl⟩
        have gylt : w12.heap.size ≤ gy := by omega
        clear p0 p1 p2 p3 p4 p5
        clear q0 q1 q2 q3 q4 q5
        replace bx := bx.all hs
        replace by_ := by_.all hs
        replace o6 := o6.below hs
        replace rwx := rwx.below hs
        replace rbx := rbx.below hs
        replace bxx := bxx.all hs
        replace hb := bthen hb hs
        clear hs
        obtain ⟨p0, p1, p2, p3, p4, p5⟩ := bx.c6
        obtain ⟨q0, q1, q2, q3, q4, q5⟩ := by_.c6
        rw [hgy] at by2 ⊢
        clear hgy gylt
        obtain ⟨x0, x1, x2, x3, x4, x5⟩ := bxx.c6
        go_wp2_with fail
        refine (S9.out _ _ _ _ _ ⟨rwx.rd, rbx.rd⟩ (hR'.below hb)).mono ?_
        rintro e w14 ⟨rfl, hs⟩
        clear p0 p1 p2 p3 p4 p5
        clear q0 q1 q2 q3 q4 q5
        clear x0 x1 x2 x3 x4 x5
        replace bx := bx.all hs
        replace by_ := by_.all hs
        replace o6 := o6.below hs
        replace rwx := rwx.below hs
        replace rbx := rbx.below hs
        replace bxx := bxx.all hs
        replace by2 := by2.all hs
        replace hb := bthen hb hs
        clear hs
        obtain ⟨p0, p1, p2, p3, p4, p5⟩ := bx.c6
        obtain ⟨q0, q1, q2, q3, q4, q5⟩ := by_.c6
        obtain ⟨x0, x1, x2, x3, x4, x5⟩ := bxx.c6
        go_wp2_with fail
        refine (awk.out _).mono ?_
        rintro e wz ⟨rfl, hs⟩
        go_wp2_with fail
        go_ret
        exact ⟨rfl, bthen hb hs⟩
end Go.Proofs.Ytgofgnaaoaoemaa
