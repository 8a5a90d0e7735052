/- Frames of requests and replies: rtu.Ask, rtu.Reply; the examples of chapter 4 (written by gen_rtub.py). -/
import Derived.Test.YtechhidfgheejaaRtuA
import Derived.Test.YtechhidfgheejaaRpF
namespace Go.Proofs.Ytechhidfgheejaa
open Go.RowKit
set_option linter.unusedSimpArgs false
set_option linter.unusedVariables false

def askF (u : Nat) (a : Ak) : List Nat := if rightA a then frmF u (bytesA a) else []
def askFE (u : Nat) (a : Ak) : Nat := if rightA a then frmE u (bytesA a) else 12
def repF (u : Nat) (l : List Nat) : Option Rp := if errF l ≠ 0 then none else if unitF l ≠ u then none else parseR (pduF l)
def repFE (u : Nat) (l : List Nat) : Nat := if errF l ≠ 0 then errF l else if unitF l ≠ u then 10 else if parseR (pduF l) = none then 13 else 0
theorem pduF_Bs {l : List Nat} (h : Bs l) : Bs (pduF l) := by
  unfold pduF
  split
  · exact (h.take _).drop _
  · intro x hx; cases hx
theorem unitF_lt {l : List Nat} (h : Bs l) : unitF l < 256 := by
  unfold unitF
  split
  · exact getD_lt h 0
  · decide
theorem errF_lt (l : List Nat) : errF l ≤ 11 := by
  unfold errF
  repeat' split
  all_goals omega

set_option maxRecDepth 100000 in
set_option maxHeartbeats 1000000 in
theorem rtu_Ask (u : Nat) (a : Ak) (A : Option Addr) (c : Nat) (B : Option Addr) (d : Nat) (w : World) (hu : u < 256) (hR : AkR w a A B) (hok : a.ok) (hw : a.words.length ≤ 1000000) (hk : a.bits.length ≤ 1000000) :
    Calls Try.prog 55 #[.int .u8 (u : Int), a.v A c B d] w fun e w' => ∃ A' c', e = .returned (.tuple #[.slice A' (askF u a).length c', .int .i64 (askFE u a : Nat)]) ∧ Ow w' w.heap.size 5 A' c' (bs (askF u a)) ∧ Below w.heap.size w w' := by
  have E1 := Lib.hid (fun W (h : AkR W a A B) => ask_Bytes a A c B d W h hok hw hk)
  have HA : Hid (askF u a = if rightA a then frmF u (bytesA a) else []) := rfl
  have HE : Hid (askFE u a = if rightA a then frmE u (bytesA a) else 12) := rfl
  have HB : Hid (rightA a = true → Bs (bytesN a)) := fun h => bytesA_Bs hok h
  obtain ⟨rt, hrt⟩ : ∃ b, rightA a = b := ⟨_, rfl⟩
  have HRT := Lib.hid hrt
  clear hrt
  simp only [Ak.v, akV] at E1 ⊢
  have hb := (Below.refl w.heap.size w).alloc (Nat.le_refl _) (.cells #[.int .u8 (a.fn : Int), .int .u16 (a.at_ : Int), .int .u16 (a.many : Int), .int .u16 (a.to_ : Int), .slice A a.words.length c, .slice B a.bits.length d] 41)
  have bx := Blk.new w 41 #[.int .u8 (a.fn : Int), .int .u16 (a.at_ : Int), .int .u16 (a.many : Int), .int .u16 (a.to_ : Int), .slice A a.words.length c, .slice B a.bits.length d]
  go_enter Try.func55, Try.ntmps55
  go_upto_region 1 with fail
  generalize w.alloc (.cells #[.int .u8 (a.fn : Int), .int .u16 (a.at_ : Int), .int .u16 (a.many : Int), .int .u16 (a.to_ : Int), .slice A a.words.length c, .slice B a.bits.length d] 41) = w1 at *
  obtain ⟨d0, d1, d2, d3, d4, d5⟩ := bx.c6
  go_wp2_with fail
  refine (E1.out _ (hR.below hb)).mono ?_
  rintro e w2 ⟨A2, c2, rfl, o2, hs⟩
  have hb2 := bthen hb hs
  cases rt with
  | false =>
    have e1 : errN a = 12 := by unfold errN; rw [if_neg (by simp [HRT.out])]
    have HV : Hid (askF u a = [] ∧ askFE u a = 12) := ⟨by rw [HA.out, if_neg (by simp [HRT.out])], by rw [HE.out, if_neg (by simp [HRT.out])]⟩
    rw [e1]
    clear e1
    go_wp2_with fail
    go_ret2
    exact ⟨none, 0, by rw [HV.out.1, HV.out.2]; rfl, by rw [HV.out.1]; exact Ow.nil, hb2⟩
  | true =>
    have e1 : errN a = 0 := by unfold errN; rw [if_pos HRT.out]
    have HV : Hid (askF u a = frmF u (bytesN a) ∧ askFE u a = frmE u (bytesN a)) := by
      have e2 : bytesN a = bytesA a := by unfold bytesN; rw [if_pos HRT.out]
      exact ⟨by rw [HA.out, if_pos HRT.out, e2], by rw [HE.out, if_pos HRT.out, e2]⟩
    have hlen : (bytesN a).length ≤ 1000 := by
      unfold bytesN; rw [if_pos HRT.out]
      have := (total_app HRT.out []).2.2.1
      omega
    have E2 := Lib.hid (rtu_Bytes u A2 (bytesN a).length c2 (bytesN a) w2 hu o2.rd rfl (HB.out HRT.out) (by omega))
    rw [e1]
    clear e1 hlen
    go_wp2_with fail
    refine E2.out.mono ?_
    rintro e w3 ⟨A3, c3, rfl, o3, hs3⟩
    go_wp2_with fail
    go_ret2
    exact ⟨A3, c3, by rw [HV.out.1, HV.out.2]; rfl, by rw [HV.out.1]; exact o3.base hb2.size, bthen hb2 hs3⟩
set_option maxRecDepth 100000 in
set_option maxHeartbeats 4000000 in
theorem rtu_Reply (u : Nat) (A : Option Addr) (n c : Nat) (l : List Nat) (w : World) (hu : u < 256) (hA : Rd w A (bs l)) (hn : l.length = n) (hl : Bs l) (hnc : n ≤ c) (hbig : n ≤ 1000000) :
    Calls Try.prog 57 #[.int .u8 (u : Int), .slice A n c] w fun e w' => ToldQ w (repF u l) (.int .i64 0) (.int .i64 (repFE u l : Nat)) e w' := by
  have HP : Hid (repF u l = if errF l ≠ 0 then none else if unitF l ≠ u then none else parseR (pduF l)) := rfl
  have HQ : Hid (repFE u l = if errF l ≠ 0 then errF l else if unitF l ≠ u then 10 else if parseR (pduF l) = none then 13 else 0) := rfl
  generalize repF u l = p at *
  generalize repFE u l = er at *
  have E1 := Lib.hid (fun W (h : Rd W A (bs l)) => rtu_Parse A n c l W h hn hl hnc hbig)
  have hun := unitF_lt hl
  have hpb := pduF_Bs hl
  have hel := errF_lt l
  have hpl : (pduF l).length ≤ 1000000 := by
    unfold pduF; split
    · rw [List.length_drop, List.length_take]; omega
    · simp
  obtain ⟨ef, hef⟩ : ∃ x, errF l = x := ⟨_, rfl⟩
  obtain ⟨un, hun1⟩ : ∃ x, unitF l = x := ⟨_, rfl⟩
  obtain ⟨pd, hpd⟩ : ∃ x, pduF l = x := ⟨_, rfl⟩
  rw [hef, hun1, hpd] at E1
  rw [hef, hun1, hpd] at HP HQ
  rw [hun1] at hun
  rw [hpd] at hpb hpl
  rw [hef] at hel
  clear hef hun1 hpd
  have hb := (Below.refl w.heap.size w).alloc (Nat.le_refl _) (.cells #[.int .u8 0, .int .u8 0, .slice none 0 0, .slice none 0 0, .int .u16 0, .int .u16 0] 36)
  have bz := Blk.new w 36 #[.int .u8 0, .int .u8 0, .slice none 0 0, .slice none 0 0, .int .u16 0, .int .u16 0]
  obtain ⟨g, hg⟩ : ∃ g, w.heap.size = g := ⟨_, rfl⟩
  have hwg : w.heap.size ≤ g := by omega
  go_enter Try.func57, Try.ntmps57
  go_upto_region 1 with fail
  rw [hg] at bz
  (try rw [hg])
  clear hg
  generalize w.alloc (.cells #[.int .u8 0, .int .u8 0, .slice none 0 0, .slice none 0 0, .int .u16 0, .int .u16 0] 36) = w1 at *
  have hgw1 : g < w1.heap.size := bz.lt
  have hww : w.heap.size ≤ w1.heap.size := hb.size
  go_wp2_with fail
  refine (E1.out _ (hA.below hb)).mono ?_
  rintro e w2 ⟨A2, c2, rfl, r2, hc2, hs⟩
  have hw12 := hs.size
  replace hb := bthen hb hs
  replace bz := bz.all hs
  clear hs
  by_cases he : ef ≠ 0
  · have v0 : ((ef : Int) != 0) = true := by simp; omega
    have HV : Hid (p = none ∧ er = ef) := ⟨by rw [HP.out, if_pos he], by rw [HQ.out, if_pos he]⟩
    clear he
    obtain ⟨z0, z1, z2, z3, z4, z5⟩ := bz.c6
    have q0 := bz.frozen 0
    have q1 := bz.frozen 1
    have q2 := bz.frozen 2
    have q3 := bz.frozen 3
    have q4 := bz.frozen 4
    have q5 := bz.frozen 5
    go_wp2_with fail
    refine bodyPost_ret (v := .tuple #[.agg #[.int .u8 0, .int .u8 0, .slice none 0 0, .slice none 0 0, .int .u16 0, .int .u16 0], .int .i64 (ef : Int)]) (by simp [results, Try.results57, go_sem, z0, z1, z2, z3, z4, z5]) rfl ?_
    rw [HV.out.1, HV.out.2]
    exact ⟨rfl, bset6 hb hwg _ _ _ _ _ _⟩
  have v0 : ((ef : Int) != 0) = false := by simp; omega
  by_cases hq : un ≠ u
  · have v1 : ((un : Int) != (u : Int)) = true := by simp; omega
    have HV : Hid (p = none ∧ er = 10) := ⟨by rw [HP.out, if_neg he, if_pos hq], by rw [HQ.out, if_neg he, if_pos hq]⟩
    clear hq
    obtain ⟨z0, z1, z2, z3, z4, z5⟩ := bz.c6
    have q0 := bz.frozen 0
    have q1 := bz.frozen 1
    have q2 := bz.frozen 2
    have q3 := bz.frozen 3
    have q4 := bz.frozen 4
    have q5 := bz.frozen 5
    go_wp2_with fail
    refine bodyPost_ret (v := .tuple #[.agg #[.int .u8 0, .int .u8 0, .slice none 0 0, .slice none 0 0, .int .u16 0, .int .u16 0], .int .i64 10]) (by simp [results, Try.results57, go_sem, z0, z1, z2, z3, z4, z5]) rfl ?_
    rw [HV.out.1, HV.out.2]
    exact ⟨rfl, bset6 hb hwg _ _ _ _ _ _⟩
  have v1 : ((un : Int) != (u : Int)) = false := by simp; omega
  have E2 := Lib.hid (reply_Parse A2 pd.length c2 pd w2 r2.rd rfl hpb hc2 (by omega))
  obtain ⟨pr, hpr⟩ : ∃ x, parseR pd = x := ⟨_, rfl⟩
  rw [hpr] at E2
  have HP2 : Hid (p = pr ∧ er = if pr = none then 13 else 0) := ⟨by rw [HP.out, if_neg he, if_neg hq, hpr], by rw [HQ.out, if_neg he, if_neg hq, hpr]⟩
  clear hpr he hq
  go_wp2_with fail
  refine E2.out.mono ?_
  rintro e w3 hT
  cases pr with
  | none =>
    obtain ⟨he, hs⟩ := hT
    rw [show Rp.zero.v none 0 none 0 = .agg #[.int .u8 0, .int .u8 0, .slice none 0 0, .slice none 0 0, .int .u16 0, .int .u16 0] from rfl] at he
    subst he
    have HV : Hid (p = none ∧ er = 13) := ⟨HP2.out.1, by rw [HP2.out.2, if_pos rfl]⟩
    replace hb := bthen hb hs
    replace bz := bz.all hs
    obtain ⟨z0, z1, z2, z3, z4, z5⟩ := bz.c6
    have q0 := bz.frozen 0
    have q1 := bz.frozen 1
    have q2 := bz.frozen 2
    have q3 := bz.frozen 3
    have q4 := bz.frozen 4
    have q5 := bz.frozen 5
    go_wp2_with fail
    refine bodyPost_ret (v := .tuple #[.agg #[.int .u8 0, .int .u8 0, .slice none 0 0, .slice none 0 0, .int .u16 0, .int .u16 0], .int .i64 13]) (by simp [results, Try.results57, go_sem, z0, z1, z2, z3, z4, z5]) rfl ?_
    rw [HV.out.1, HV.out.2]
    exact ⟨rfl, bset6 hb hwg _ _ _ _ _ _⟩
  | some r =>
    obtain ⟨Ax, cx, Bx, dx, he, rx, ry, hs⟩ := hT
    simp only [Rp.v, rpV] at he
    subst he
    have HV : Hid (p = some r ∧ er = 0) := ⟨HP2.out.1, by rw [HP2.out.2, if_neg (by simp)]⟩
    replace hb := bthen hb hs
    replace bz := bz.all hs
    obtain ⟨z0, z1, z2, z3, z4, z5⟩ := bz.c6
    have q0 := bz.frozen 0
    have q1 := bz.frozen 1
    have q2 := bz.frozen 2
    have q3 := bz.frozen 3
    have q4 := bz.frozen 4
    have q5 := bz.frozen 5
    go_wp2_with fail
    refine bodyPost_ret (v := .tuple #[.agg #[.int .u8 (r.fn : Int), .int .u8 (r.ex : Int), .slice Bx r.bits.length dx, .slice Ax r.words.length cx, .int .u16 (r.at_ : Int), .int .u16 (r.many : Int)], .int .i64 0]) (by simp [results, Try.results57, go_sem, z0, z1, z2, z3, z4, z5]) rfl ?_
    rw [HV.out.1, HV.out.2]
    exact ⟨Ax, cx, Bx, dx, rfl, RdN.set6 ⟨rx, by omega⟩ (by omega), RdN.set6 ⟨ry, by omega⟩ (by omega), bset6 hb hwg _ _ _ _ _ _⟩
theorem rt1 : askF 1 ⟨3, 0, 10, 0, [], []⟩ = [1, 3, 0, 0, 0, 10, 197, 205] ∧ askFE 1 ⟨3, 0, 10, 0, [], []⟩ = 0 := by decide +kernel
theorem rt2 : repF 1 [1, 131, 2, 192, 241] = some ⟨3, 2, [], [], 0, 0⟩ ∧ repFE 1 [1, 131, 2, 192, 241] = 0 := by decide +kernel
theorem rt3 : repF 2 [1, 131, 2, 192, 241] = none ∧ repFE 2 [1, 131, 2, 192, 241] = 10 := by decide +kernel

set_option maxRecDepth 100000 in
set_option maxHeartbeats 4000000 in
theorem rtu_awake (w0 : World) : Calls Try.prog 50 #[] w0 fun e w' => e = .returned (.bool true) ∧ Below w0.heap.size w0 w' := by
  have E1 := Lib.hid (rtu_Ask 1 ⟨3, 0, 10, 0, [], []⟩ none 0 none 0 w0 (by decide) ⟨Rd.nil, Rd.nil⟩ ⟨by decide, by decide, by decide, by decide, by decide⟩ (by decide) (by decide))
  rw [rt1.1, rt1.2] at E1
  simp only [Ak.v, akV, List.length_nil, List.length_cons, Nat.zero_add, Nat.reduceAdd] at E1
  go_enter Try.func50, Try.ntmps50
  go_wp2_with fail
  refine E1.out.mono ?_
  rintro e w1 ⟨A1, c1, rfl, o1, hb⟩
  have E2 := Lib.hid (rtu_Reply 1 (some ⟨w1.heap.size, 0, none⟩) 5 5 [1, 131, 2, 192, 241] (w1.alloc (.cells #[.int .u8 1, .int .u8 131, .int .u8 2, .int .u8 192, .int .u8 241] 5)) (by decide) (Rd.lit w1 5 [.int .u8 1, .int .u8 131, .int .u8 2, .int .u8 192, .int .u8 241] rfl) rfl (by decide) (Nat.le_refl _) (by decide))
  rw [rt2.1, rt2.2] at E2
  go_wp2_with fail
  refine E2.out.mono ?_
  rintro e w2 ⟨Ax, cx, Bx, dx, he, rx, ry, hs⟩
  simp only [Rp.v, rpV, List.length_nil] at he
  subst he
  have h1 := ((Below.refl w1.heap.size w1).alloc (Nat.le_refl _) (.cells #[.int .u8 1, .int .u8 131, .int .u8 2, .int .u8 192, .int .u8 241] 5))
  have o2 := (o1.below h1).below hs
  have hb2 := bthen (bthen hb h1) hs
  have bx := Blk.new w2 36 #[.int .u8 3, .int .u8 2, .slice Bx 0 dx, .slice Ax 0 cx, .int .u16 0, .int .u16 0]
  have h3 := (Below.refl w2.heap.size w2).alloc (Nat.le_refl _) (.cells #[.int .u8 3, .int .u8 2, .slice Bx 0 dx, .slice Ax 0 cx, .int .u16 0, .int .u16 0] 36)
  go_upto_region 3 with fail
  generalize w2.alloc (.cells #[.int .u8 3, .int .u8 2, .slice Bx 0 dx, .slice Ax 0 cx, .int .u16 0, .int .u16 0] 36) = w3 at *
  obtain ⟨g, hg⟩ : ∃ g, w2.heap.size = g := ⟨_, rfl⟩
  rw [hg] at bx ⊢
  clear hg
  have o3 := o2.below h3
  have hb3 := bthen hb2 h3
  have E3 := Lib.hid (rtu_Reply 2 (some ⟨w3.heap.size, 0, none⟩) 5 5 [1, 131, 2, 192, 241] (w3.alloc (.cells #[.int .u8 1, .int .u8 131, .int .u8 2, .int .u8 192, .int .u8 241] 5)) (by decide) (Rd.lit w3 5 [.int .u8 1, .int .u8 131, .int .u8 2, .int .u8 192, .int .u8 241] rfl) rfl (by decide) (Nat.le_refl _) (by decide))
  rw [rt3.1, rt3.2] at E3
  clear h1 hs hb2 hb h3 o2 o1
  go_wp2_with fail
  refine E3.out.mono ?_
  rintro e w4 ⟨he, hs⟩
  rw [show Rp.zero.v none 0 none 0 = .agg #[.int .u8 0, .int .u8 0, .slice none 0 0, .slice none 0 0, .int .u16 0, .int .u16 0] from rfl] at he
  subst he
  have h4 := (Below.refl w3.heap.size w3).alloc (Nat.le_refl _) (.cells #[.int .u8 1, .int .u8 131, .int .u8 2, .int .u8 192, .int .u8 241] 5)
  have h5 := (Below.refl w4.heap.size w4).alloc (Nat.le_refl _) (.cells #[.int .u8 0, .int .u8 0, .slice none 0 0, .slice none 0 0, .int .u16 0, .int .u16 0] 36)
  have hb5 := bthen (bthen (bthen hb3 h4) hs) h5
  have o5 := ((o3.below h4).below hs).below h5
  have bx5 := ((bx.all h4).all hs).all h5
  go_upto_region 4 with fail
  generalize w4.alloc (.cells #[.int .u8 0, .int .u8 0, .slice none 0 0, .slice none 0 0, .int .u16 0, .int .u16 0] 36) = w5 at *
  have h6 := (Below.refl w5.heap.size w5).alloc (Nat.le_refl _) (.cells #[.int .u8 1, .int .u8 3, .int .u8 0, .int .u8 0, .int .u8 0, .int .u8 10, .int .u8 197, .int .u8 205] 5)
  have S1 := Lib.hid (low_Same A1 (some ⟨w5.heap.size, 0, none⟩) 8 c1 8 8 [1, 3, 0, 0, 0, 10, 197, 205] [1, 3, 0, 0, 0, 10, 197, 205] (w5.alloc (.cells #[.int .u8 1, .int .u8 3, .int .u8 0, .int .u8 0, .int .u8 0, .int .u8 10, .int .u8 197, .int .u8 205] 5)) (o5.rd.alloc _) (Rd.lit w5 5 [.int .u8 1, .int .u8 3, .int .u8 0, .int .u8 0, .int .u8 0, .int .u8 10, .int .u8 197, .int .u8 205] rfl) (by decide) (by decide) rfl rfl)
  rw [sameB_self] at S1
  have bx6 := bx5.all h6
  obtain ⟨d0, d1, d2, d3, d4, d5⟩ := bx6.c6
  have S2 := Lib.hid (reply_Same ⟨3, 2, [], [], 0, 0⟩ ⟨3, 2, [], [], 0, 0⟩ Ax cx Bx dx none 0 none 0 (w5.alloc (.cells #[.int .u8 1, .int .u8 3, .int .u8 0, .int .u8 0, .int .u8 0, .int .u8 10, .int .u8 197, .int .u8 205] 5)) ⟨Rd.nil, Rd.nil⟩ ⟨Rd.nil, Rd.nil⟩ (by decide) (by decide))
  rw [sameR_self] at S2
  simp only [Rp.v, rpV, List.length_nil] at S2
  clear hb3 h4 hs h5 o3 bx bx5 o5
  go_wp2_with fail
  refine S1.out.mono ?_
  rintro e w6 ⟨rfl, rfl⟩
  go_wp2_with fail
  refine S2.out.mono ?_
  rintro e w7 ⟨rfl, hs⟩
  go_wp2_with fail
  go_ret
  exact ⟨rfl, bthen (bthen hb5 h6) hs⟩
end Go.Proofs.Ytechhidfgheejaa
