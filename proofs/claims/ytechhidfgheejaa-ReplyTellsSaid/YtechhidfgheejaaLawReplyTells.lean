/- The walk of the law ReplyTells (written by gen_replytells.py). -/
import Derived.Test.YtechhidfgheejaaRefRE
import Derived.Test.YtechhidfgheejaaRefRG
import Derived.Test.YtechhidfgheejaaRpAwake
import Derived.Test.YtechhidfgheejaaLowB
import Derived.Deep.DeepCutAuto
namespace Go.Proofs.Ytechhidfgheejaa
open Go.RowKit
set_option linter.unusedSimpArgs false
set_option linter.unusedVariables false

/-- what is told of bytes, either way -/
theorem ToldP.any {w w' : World} {r : Option Rp} {e : Ending} (h : ToldP w r e w') :
    ∃ A c B d, e = .returned (.tuple #[(r.getD Rp.zero).v A c B d, .int .i64 ((if r.isSome then 0 else 13 : Nat) : Int)]) ∧ (RdN w.heap.size w' A (ws (r.getD Rp.zero).words) ∧ RdN w.heap.size w' B (os (r.getD Rp.zero).bits)) ∧ Below w.heap.size w w' := by
  cases r with
  | none => exact ⟨none, 0, none, 0, h.1, ⟨RdN.nil, RdN.nil⟩, h.2⟩
  | some a =>
    obtain ⟨A, c, B, d, he, h1, h2, hb⟩ := h
    exact ⟨A, c, B, d, he, ⟨h1, h2⟩, hb⟩
theorem ToldQ.any {w w' : World} {r : Option Rp} {e : Ending} (h : ToldQ w r (.bool true) (.bool false) e w') :
    ∃ A c B d, e = .returned (.tuple #[(r.getD Rp.zero).v A c B d, .bool r.isSome]) ∧ (RdN w.heap.size w' A (ws (r.getD Rp.zero).words) ∧ RdN w.heap.size w' B (os (r.getD Rp.zero).bits)) ∧ Below w.heap.size w w' := by
  cases r with
  | none => exact ⟨none, 0, none, 0, h.1, ⟨RdN.nil, RdN.nil⟩, h.2⟩
  | some a =>
    obtain ⟨A, c, B, d, he, h1, h2, hb⟩ := h
    exact ⟨A, c, B, d, he, ⟨h1, h2⟩, hb⟩
theorem Rp.zero_ok : Rp.zero.ok := ⟨by decide, by decide, (fun x hx => by cases hx), by decide, by decide⟩
theorem parseR_small {l : List Nat} (hl : Bs l) (hn : l.length ≤ 300) : ((parseR l).getD Rp.zero).ok ∧ ((parseR l).getD Rp.zero).words.length ≤ 1000 ∧ ((parseR l).getD Rp.zero).bits.length ≤ 5000 := by
  cases hp : parseR l with
  | none => exact ⟨Rp.zero_ok, by decide, by decide⟩
  | some r =>
    obtain ⟨k, rfl, -⟩ := parseR_read hp
    have := readK_len k l
    exact ⟨readK_ok hl, by simp only [Option.getD_some]; omega, by simp only [Option.getD_some]; omega⟩
theorem echo_small {a : Ak} (hok : a.ok) : ((echoA a).getD Rp.zero).ok ∧ ((echoA a).getD Rp.zero).words.length ≤ 1 ∧ ((echoA a).getD Rp.zero).bits.length ≤ 1 := by
  cases he : echoA a with
  | none => exact ⟨Rp.zero_ok, by decide, by decide⟩
  | some e => exact echo_ok hok he

set_option maxRecDepth 100000 in
set_option maxHeartbeats 8000000 in
theorem ReplyTells_walk (r : Rp) (Ar : Option Addr) (cr : Nat) (Br : Option Addr) (dr : Nat) (o : Rp) (Ao : Option Addr) (co : Nat) (Bo : Option Addr) (do_ : Nat) (a : Ak) (Aa : Option Addr) (ca : Nat) (Ba : Option Addr) (da : Nat) (A : Option Addr) (n c : Nat) (l : List Nat) (f ex : Nat) (w : World) (hRr : RpR w r Ar Br) (hor : r.ok) (hcr : r.words.length ≤ cr) (hdr : r.bits.length ≤ dr) (hRo : RpR w o Ao Bo) (hoo : o.ok) (hRa : AkR w a Aa Ba) (hoa : a.ok) (hA : Rd w A (bs l)) (hn : l.length = n) (hl : Bs l) (hnc : n ≤ c) (hf : f < 256) (hex : ex < 256) :
    Calls Try.prog 8 #[r.v Ar cr Br dr, o.v Ao co Bo do_, a.v Aa ca Ba da, .slice A n c, .int .u8 (f : Int), .int .u8 (ex : Int)] w fun e w' => e = .returned (.bool true) ∧ Below w.heap.size w w' := by
  have HN := Lib.hid hn
  clear hn
  have E1 := Lib.hid (fun W => low_Few Ar r.words.length cr Br r.bits.length dr W)
  have E2 := Lib.hid (fun W => low_Few Ao o.words.length co Bo o.bits.length do_ W)
  have E3 := Lib.hid (fun W => low_Few Aa a.words.length ca Ba a.bits.length da W)
  obtain ⟨f1, hf1⟩ : ∃ b, fewN r.words.length r.bits.length = b := ⟨_, rfl⟩
  obtain ⟨f2, hf2⟩ : ∃ b, fewN o.words.length o.bits.length = b := ⟨_, rfl⟩
  obtain ⟨f3, hf3⟩ : ∃ b, fewN a.words.length a.bits.length = b := ⟨_, rfl⟩
  rw [hf1] at E1
  rw [hf2] at E2
  rw [hf3] at E3
  simp only [Ak.v, akV, Rp.v, rpV]
  have hb := (((Below.refl w.heap.size w).alloc (Nat.le_refl _) (.cells #[.int .u8 (r.fn : Int), .int .u8 (r.ex : Int), .slice Br r.bits.length dr, .slice Ar r.words.length cr, .int .u16 (r.at_ : Int), .int .u16 (r.many : Int)] 36)).alloc (by simp) (.cells #[.int .u8 (o.fn : Int), .int .u8 (o.ex : Int), .slice Bo o.bits.length do_, .slice Ao o.words.length co, .int .u16 (o.at_ : Int), .int .u16 (o.many : Int)] 36)).alloc (by simp; omega) (.cells #[.int .u8 (a.fn : Int), .int .u16 (a.at_ : Int), .int .u16 (a.many : Int), .int .u16 (a.to_ : Int), .slice Aa a.words.length ca, .slice Ba a.bits.length da] 41)
  have br := ((Blk.newAt w 36 #[.int .u8 (r.fn : Int), .int .u8 (r.ex : Int), .slice Br r.bits.length dr, .slice Ar r.words.length cr, .int .u16 (r.at_ : Int), .int .u16 (r.many : Int)] (w.heap.size) rfl).alloc (.cells #[.int .u8 (o.fn : Int), .int .u8 (o.ex : Int), .slice Bo o.bits.length do_, .slice Ao o.words.length co, .int .u16 (o.at_ : Int), .int .u16 (o.many : Int)] 36)).alloc (.cells #[.int .u8 (a.fn : Int), .int .u16 (a.at_ : Int), .int .u16 (a.many : Int), .int .u16 (a.to_ : Int), .slice Aa a.words.length ca, .slice Ba a.bits.length da] 41)
  have bo := (Blk.newAt (w.alloc (.cells #[.int .u8 (r.fn : Int), .int .u8 (r.ex : Int), .slice Br r.bits.length dr, .slice Ar r.words.length cr, .int .u16 (r.at_ : Int), .int .u16 (r.many : Int)] 36)) 36 #[.int .u8 (o.fn : Int), .int .u8 (o.ex : Int), .slice Bo o.bits.length do_, .slice Ao o.words.length co, .int .u16 (o.at_ : Int), .int .u16 (o.many : Int)] (w.heap.size + 1) (by simp [World.size_alloc])).alloc (.cells #[.int .u8 (a.fn : Int), .int .u16 (a.at_ : Int), .int .u16 (a.many : Int), .int .u16 (a.to_ : Int), .slice Aa a.words.length ca, .slice Ba a.bits.length da] 41)
  have ba := Blk.newAt ((w.alloc (.cells #[.int .u8 (r.fn : Int), .int .u8 (r.ex : Int), .slice Br r.bits.length dr, .slice Ar r.words.length cr, .int .u16 (r.at_ : Int), .int .u16 (r.many : Int)] 36)).alloc (.cells #[.int .u8 (o.fn : Int), .int .u8 (o.ex : Int), .slice Bo o.bits.length do_, .slice Ao o.words.length co, .int .u16 (o.at_ : Int), .int .u16 (o.many : Int)] 36)) 41 #[.int .u8 (a.fn : Int), .int .u16 (a.at_ : Int), .int .u16 (a.many : Int), .int .u16 (a.to_ : Int), .slice Aa a.words.length ca, .slice Ba a.bits.length da] (w.heap.size + 1 + 1) (by simp [World.size_alloc])
  go_enter Try.func8, Try.ntmps8
  go_upto_region 1 with fail
  obtain ⟨go_, hgo_⟩ : ∃ g, w.heap.size + 1 = g := ⟨_, rfl⟩
  rw [hgo_] at bo ba ⊢
  obtain ⟨ga, hga⟩ : ∃ g, go_ + 1 = g := ⟨_, rfl⟩
  rw [hga] at ba ⊢
  obtain ⟨gr, hgr⟩ : ∃ g, w.heap.size = g := ⟨_, rfl⟩
  rw [hgr] at br ⊢
  generalize ((w.alloc (.cells #[.int .u8 (r.fn : Int), .int .u8 (r.ex : Int), .slice Br r.bits.length dr, .slice Ar r.words.length cr, .int .u16 (r.at_ : Int), .int .u16 (r.many : Int)] 36)).alloc (.cells #[.int .u8 (o.fn : Int), .int .u8 (o.ex : Int), .slice Bo o.bits.length do_, .slice Ao o.words.length co, .int .u16 (o.at_ : Int), .int .u16 (o.many : Int)] 36)).alloc (.cells #[.int .u8 (a.fn : Int), .int .u16 (a.at_ : Int), .int .u16 (a.many : Int), .int .u16 (a.to_ : Int), .slice Aa a.words.length ca, .slice Ba a.bits.length da] 41) = w1 at *
  have hwgr : w.heap.size ≤ gr := by omega
  have hwgo_ : w.heap.size ≤ go_ := by omega
  have hwga : w.heap.size ≤ ga := by omega
  clear hgr hgo_ hga
  obtain ⟨p0, p1, p2, p3, p4, p5⟩ := br.c6
  obtain ⟨q0, q1, q2, q3, q4, q5⟩ := bo.c6
  obtain ⟨s0, s1, s2, s3, s4, s5⟩ := ba.c6
  cases f1 with
  | false =>
    go_wp2_with fail
    refine (E1.out _).mono ?_
    rintro e wq ⟨rfl, rfl⟩
    go_wp2_with fail
    refine (reply_awake _).mono ?_
    rintro e wz ⟨rfl, hs⟩
    go_wp2_with fail
    go_ret
    exact ⟨rfl, bthen hb hs⟩
  | true =>
  cases f2 with
  | false =>
    go_wp2_with fail
    refine (E1.out _).mono ?_
    rintro e wq ⟨rfl, rfl⟩
    go_wp2_with fail
    refine (E2.out _).mono ?_
    rintro e wq ⟨rfl, rfl⟩
    go_wp2_with fail
    refine (reply_awake _).mono ?_
    rintro e wz ⟨rfl, hs⟩
    go_wp2_with fail
    go_ret
    exact ⟨rfl, bthen hb hs⟩
  | true =>
  cases f3 with
  | false =>
    go_wp2_with fail
    refine (E1.out _).mono ?_
    rintro e wq ⟨rfl, rfl⟩
    go_wp2_with fail
    refine (E2.out _).mono ?_
    rintro e wq ⟨rfl, rfl⟩
    go_wp2_with fail
    refine (E3.out _).mono ?_
    rintro e wq ⟨rfl, rfl⟩
    go_wp2_with fail
    refine (reply_awake _).mono ?_
    rintro e wz ⟨rfl, hs⟩
    go_wp2_with fail
    go_ret
    exact ⟨rfl, bthen hb hs⟩
  | true =>
  obtain ⟨lr1, lr2⟩ := fewN_le hf1
  obtain ⟨lo1, lo2⟩ := fewN_le hf2
  obtain ⟨la1, la2⟩ := fewN_le hf3
  clear hf1 hf2 hf3
  by_cases hbig : 300 < n
  · have v1 : decide ((300 : Int) < (n : Int)) = true := decide_eq_true (by omega)
    go_wp2_with fail
    refine (E1.out _).mono ?_
    rintro e wq ⟨rfl, rfl⟩
    go_wp2_with fail
    refine (E2.out _).mono ?_
    rintro e wq ⟨rfl, rfl⟩
    go_wp2_with fail
    refine (E3.out _).mono ?_
    rintro e wq ⟨rfl, rfl⟩
    go_wp2_with fail
    refine (reply_awake _).mono ?_
    rintro e wz ⟨rfl, hs⟩
    go_wp2_with fail
    go_ret
    exact ⟨rfl, bthen hb hs⟩
  have v1 : decide ((300 : Int) < (n : Int)) = false := decide_eq_false (by omega)
  have hl0 : n ≤ 300 := by omega
  clear hbig
  go_wp2_with fail
  refine (E1.out _).mono ?_
  rintro e wq ⟨rfl, rfl⟩
  go_wp2_with fail
  refine (E2.out _).mono ?_
  rintro e wq ⟨rfl, rfl⟩
  go_wp2_with fail
  refine (E3.out _).mono ?_
  rintro e wq ⟨rfl, rfl⟩
  clear E1 E2 E3
  clear p0 p1 p2 p3 p4 p5
  clear q0 q1 q2 q3 q4 q5
  clear s0 s1 s2 s3 s4 s5
  replace hRr := hRr.below hb
  replace hRa := hRa.below hb
  replace hRo := hRo.below hb
  replace hA := hA.below hb
  have HE : Hid (bs [] = []) := rfl
  go_wp2_with (at_builtin; refine app_b rfl _ _ rfl w1 ((Below.refl _ _).alloc (Nat.le_refl _) _) _ _ _ [] rfl (Ow.lit _ _ _ [] (Nat.le_refl _) (Nat.zero_le _) HE.out rfl) rfl A n c l rfl (hA.alloc _) HN.out (by omega) ?_)
  intro A2 c2 w2 o2 hs hg
  clear hg HE
  replace br := br.all hs
  replace bo := bo.all hs
  replace ba := ba.all hs
  replace hRr := hRr.below hs
  replace hRo := hRo.below hs
  replace hRa := hRa.below hs
  replace hA := hA.below hs
  replace hb := bthen hb hs
  clear hs
  have hnc2 : n ≤ c2 := by have := o2.le; rw [bs_length] at this; have := HN.out; simp at *; omega
  replace o2 := o2.rd
  (try rw [List.nil_append] at o2)
  go_upto_region 4 with fail
  (try rw [Nat.zero_add])
  obtain ⟨nx, hnx⟩ : ∃ k, (bytesR r).length = k := ⟨_, rfl⟩
  have HNX := Lib.hid hnx
  obtain ⟨er, her⟩ : ∃ k, errR r = k := ⟨_, rfl⟩
  obtain ⟨rt, hrt⟩ : ∃ k, rightR r = k := ⟨_, rfl⟩
  obtain ⟨sm, hsm⟩ : ∃ k, sameR r o = k := ⟨_, rfl⟩
  have F1 := Lib.hid (fun W (h : RpR W r Ar Br) => reply_Bytes r Ar cr Br dr W h hor (by omega) (by omega))
  have F2 := Lib.hid (fun W (h : RpR W r Ar Br) => rref_Bytes r Ar cr Br dr W h hor (by omega) (by omega))
  have G1 := Lib.hid (fun W (h : RpR W r Ar Br) => reply_Right r Ar cr Br dr W h hor (by omega) (by omega))
  have G2 := Lib.hid (fun W => rref_Right r Ar cr Br dr W (by omega) (by omega))
  have S1 := Lib.hid (fun W (h1 : RpR W r Ar Br) (h2 : RpR W o Ao Bo) => reply_Same r o Ar cr Br dr Ao co Bo do_ W h1 h2 (by omega) (by omega))
  have S2 := Lib.hid (fun W (h1 : RpR W r Ar Br) (h2 : RpR W o Ao Bo) => rref_Same r o Ar cr Br dr Ao co Bo do_ W h1 h2 (by omega) (by omega))
  simp only [hrt] at G1 G2
  simp only [hsm] at S1 S2
  have hBx : Bs (bytesR r) := by
    by_cases h : rightR r = true
    · exact bytesR_Bs hor h
    · rw [bytesR_not (Bool.eq_false_iff.2 h)]; intro x hx; cases hx
  simp only [her, hnx] at F1 F2
  simp only [Rp.v, rpV] at F1 F2 S1 S2 G1 G2
  clear hnx her hrt hsm
  obtain ⟨p0, p1, p2, p3, p4, p5⟩ := br.c6
  go_wp2_with fail
  refine (F1.out _ hRr).mono ?_
  rintro e w3 ⟨A3, c3, rfl, o3, hs⟩
  clear p0 p1 p2 p3 p4 p5
  replace br := br.all hs
  replace bo := bo.all hs
  replace ba := ba.all hs
  replace hRr := hRr.below hs
  replace hRo := hRo.below hs
  replace hRa := hRa.below hs
  replace hA := hA.below hs
  replace o2 := o2.below hs
  replace hb := bthen hb hs
  clear hs
  obtain ⟨p0, p1, p2, p3, p4, p5⟩ := br.c6
  replace o3 := o3.rd
  go_wp2_with fail
  refine (F2.out _ hRr).mono ?_
  rintro e w4 ⟨A4, c4, rfl, o4, hs⟩
  clear p0 p1 p2 p3 p4 p5
  replace br := br.all hs
  replace bo := bo.all hs
  replace ba := ba.all hs
  replace hRr := hRr.below hs
  replace hRo := hRo.below hs
  replace hRa := hRa.below hs
  replace hA := hA.below hs
  replace o2 := o2.below hs
  replace o3 := o3.below hs
  replace hb := bthen hb hs
  clear hs
  obtain ⟨p0, p1, p2, p3, p4, p5⟩ := br.c6
  replace o4 := o4.rd
  clear F1 F2
  clear p0 p1 p2 p3 p4 p5
  obtain ⟨x, hx⟩ : ∃ x, (parseR l).getD Rp.zero = x := ⟨_, rfl⟩
  obtain ⟨ep, hep⟩ : ∃ k, (if (parseR l).isSome then 0 else 13 : Nat) = k := ⟨_, rfl⟩
  obtain ⟨hxs, hxw, hxk⟩ := parseR_small hl (by rw [HN.out]; exact hl0)
  rw [hx] at hxs hxw hxk
  have P1 := Lib.hid (fun W h => (reply_Parse A2 n c2 l W h HN.out hl hnc2 (by omega)).mono fun e w' (hT : ToldP W (parseR l) e w') => hT.any)
  have P2 := Lib.hid (fun W h => (rref_Parse A n c l W h HN.out hl hnc (by omega)).mono fun e w' (hT : ToldP W (parseR l) e w') => hT.any)
  simp only [hx, hep] at P1 P2
  simp only [Rp.v, rpV] at P1 P2
  clear hx hep
  go_wp2_with fail
  refine (P1.out _ o2).mono ?_
  rintro e w5 ⟨A5, c5, B5, d5, rfl, ⟨rw5, rb5⟩, hs⟩
  replace br := br.all hs
  replace bo := bo.all hs
  replace ba := ba.all hs
  replace hRr := hRr.below hs
  replace hRo := hRo.below hs
  replace hRa := hRa.below hs
  replace hA := hA.below hs
  replace o2 := o2.below hs
  replace o3 := o3.below hs
  replace o4 := o4.below hs
  replace hb := bthen hb hs
  clear hs
  go_upto_region 7 with fail
  have bk5 := Blk.new w5 36 #[.int .u8 (x.fn : Int), .int .u8 (x.ex : Int), .slice B5 x.bits.length d5, .slice A5 x.words.length c5, .int .u16 (x.at_ : Int), .int .u16 (x.many : Int)]
  have hs := (Below.refl w5.heap.size w5).alloc (Nat.le_refl _) (.cells #[.int .u8 (x.fn : Int), .int .u8 (x.ex : Int), .slice B5 x.bits.length d5, .slice A5 x.words.length c5, .int .u16 (x.at_ : Int), .int .u16 (x.many : Int)] 36)
  generalize w5.alloc (.cells #[.int .u8 (x.fn : Int), .int .u8 (x.ex : Int), .slice B5 x.bits.length d5, .slice A5 x.words.length c5, .int .u16 (x.at_ : Int), .int .u16 (x.many : Int)] 36) = w6 at *
  obtain ⟨g5, hg5⟩ : ∃ g, w5.heap.size = g := ⟨_, rfl⟩
  have g5lt : w5.heap.size ≤ g5 := by omega
  replace br := br.all hs
  replace bo := bo.all hs
  replace ba := ba.all hs
  replace hRr := hRr.below hs
  replace hRo := hRo.below hs
  replace hRa := hRa.below hs
  replace hA := hA.below hs
  replace o2 := o2.below hs
  replace o3 := o3.below hs
  replace o4 := o4.below hs
  replace rw5 := rw5.below hs
  replace rb5 := rb5.below hs
  replace hb := bthen hb hs
  clear hs
  rw [hg5] at bk5 ⊢
  clear hg5 g5lt
  go_wp2_with fail
  refine (P2.out _ hA).mono ?_
  rintro e w7 ⟨A6, c6, B6, d6, rfl, ⟨rw6, rb6⟩, hs⟩
  replace br := br.all hs
  replace bo := bo.all hs
  replace ba := ba.all hs
  replace hRr := hRr.below hs
  replace hRo := hRo.below hs
  replace hRa := hRa.below hs
  replace hA := hA.below hs
  replace o2 := o2.below hs
  replace o3 := o3.below hs
  replace o4 := o4.below hs
  replace rw5 := rw5.below hs
  replace rb5 := rb5.below hs
  replace bk5 := bk5.all hs
  replace hb := bthen hb hs
  clear hs
  go_upto_region 8 with fail
  have bk6 := Blk.new w7 36 #[.int .u8 (x.fn : Int), .int .u8 (x.ex : Int), .slice B6 x.bits.length d6, .slice A6 x.words.length c6, .int .u16 (x.at_ : Int), .int .u16 (x.many : Int)]
  have hs := (Below.refl w7.heap.size w7).alloc (Nat.le_refl _) (.cells #[.int .u8 (x.fn : Int), .int .u8 (x.ex : Int), .slice B6 x.bits.length d6, .slice A6 x.words.length c6, .int .u16 (x.at_ : Int), .int .u16 (x.many : Int)] 36)
  generalize w7.alloc (.cells #[.int .u8 (x.fn : Int), .int .u8 (x.ex : Int), .slice B6 x.bits.length d6, .slice A6 x.words.length c6, .int .u16 (x.at_ : Int), .int .u16 (x.many : Int)] 36) = w8 at *
  obtain ⟨g6, hg6⟩ : ∃ g, w7.heap.size = g := ⟨_, rfl⟩
  have g6lt : w7.heap.size ≤ g6 := by omega
  replace br := br.all hs
  replace bo := bo.all hs
  replace ba := ba.all hs
  replace hRr := hRr.below hs
  replace hRo := hRo.below hs
  replace hRa := hRa.below hs
  replace hA := hA.below hs
  replace o2 := o2.below hs
  replace o3 := o3.below hs
  replace o4 := o4.below hs
  replace rw5 := rw5.below hs
  replace rb5 := rb5.below hs
  replace bk5 := bk5.all hs
  replace rw6 := rw6.below hs
  replace rb6 := rb6.below hs
  replace hb := bthen hb hs
  clear hs
  rw [hg6] at bk6 ⊢
  clear hg6 g6lt
  clear P1 P2
  have L1 := Lib.hid (fun W (h1 : Rd W A3 (bs (bytesR r))) (h2 : Rd W A4 (bs (bytesR r))) => low_Same A3 A4 nx c3 nx c4 (bytesR r) (bytesR r) W h1 h2 hBx hBx HNX.out HNX.out)
  rw [sameB_self] at L1
  have T1 := Lib.hid (fun W h1 h2 => rref_Same x x A5 c5 B5 d5 A6 c6 B6 d6 W h1 h2 (by omega) (by omega))
  rw [sameR_self] at T1
  simp only [Rp.v, rpV] at T1
  have U4 := Lib.hid (fun W h1 h2 => low_Same A2 A n c2 n c l l W h1 h2 hl hl HN.out HN.out)
  rw [sameB_self] at U4
  go_upto_region 8 with fail
  have hs := (Below.refl w8.heap.size w8).drew
  replace br := br.all hs
  replace bo := bo.all hs
  replace ba := ba.all hs
  replace hRr := hRr.below hs
  replace hRo := hRo.below hs
  replace hRa := hRa.below hs
  replace hA := hA.below hs
  replace o2 := o2.below hs
  replace o3 := o3.below hs
  replace o4 := o4.below hs
  replace rw5 := rw5.below hs
  replace rb5 := rb5.below hs
  replace bk5 := bk5.all hs
  replace rw6 := rw6.below hs
  replace rb6 := rb6.below hs
  replace bk6 := bk6.all hs
  replace hb := bthen hb hs
  clear hs
  refine wp_region_held_drew (S := fun W => W.cell? ⟨gr, 0, none⟩ = some (.int .u8 (r.fn : Int)) ∧ W.cell? ⟨gr, 1, none⟩ = some (.int .u8 (r.ex : Int)) ∧ W.cell? ⟨gr, 2, none⟩ = some (.slice Br r.bits.length dr) ∧ W.cell? ⟨gr, 3, none⟩ = some (.slice Ar r.words.length cr) ∧ W.cell? ⟨gr, 4, none⟩ = some (.int .u16 (r.at_ : Int)) ∧ W.cell? ⟨gr, 5, none⟩ = some (.int .u16 (r.many : Int)) ∧ W.cell? ⟨go_, 0, none⟩ = some (.int .u8 (o.fn : Int)) ∧ W.cell? ⟨go_, 1, none⟩ = some (.int .u8 (o.ex : Int)) ∧ W.cell? ⟨go_, 2, none⟩ = some (.slice Bo o.bits.length do_) ∧ W.cell? ⟨go_, 3, none⟩ = some (.slice Ao o.words.length co) ∧ W.cell? ⟨go_, 4, none⟩ = some (.int .u16 (o.at_ : Int)) ∧ W.cell? ⟨go_, 5, none⟩ = some (.int .u16 (o.many : Int)) ∧ W.cell? ⟨g5, 0, none⟩ = some (.int .u8 (x.fn : Int)) ∧ W.cell? ⟨g5, 1, none⟩ = some (.int .u8 (x.ex : Int)) ∧ W.cell? ⟨g5, 2, none⟩ = some (.slice B5 x.bits.length d5) ∧ W.cell? ⟨g5, 3, none⟩ = some (.slice A5 x.words.length c5) ∧ W.cell? ⟨g5, 4, none⟩ = some (.int .u16 (x.at_ : Int)) ∧ W.cell? ⟨g5, 5, none⟩ = some (.int .u16 (x.many : Int)) ∧ W.cell? ⟨g6, 0, none⟩ = some (.int .u8 (x.fn : Int)) ∧ W.cell? ⟨g6, 1, none⟩ = some (.int .u8 (x.ex : Int)) ∧ W.cell? ⟨g6, 2, none⟩ = some (.slice B6 x.bits.length d6) ∧ W.cell? ⟨g6, 3, none⟩ = some (.slice A6 x.words.length c6) ∧ W.cell? ⟨g6, 4, none⟩ = some (.int .u16 (x.at_ : Int)) ∧ W.cell? ⟨g6, 5, none⟩ = some (.int .u16 (x.many : Int))) (by kernel_rfl) ?_ (fun hHeld => ?_)
  · exact ⟨br.cell 0, br.cell 1, br.cell 2, br.cell 3, br.cell 4, br.cell 5, bo.cell 0, bo.cell 1, bo.cell 2, bo.cell 3, bo.cell 4, bo.cell 5, bk5.cell 0, bk5.cell 1, bk5.cell 2, bk5.cell 3, bk5.cell 4, bk5.cell 5, bk6.cell 0, bk6.cell 1, bk6.cell 2, bk6.cell 3, bk6.cell 4, bk6.cell 5⟩
  generalize w8.drew = w9 at *
  refine takeRun (i := 0) (v := ?_) rfl (by kernel_rfl) (by kernel_rfl) (by kernel_rfl) (fun _ _ _ h => h) rfl ?_ (by assumption) ?_
  rotate_left
  · (intro w hSw; (try dsimp only at hSw); go_simp; (try with_reducible rfl))
  try simp only [Act.put, List.setIfInBounds_toArray, List.set_cons_zero, List.set_cons_succ]
  refine takeRun (i := 2) (v := ?_) rfl (by kernel_rfl) (by kernel_rfl) (by kernel_rfl) (fun _ _ _ h => h) rfl ?_ (by assumption) ?_
  rotate_left
  · (intro w hSw; (try dsimp only at hSw); go_simp; (try with_reducible rfl))
  try simp only [Act.put, List.setIfInBounds_toArray, List.set_cons_zero, List.set_cons_succ]
  refine goOne (i := 1) (by kernel_rfl) rfl (fun K hK => ?_)
  go_simp
  refine (G1.out _ hRr).mono ?_
  rintro e w10 ⟨rfl, hs⟩
  replace br := br.all hs
  replace bo := bo.all hs
  replace ba := ba.all hs
  replace hRr := hRr.below hs
  replace hRo := hRo.below hs
  replace hRa := hRa.below hs
  replace hA := hA.below hs
  replace o2 := o2.below hs
  replace o3 := o3.below hs
  replace o4 := o4.below hs
  replace rw5 := rw5.below hs
  replace rb5 := rb5.below hs
  replace bk5 := bk5.all hs
  replace rw6 := rw6.below hs
  replace rb6 := rb6.below hs
  replace bk6 := bk6.all hs
  replace hb := bthen hb hs
  clear hs
  go_wp2_with fail
  refine hK.out _ _ ?_ (fun hHeld => ?_)
  · exact ⟨br.cell 0, br.cell 1, br.cell 2, br.cell 3, br.cell 4, br.cell 5, bo.cell 0, bo.cell 1, bo.cell 2, bo.cell 3, bo.cell 4, bo.cell 5, bk5.cell 0, bk5.cell 1, bk5.cell 2, bk5.cell 3, bk5.cell 4, bk5.cell 5, bk6.cell 0, bk6.cell 1, bk6.cell 2, bk6.cell 3, bk6.cell 4, bk6.cell 5⟩
  clear hK K
  try simp only [Act.put, List.setIfInBounds_toArray, List.set_cons_zero, List.set_cons_succ]
  refine goOne (i := 3) (by kernel_rfl) rfl (fun K hK => ?_)
  go_simp
  refine (G2.out _).mono ?_
  rintro e w11 ⟨rfl, hs⟩
  replace br := br.all hs
  replace bo := bo.all hs
  replace ba := ba.all hs
  replace hRr := hRr.below hs
  replace hRo := hRo.below hs
  replace hRa := hRa.below hs
  replace hA := hA.below hs
  replace o2 := o2.below hs
  replace o3 := o3.below hs
  replace o4 := o4.below hs
  replace rw5 := rw5.below hs
  replace rb5 := rb5.below hs
  replace bk5 := bk5.all hs
  replace rw6 := rw6.below hs
  replace rb6 := rb6.below hs
  replace bk6 := bk6.all hs
  replace hb := bthen hb hs
  clear hs
  go_wp2_with fail
  refine hK.out _ _ ?_ (fun hHeld => ?_)
  · exact ⟨br.cell 0, br.cell 1, br.cell 2, br.cell 3, br.cell 4, br.cell 5, bo.cell 0, bo.cell 1, bo.cell 2, bo.cell 3, bo.cell 4, bo.cell 5, bk5.cell 0, bk5.cell 1, bk5.cell 2, bk5.cell 3, bk5.cell 4, bk5.cell 5, bk6.cell 0, bk6.cell 1, bk6.cell 2, bk6.cell 3, bk6.cell 4, bk6.cell 5⟩
  clear hK K
  try simp only [Act.put, List.setIfInBounds_toArray, List.set_cons_zero, List.set_cons_succ]
  refine takeRun (i := 4) (v := ?_) rfl (by kernel_rfl) (by kernel_rfl) (by kernel_rfl) (fun _ _ _ h => h) rfl ?_ (by assumption) ?_
  rotate_left
  · (intro w hSw; (try dsimp only at hSw); go_simp; (try with_reducible rfl))
  try simp only [Act.put, List.setIfInBounds_toArray, List.set_cons_zero, List.set_cons_succ]
  refine takeRun (i := 5) (v := ?_) rfl (by kernel_rfl) (by kernel_rfl) (by kernel_rfl) (fun _ _ _ h => h) rfl ?_ (by assumption) ?_
  rotate_left
  · (intro w hSw; (try dsimp only at hSw); go_simp; (try with_reducible rfl))
  try simp only [Act.put, List.setIfInBounds_toArray, List.set_cons_zero, List.set_cons_succ]
  refine takeRun (i := 6) (v := ?_) rfl (by kernel_rfl) (by kernel_rfl) (by kernel_rfl) (fun _ _ _ h => h) rfl ?_ (by assumption) ?_
  rotate_left
  · (intro w hSw; (try dsimp only at hSw); go_simp; (try with_reducible rfl))
  try simp only [Act.put, List.setIfInBounds_toArray, List.set_cons_zero, List.set_cons_succ]
  refine takeRun (i := 7) (v := ?_) rfl (by kernel_rfl) (by kernel_rfl) (by kernel_rfl) (fun _ _ _ h => h) rfl ?_ (by assumption) ?_
  rotate_left
  · (intro w hSw; (try dsimp only at hSw); go_simp; (try with_reducible rfl))
  try simp only [Act.put, List.setIfInBounds_toArray, List.set_cons_zero, List.set_cons_succ]
  refine takeRun (i := 9) (v := ?_) rfl (by kernel_rfl) (by kernel_rfl) (by kernel_rfl) (fun _ _ _ h => h) rfl ?_ (by assumption) ?_
  rotate_left
  · (intro w hSw; (try dsimp only at hSw); go_simp; (try with_reducible rfl))
  try simp only [Act.put, List.setIfInBounds_toArray, List.set_cons_zero, List.set_cons_succ]
  refine takeRun (i := 10) (v := ?_) rfl (by kernel_rfl) (by kernel_rfl) (by kernel_rfl) (fun _ _ _ h => h) rfl ?_ (by assumption) ?_
  rotate_left
  · (intro w hSw; (try dsimp only at hSw); go_simp; (try with_reducible rfl))
  try simp only [Act.put, List.setIfInBounds_toArray, List.set_cons_zero, List.set_cons_succ]
  refine goOne (i := 8) (by kernel_rfl) rfl (fun K hK => ?_)
  go_simp
  refine (S1.out _ hRr hRo).mono ?_
  rintro e w12 ⟨rfl, hs⟩
  replace br := br.all hs
  replace bo := bo.all hs
  replace ba := ba.all hs
  replace hRr := hRr.below hs
  replace hRo := hRo.below hs
  replace hRa := hRa.below hs
  replace hA := hA.below hs
  replace o2 := o2.below hs
  replace o3 := o3.below hs
  replace o4 := o4.below hs
  replace rw5 := rw5.below hs
  replace rb5 := rb5.below hs
  replace bk5 := bk5.all hs
  replace rw6 := rw6.below hs
  replace rb6 := rb6.below hs
  replace bk6 := bk6.all hs
  replace hb := bthen hb hs
  clear hs
  go_wp2_with fail
  refine hK.out _ _ ?_ (fun hHeld => ?_)
  · exact ⟨br.cell 0, br.cell 1, br.cell 2, br.cell 3, br.cell 4, br.cell 5, bo.cell 0, bo.cell 1, bo.cell 2, bo.cell 3, bo.cell 4, bo.cell 5, bk5.cell 0, bk5.cell 1, bk5.cell 2, bk5.cell 3, bk5.cell 4, bk5.cell 5, bk6.cell 0, bk6.cell 1, bk6.cell 2, bk6.cell 3, bk6.cell 4, bk6.cell 5⟩
  clear hK K
  try simp only [Act.put, List.setIfInBounds_toArray, List.set_cons_zero, List.set_cons_succ]
  refine goOne (i := 11) (by kernel_rfl) rfl (fun K hK => ?_)
  go_simp
  refine (S2.out _ hRr hRo).mono ?_
  rintro e w13 ⟨rfl, hs⟩
  replace br := br.all hs
  replace bo := bo.all hs
  replace ba := ba.all hs
  replace hRr := hRr.below hs
  replace hRo := hRo.below hs
  replace hRa := hRa.below hs
  replace hA := hA.below hs
  replace o2 := o2.below hs
  replace o3 := o3.below hs
  replace o4 := o4.below hs
  replace rw5 := rw5.below hs
  replace rb5 := rb5.below hs
  replace bk5 := bk5.all hs
  replace rw6 := rw6.below hs
  replace rb6 := rb6.below hs
  replace bk6 := bk6.all hs
  replace hb := bthen hb hs
  clear hs
  go_wp2_with fail
  refine hK.out _ _ ?_ (fun hHeld => ?_)
  · exact ⟨br.cell 0, br.cell 1, br.cell 2, br.cell 3, br.cell 4, br.cell 5, bo.cell 0, bo.cell 1, bo.cell 2, bo.cell 3, bo.cell 4, bo.cell 5, bk5.cell 0, bk5.cell 1, bk5.cell 2, bk5.cell 3, bk5.cell 4, bk5.cell 5, bk6.cell 0, bk6.cell 1, bk6.cell 2, bk6.cell 3, bk6.cell 4, bk6.cell 5⟩
  clear hK K
  try simp only [Act.put, List.setIfInBounds_toArray, List.set_cons_zero, List.set_cons_succ]
  refine takeRun (i := 12) (v := ?_) rfl (by kernel_rfl) (by kernel_rfl) (by kernel_rfl) (fun _ _ _ h => h) rfl ?_ (by assumption) ?_
  rotate_left
  · (intro w hSw; (try dsimp only at hSw); go_simp; (try with_reducible rfl))
  try simp only [Act.put, List.setIfInBounds_toArray, List.set_cons_zero, List.set_cons_succ]
  refine takeRun (i := 13) (v := ?_) rfl (by kernel_rfl) (by kernel_rfl) (by kernel_rfl) (fun _ _ _ h => h) rfl ?_ (by assumption) ?_
  rotate_left
  · (intro w hSw; (try dsimp only at hSw); go_simp; (try with_reducible rfl))
  try simp only [Act.put, List.setIfInBounds_toArray, List.set_cons_zero, List.set_cons_succ]
  refine takeRun (i := 14) (v := ?_) rfl (by kernel_rfl) (by kernel_rfl) (by kernel_rfl) (fun _ _ _ h => h) rfl ?_ (by assumption) ?_
  rotate_left
  · (intro w hSw; (try dsimp only at hSw); go_simp; (try with_reducible rfl))
  try simp only [Act.put, List.setIfInBounds_toArray, List.set_cons_zero, List.set_cons_succ]
  refine takeRun (i := 15) (v := ?_) rfl (by kernel_rfl) (by kernel_rfl) (by kernel_rfl) (fun _ _ _ h => h) rfl ?_ (by assumption) ?_
  rotate_left
  · (intro w hSw; (try dsimp only at hSw); go_simp; (try with_reducible rfl))
  try simp only [Act.put, List.setIfInBounds_toArray, List.set_cons_zero, List.set_cons_succ]
  refine takeRun (i := 16) (v := ?_) rfl (by kernel_rfl) (by kernel_rfl) (by kernel_rfl) (fun _ _ _ h => h) rfl ?_ (by assumption) ?_
  rotate_left
  · (intro w hSw; (try dsimp only at hSw); go_simp; (try with_reducible rfl))
  try simp only [Act.put, List.setIfInBounds_toArray, List.set_cons_zero, List.set_cons_succ]
  refine takeRun (i := 17) (v := ?_) rfl (by kernel_rfl) (by kernel_rfl) (by kernel_rfl) (fun _ _ _ h => h) rfl ?_ (by assumption) ?_
  rotate_left
  · (intro w hSw; (try dsimp only at hSw); go_simp; (try with_reducible rfl))
  try simp only [Act.put, List.setIfInBounds_toArray, List.set_cons_zero, List.set_cons_succ]
  refine takeRun (i := 18) (v := ?_) rfl (by kernel_rfl) (by kernel_rfl) (by kernel_rfl) (fun _ _ _ h => h) rfl ?_ (by assumption) ?_
  rotate_left
  · (intro w hSw; (try dsimp only at hSw); go_simp; (try with_reducible rfl))
  try simp only [Act.put, List.setIfInBounds_toArray, List.set_cons_zero, List.set_cons_succ]
  refine takeRun (i := 19) (v := ?_) rfl (by kernel_rfl) (by kernel_rfl) (by kernel_rfl) (fun _ _ _ h => h) rfl ?_ (by assumption) ?_
  rotate_left
  · (intro w hSw; (try dsimp only at hSw); go_simp; (try with_reducible rfl))
  try simp only [Act.put, List.setIfInBounds_toArray, List.set_cons_zero, List.set_cons_succ]
  refine takeRun (i := 20) (v := ?_) rfl (by kernel_rfl) (by kernel_rfl) (by kernel_rfl) (fun _ _ _ h => h) rfl ?_ (by assumption) ?_
  rotate_left
  · (intro w hSw; (try dsimp only at hSw); go_simp; (try with_reducible rfl))
  try simp only [Act.put, List.setIfInBounds_toArray, List.set_cons_zero, List.set_cons_succ]
  refine takeRun (i := 21) (v := ?_) rfl (by kernel_rfl) (by kernel_rfl) (by kernel_rfl) (fun _ _ _ h => h) rfl ?_ (by assumption) ?_
  rotate_left
  · (intro w hSw; (try dsimp only at hSw); go_simp; (try with_reducible rfl))
  try simp only [Act.put, List.setIfInBounds_toArray, List.set_cons_zero, List.set_cons_succ]
  refine goOne (i := 22) (by kernel_rfl) rfl (fun K hK => ?_)
  go_simp
  refine (L1.out _ o3 o4).mono ?_
  rintro e wq ⟨rfl, rfl⟩
  go_wp2_with fail
  refine hK.out _ _ ?_ (fun hHeld => ?_)
  · exact ⟨br.cell 0, br.cell 1, br.cell 2, br.cell 3, br.cell 4, br.cell 5, bo.cell 0, bo.cell 1, bo.cell 2, bo.cell 3, bo.cell 4, bo.cell 5, bk5.cell 0, bk5.cell 1, bk5.cell 2, bk5.cell 3, bk5.cell 4, bk5.cell 5, bk6.cell 0, bk6.cell 1, bk6.cell 2, bk6.cell 3, bk6.cell 4, bk6.cell 5⟩
  clear hK K
  try simp only [Act.put, List.setIfInBounds_toArray, List.set_cons_zero, List.set_cons_succ]
  refine takeRun (i := 23) (v := ?_) rfl (by kernel_rfl) (by kernel_rfl) (by kernel_rfl) (fun _ _ _ h => h) rfl ?_ (by assumption) ?_
  rotate_left
  · (intro w hSw; (try dsimp only at hSw); go_simp; (try with_reducible rfl))
  try simp only [Act.put, List.setIfInBounds_toArray, List.set_cons_zero, List.set_cons_succ]
  refine takeRun (i := 24) (v := ?_) rfl (by kernel_rfl) (by kernel_rfl) (by kernel_rfl) (fun _ _ _ h => h) rfl ?_ (by assumption) ?_
  rotate_left
  · (intro w hSw; (try dsimp only at hSw); go_simp; (try with_reducible rfl))
  try simp only [Act.put, List.setIfInBounds_toArray, List.set_cons_zero, List.set_cons_succ]
  refine takeRun (i := 25) (v := ?_) rfl (by kernel_rfl) (by kernel_rfl) (by kernel_rfl) (fun _ _ _ h => h) rfl ?_ (by assumption) ?_
  rotate_left
  · (intro w hSw; (try dsimp only at hSw); go_simp; (try with_reducible rfl))
  try simp only [Act.put, List.setIfInBounds_toArray, List.set_cons_zero, List.set_cons_succ]
  refine takeRun (i := 26) (v := ?_) rfl (by kernel_rfl) (by kernel_rfl) (by kernel_rfl) (fun _ _ _ h => h) rfl ?_ (by assumption) ?_
  rotate_left
  · (intro w hSw; (try dsimp only at hSw); go_simp; (try with_reducible rfl))
  try simp only [Act.put, List.setIfInBounds_toArray, List.set_cons_zero, List.set_cons_succ]
  refine takeRun (i := 27) (v := ?_) rfl (by kernel_rfl) (by kernel_rfl) (by kernel_rfl) (fun _ _ _ h => h) rfl ?_ (by assumption) ?_
  rotate_left
  · (intro w hSw; (try dsimp only at hSw); go_simp; (try with_reducible rfl))
  try simp only [Act.put, List.setIfInBounds_toArray, List.set_cons_zero, List.set_cons_succ]
  refine takeRun (i := 28) (v := ?_) rfl (by kernel_rfl) (by kernel_rfl) (by kernel_rfl) (fun _ _ _ h => h) rfl ?_ (by assumption) ?_
  rotate_left
  · (intro w hSw; (try dsimp only at hSw); go_simp; (try with_reducible rfl))
  try simp only [Act.put, List.setIfInBounds_toArray, List.set_cons_zero, List.set_cons_succ]
  refine takeRun (i := 29) (v := ?_) rfl (by kernel_rfl) (by kernel_rfl) (by kernel_rfl) (fun _ _ _ h => h) rfl ?_ (by assumption) ?_
  rotate_left
  · (intro w hSw; (try dsimp only at hSw); go_simp; (try with_reducible rfl))
  try simp only [Act.put, List.setIfInBounds_toArray, List.set_cons_zero, List.set_cons_succ]
  refine takeRun (i := 30) (v := ?_) rfl (by kernel_rfl) (by kernel_rfl) (by kernel_rfl) (fun _ _ _ h => h) rfl ?_ (by assumption) ?_
  rotate_left
  · (intro w hSw; (try dsimp only at hSw); go_simp; (try with_reducible rfl))
  try simp only [Act.put, List.setIfInBounds_toArray, List.set_cons_zero, List.set_cons_succ]
  refine takeRun (i := 31) (v := ?_) rfl (by kernel_rfl) (by kernel_rfl) (by kernel_rfl) (fun _ _ _ h => h) rfl ?_ (by assumption) ?_
  rotate_left
  · (intro w hSw; (try dsimp only at hSw); go_simp; (try with_reducible rfl))
  try simp only [Act.put, List.setIfInBounds_toArray, List.set_cons_zero, List.set_cons_succ]
  refine takeRun (i := 32) (v := ?_) rfl (by kernel_rfl) (by kernel_rfl) (by kernel_rfl) (fun _ _ _ h => h) rfl ?_ (by assumption) ?_
  rotate_left
  · (intro w hSw; (try dsimp only at hSw); go_simp; (try with_reducible rfl))
  try simp only [Act.put, List.setIfInBounds_toArray, List.set_cons_zero, List.set_cons_succ]
  refine goOne (i := 33) (by kernel_rfl) rfl (fun K hK => ?_)
  go_simp
  refine (T1.out _ ⟨rw5.rd, rb5.rd⟩ ⟨rw6.rd, rb6.rd⟩).mono ?_
  rintro e w14 ⟨rfl, hs⟩
  replace br := br.all hs
  replace bo := bo.all hs
  replace ba := ba.all hs
  replace hRr := hRr.below hs
  replace hRo := hRo.below hs
  replace hRa := hRa.below hs
  replace hA := hA.below hs
  replace o2 := o2.below hs
  replace o3 := o3.below hs
  replace o4 := o4.below hs
  replace rw5 := rw5.below hs
  replace rb5 := rb5.below hs
  replace bk5 := bk5.all hs
  replace rw6 := rw6.below hs
  replace rb6 := rb6.below hs
  replace bk6 := bk6.all hs
  replace hb := bthen hb hs
  clear hs
  go_wp2_with fail
  refine hK.out _ _ ?_ (fun hHeld => ?_)
  · exact ⟨br.cell 0, br.cell 1, br.cell 2, br.cell 3, br.cell 4, br.cell 5, bo.cell 0, bo.cell 1, bo.cell 2, bo.cell 3, bo.cell 4, bo.cell 5, bk5.cell 0, bk5.cell 1, bk5.cell 2, bk5.cell 3, bk5.cell 4, bk5.cell 5, bk6.cell 0, bk6.cell 1, bk6.cell 2, bk6.cell 3, bk6.cell 4, bk6.cell 5⟩
  clear hK K
  try simp only [Act.put, List.setIfInBounds_toArray, List.set_cons_zero, List.set_cons_succ]
  refine takeRun (i := 34) (v := ?_) rfl (by kernel_rfl) (by kernel_rfl) (by kernel_rfl) (fun _ _ _ h => h) rfl ?_ (by assumption) ?_
  rotate_left
  · (intro w hSw; (try dsimp only at hSw); go_simp; (try with_reducible rfl))
  try simp only [Act.put, List.setIfInBounds_toArray, List.set_cons_zero, List.set_cons_succ]
  refine takeRun (i := 35) (v := ?_) rfl (by kernel_rfl) (by kernel_rfl) (by kernel_rfl) (fun _ _ _ h => h) rfl ?_ (by assumption) ?_
  rotate_left
  · (intro w hSw; (try dsimp only at hSw); go_simp; (try with_reducible rfl))
  try simp only [Act.put, List.setIfInBounds_toArray, List.set_cons_zero, List.set_cons_succ]
  refine takeRun (i := 36) (v := ?_) rfl (by kernel_rfl) (by kernel_rfl) (by kernel_rfl) (fun _ _ _ h => h) rfl ?_ (by assumption) ?_
  rotate_left
  · (intro w hSw; (try dsimp only at hSw); go_simp; (try with_reducible rfl))
  try simp only [Act.put, List.setIfInBounds_toArray, List.set_cons_zero, List.set_cons_succ]
  refine takeRun (i := 37) (v := ?_) rfl (by kernel_rfl) (by kernel_rfl) (by kernel_rfl) (fun _ _ _ h => h) rfl ?_ (by assumption) ?_
  rotate_left
  · (intro w hSw; (try dsimp only at hSw); go_simp; (try with_reducible rfl))
  try simp only [Act.put, List.setIfInBounds_toArray, List.set_cons_zero, List.set_cons_succ]
  refine takeRun (i := 38) (v := ?_) rfl (by kernel_rfl) (by kernel_rfl) (by kernel_rfl) (fun _ _ _ h => h) rfl ?_ (by assumption) ?_
  rotate_left
  · (intro w hSw; (try dsimp only at hSw); go_simp; (try with_reducible rfl))
  try simp only [Act.put, List.setIfInBounds_toArray, List.set_cons_zero, List.set_cons_succ]
  refine goOne (i := 39) (by kernel_rfl) rfl (fun K hK => ?_)
  go_simp
  refine (U4.out _ o2 hA).mono ?_
  rintro e wq ⟨rfl, rfl⟩
  go_wp2_with fail
  refine hK.out _ _ ?_ (fun hHeld => ?_)
  · exact ⟨br.cell 0, br.cell 1, br.cell 2, br.cell 3, br.cell 4, br.cell 5, bo.cell 0, bo.cell 1, bo.cell 2, bo.cell 3, bo.cell 4, bo.cell 5, bk5.cell 0, bk5.cell 1, bk5.cell 2, bk5.cell 3, bk5.cell 4, bk5.cell 5, bk6.cell 0, bk6.cell 1, bk6.cell 2, bk6.cell 3, bk6.cell 4, bk6.cell 5⟩
  clear hK K
  try simp only [Act.put, List.setIfInBounds_toArray, List.set_cons_zero, List.set_cons_succ]
  refine takeRun (i := 40) (v := ?_) rfl (by kernel_rfl) (by kernel_rfl) (by kernel_rfl) (fun _ _ _ h => h) rfl ?_ (by assumption) ?_
  rotate_left
  · (intro w hSw; (try dsimp only at hSw); go_simp; (try with_reducible rfl))
  try simp only [Act.put, List.setIfInBounds_toArray, List.set_cons_zero, List.set_cons_succ]
  refine takeRun (i := 41) (v := ?_) rfl (by kernel_rfl) (by kernel_rfl) (by kernel_rfl) (fun _ _ _ h => h) rfl ?_ (by assumption) ?_
  rotate_left
  · (intro w hSw; (try dsimp only at hSw); go_simp; (try with_reducible rfl))
  try simp only [Act.put, List.setIfInBounds_toArray, List.set_cons_zero, List.set_cons_succ]
  refine wpAnyH_done (by kernel_rfl) ?_ _
  clear G1 G2 S1 S2 L1 T1 U4
  clear o3 o4 bo hRo bk5 bk6 rw5 rb5 rw6 rb6 o2 hA
  obtain ⟨e1, he1⟩ : ∃ x, (echoA a).getD Rp.zero = x := ⟨_, rfl⟩
  obtain ⟨js, hjs⟩ : ∃ k, (echoA a).isSome = k := ⟨_, rfl⟩
  obtain ⟨hes, hew, hek⟩ := echo_small hoa
  rw [he1] at hes hew hek
  have HE1 := Lib.hid he1
  have Q1 := Lib.hid (fun W h => (reply_Echo a Aa ca Ba da W h hoa (by omega) (by omega)).mono fun e w' (hT : ToldQ W (echoA a) (.bool true) (.bool false) e w') => hT.any)
  have Q2 := Lib.hid (fun W h => (rref_Echo a Aa ca Ba da W h hoa (by omega) (by omega)).mono fun e w' (hT : ToldQ W (echoA a) (.bool true) (.bool false) e w') => hT.any)
  simp only [he1, hjs] at Q1 Q2
  simp only [Ak.v, akV, Rp.v, rpV] at Q1 Q2
  clear he1 hjs
  obtain ⟨s0, s1, s2, s3, s4, s5⟩ := ba.c6
  go_wp2_with fail
  refine (Q1.out _ hRa).mono ?_
  rintro e w15 ⟨A7, c7, B7, d7, rfl, ⟨rw7, rb7⟩, hs⟩
  clear s0 s1 s2 s3 s4 s5
  replace br := br.all hs
  replace ba := ba.all hs
  replace hRr := hRr.below hs
  replace hRa := hRa.below hs
  replace hb := bthen hb hs
  clear hs
  obtain ⟨s0, s1, s2, s3, s4, s5⟩ := ba.c6
  go_upto_region 11 with fail
  have bk7 := Blk.new w15 36 #[.int .u8 (e1.fn : Int), .int .u8 (e1.ex : Int), .slice B7 e1.bits.length d7, .slice A7 e1.words.length c7, .int .u16 (e1.at_ : Int), .int .u16 (e1.many : Int)]
  have hs := (Below.refl w15.heap.size w15).alloc (Nat.le_refl _) (.cells #[.int .u8 (e1.fn : Int), .int .u8 (e1.ex : Int), .slice B7 e1.bits.length d7, .slice A7 e1.words.length c7, .int .u16 (e1.at_ : Int), .int .u16 (e1.many : Int)] 36)
  generalize w15.alloc (.cells #[.int .u8 (e1.fn : Int), .int .u8 (e1.ex : Int), .slice B7 e1.bits.length d7, .slice A7 e1.words.length c7, .int .u16 (e1.at_ : Int), .int .u16 (e1.many : Int)] 36) = w16 at *
  obtain ⟨g7, hg7⟩ : ∃ g, w15.heap.size = g := ⟨_, rfl⟩
  have g7lt : w15.heap.size ≤ g7 := by omega
  clear s0 s1 s2 s3 s4 s5
  replace br := br.all hs
  replace ba := ba.all hs
  replace hRr := hRr.below hs
  replace hRa := hRa.below hs
  replace rw7 := rw7.below hs
  replace rb7 := rb7.below hs
  replace hb := bthen hb hs
  clear hs
  obtain ⟨s0, s1, s2, s3, s4, s5⟩ := ba.c6
  rw [hg7] at bk7 ⊢
  clear hg7 g7lt
  go_wp2_with fail
  refine (Q2.out _ hRa).mono ?_
  rintro e w17 ⟨A8, c8, B8, d8, rfl, ⟨rw8, rb8⟩, hs⟩
  clear s0 s1 s2 s3 s4 s5
  replace br := br.all hs
  replace ba := ba.all hs
  replace hRr := hRr.below hs
  replace hRa := hRa.below hs
  replace rw7 := rw7.below hs
  replace rb7 := rb7.below hs
  replace bk7 := bk7.all hs
  replace hb := bthen hb hs
  clear hs
  obtain ⟨s0, s1, s2, s3, s4, s5⟩ := ba.c6
  go_upto_region 12 with fail
  have bk8 := Blk.new w17 36 #[.int .u8 (e1.fn : Int), .int .u8 (e1.ex : Int), .slice B8 e1.bits.length d8, .slice A8 e1.words.length c8, .int .u16 (e1.at_ : Int), .int .u16 (e1.many : Int)]
  have hs := (Below.refl w17.heap.size w17).alloc (Nat.le_refl _) (.cells #[.int .u8 (e1.fn : Int), .int .u8 (e1.ex : Int), .slice B8 e1.bits.length d8, .slice A8 e1.words.length c8, .int .u16 (e1.at_ : Int), .int .u16 (e1.many : Int)] 36)
  generalize w17.alloc (.cells #[.int .u8 (e1.fn : Int), .int .u8 (e1.ex : Int), .slice B8 e1.bits.length d8, .slice A8 e1.words.length c8, .int .u16 (e1.at_ : Int), .int .u16 (e1.many : Int)] 36) = w18 at *
  obtain ⟨g8, hg8⟩ : ∃ g, w17.heap.size = g := ⟨_, rfl⟩
  have g8lt : w17.heap.size ≤ g8 := by omega
  clear s0 s1 s2 s3 s4 s5
  replace br := br.all hs
  replace ba := ba.all hs
  replace hRr := hRr.below hs
  replace hRa := hRa.below hs
  replace rw7 := rw7.below hs
  replace rb7 := rb7.below hs
  replace bk7 := bk7.all hs
  replace rw8 := rw8.below hs
  replace rb8 := rb8.below hs
  replace hb := bthen hb hs
  clear hs
  obtain ⟨s0, s1, s2, s3, s4, s5⟩ := ba.c6
  rw [hg8] at bk8 ⊢
  clear hg8 g8lt
  clear s0 s1 s2 s3 s4 s5
  clear Q1 Q2
  obtain ⟨gf, hgf⟩ : ∃ k, f % 128 = k := ⟨_, rfl⟩
  have hgf1 : gf < 128 := by omega
  have m1 : (f : Int) % 128 = (gf : Int) := by omega
  have m2 : (f : Int).tmod 128 = (gf : Int) := by rw [Int.tmod_eq_emod_of_nonneg (by omega)]; exact m1
  have m3 : IntKind.u8.wrap (gf : Int) = (gf : Int) := by rw [IntKind.wrap_u8]; omega
  have V1 : Hid (∀ W, Calls Try.prog 18 #[.int .u8 (f : Int), .int .u8 (ex : Int)] W fun e w' => e = .returned (.agg #[.int .u8 (gf : Int), .int .u8 (ex : Int), .slice none 0 0, .slice none 0 0, .int .u16 0, .int .u16 0]) ∧ Below W.heap.size W w') := fun W => by
    have h := reply_Wrong f ex W hf hex
    rw [show (wrongR f ex).v none 0 none 0 = .agg #[.int .u8 (gf : Int), .int .u8 (ex : Int), .slice none 0 0, .slice none 0 0, .int .u16 0, .int .u16 0] from by unfold wrongR; rw [hgf]; rfl] at h
    exact h
  have V2 : Hid (∀ W, Calls Try.prog 45 #[.agg #[.int .u8 (gf : Int), .int .u8 (ex : Int), .slice none 0 0, .slice none 0 0, .int .u16 0, .int .u16 0], .agg #[.int .u8 (gf : Int), .int .u8 (ex : Int), .slice none 0 0, .slice none 0 0, .int .u16 0, .int .u16 0]] W fun e w' => e = .returned (.bool true) ∧ Below W.heap.size W w') := fun W => by
    have h := rref_Same ⟨gf, ex, [], [], 0, 0⟩ ⟨gf, ex, [], [], 0, 0⟩ none 0 none 0 none 0 none 0 W ⟨Rd.nil, Rd.nil⟩ ⟨Rd.nil, Rd.nil⟩ (by simp) (by simp)
    rw [sameR_self] at h
    exact h
  clear hgf
  go_wp2_with fail
  refine (V1.out _).mono ?_
  rintro e w19 ⟨rfl, hs⟩
  replace br := br.all hs
  replace ba := ba.all hs
  replace hRr := hRr.below hs
  replace hRa := hRa.below hs
  replace rw7 := rw7.below hs
  replace rb7 := rb7.below hs
  replace bk7 := bk7.all hs
  replace rw8 := rw8.below hs
  replace rb8 := rb8.below hs
  replace bk8 := bk8.all hs
  replace hb := bthen hb hs
  clear hs
  go_upto_region 13 with fail
  have bw := Blk.new w19 36 #[.int .u8 (gf : Int), .int .u8 (ex : Int), .slice none 0 0, .slice none 0 0, .int .u16 0, .int .u16 0]
  have hs := (Below.refl w19.heap.size w19).alloc (Nat.le_refl _) (.cells #[.int .u8 (gf : Int), .int .u8 (ex : Int), .slice none 0 0, .slice none 0 0, .int .u16 0, .int .u16 0] 36)
  generalize w19.alloc (.cells #[.int .u8 (gf : Int), .int .u8 (ex : Int), .slice none 0 0, .slice none 0 0, .int .u16 0, .int .u16 0] 36) = w20 at *
  obtain ⟨gw, hgw⟩ : ∃ g, w19.heap.size = g := ⟨_, rfl⟩
  have gwlt : w19.heap.size ≤ gw := by omega
  replace br := br.all hs
  replace ba := ba.all hs
  replace hRr := hRr.below hs
  replace hRa := hRa.below hs
  replace rw7 := rw7.below hs
  replace rb7 := rb7.below hs
  replace bk7 := bk7.all hs
  replace rw8 := rw8.below hs
  replace rb8 := rb8.below hs
  replace bk8 := bk8.all hs
  replace hb := bthen hb hs
  clear hs
  rw [hgw] at bw ⊢
  clear hgw gwlt
  have T2 := Lib.hid (fun W h1 h2 => rref_Same e1 e1 A7 c7 B7 d7 A8 c8 B8 d8 W h1 h2 (by omega) (by omega))
  rw [sameR_self] at T2
  obtain ⟨fr, hfr⟩ : ∃ k, fitsA a r = k := ⟨_, rfl⟩
  obtain ⟨ft, hft⟩ : ∃ k, fitsA a e1 = k := ⟨_, rfl⟩
  have X1 := Lib.hid (fun W (h : AkR W a Aa Ba) (h2 : RpR W r Ar Br) => reply_Fits a Aa ca Ba da r Ar cr Br dr W h hoa (by omega) (by omega) h2 hor (by omega) (by omega) (fun _ => hdr))
  have X2 := Lib.hid (fun W (h : AkR W a Aa Ba) (h2 : RpR W r Ar Br) => rref_Fits a Aa ca Ba da r Ar cr Br dr W h hoa (by omega) (by omega) h2 hor (by omega) (by omega))
  have X3 := Lib.hid (fun W (h : AkR W a Aa Ba) (h2 : RpR W e1 A8 B8) => reply_Fits a Aa ca Ba da e1 A8 c8 B8 d8 W h hoa (by omega) (by omega) h2 hes (by omega) (by omega) (fun hn => by rw [← HE1.out, hn]; exact Nat.zero_le _))
  have X4 := Lib.hid (fun W (h : AkR W a Aa Ba) (h2 : RpR W e1 A8 B8) => rref_Fits a Aa ca Ba da e1 A8 c8 B8 d8 W h hoa (by omega) (by omega) h2 hes (by omega) (by omega))
  simp only [hfr] at X1 X2
  simp only [hft] at X3 X4
  simp only [Ak.v, akV, Rp.v, rpV] at T2 X1 X2 X3 X4
  have awk := Lib.hid reply_awake
  clear hfr hft
  go_upto_region 13 with fail
  have hs := (Below.refl w20.heap.size w20).drew
  replace br := br.all hs
  replace ba := ba.all hs
  replace hRr := hRr.below hs
  replace hRa := hRa.below hs
  replace rw7 := rw7.below hs
  replace rb7 := rb7.below hs
  replace bk7 := bk7.all hs
  replace rw8 := rw8.below hs
  replace rb8 := rb8.below hs
  replace bk8 := bk8.all hs
  replace bw := bw.all hs
  replace hb := bthen hb hs
  clear hs
  refine wp_region_held_drew (S := fun W => W.cell? ⟨g7, 0, none⟩ = some (.int .u8 (e1.fn : Int)) ∧ W.cell? ⟨g7, 1, none⟩ = some (.int .u8 (e1.ex : Int)) ∧ W.cell? ⟨g7, 2, none⟩ = some (.slice B7 e1.bits.length d7) ∧ W.cell? ⟨g7, 3, none⟩ = some (.slice A7 e1.words.length c7) ∧ W.cell? ⟨g7, 4, none⟩ = some (.int .u16 (e1.at_ : Int)) ∧ W.cell? ⟨g7, 5, none⟩ = some (.int .u16 (e1.many : Int)) ∧ W.cell? ⟨g8, 0, none⟩ = some (.int .u8 (e1.fn : Int)) ∧ W.cell? ⟨g8, 1, none⟩ = some (.int .u8 (e1.ex : Int)) ∧ W.cell? ⟨g8, 2, none⟩ = some (.slice B8 e1.bits.length d8) ∧ W.cell? ⟨g8, 3, none⟩ = some (.slice A8 e1.words.length c8) ∧ W.cell? ⟨g8, 4, none⟩ = some (.int .u16 (e1.at_ : Int)) ∧ W.cell? ⟨g8, 5, none⟩ = some (.int .u16 (e1.many : Int)) ∧ W.cell? ⟨ga, 0, none⟩ = some (.int .u8 (a.fn : Int)) ∧ W.cell? ⟨ga, 1, none⟩ = some (.int .u16 (a.at_ : Int)) ∧ W.cell? ⟨ga, 2, none⟩ = some (.int .u16 (a.many : Int)) ∧ W.cell? ⟨ga, 3, none⟩ = some (.int .u16 (a.to_ : Int)) ∧ W.cell? ⟨ga, 4, none⟩ = some (.slice Aa a.words.length ca) ∧ W.cell? ⟨ga, 5, none⟩ = some (.slice Ba a.bits.length da) ∧ W.cell? ⟨gr, 0, none⟩ = some (.int .u8 (r.fn : Int)) ∧ W.cell? ⟨gr, 1, none⟩ = some (.int .u8 (r.ex : Int)) ∧ W.cell? ⟨gr, 2, none⟩ = some (.slice Br r.bits.length dr) ∧ W.cell? ⟨gr, 3, none⟩ = some (.slice Ar r.words.length cr) ∧ W.cell? ⟨gr, 4, none⟩ = some (.int .u16 (r.at_ : Int)) ∧ W.cell? ⟨gr, 5, none⟩ = some (.int .u16 (r.many : Int)) ∧ W.cell? ⟨gw, 0, none⟩ = some (.int .u8 (gf : Int)) ∧ W.cell? ⟨gw, 1, none⟩ = some (.int .u8 (ex : Int)) ∧ W.cell? ⟨gw, 2, none⟩ = some (.slice none 0 0) ∧ W.cell? ⟨gw, 3, none⟩ = some (.slice none 0 0) ∧ W.cell? ⟨gw, 4, none⟩ = some (.int .u16 0) ∧ W.cell? ⟨gw, 5, none⟩ = some (.int .u16 0)) (by kernel_rfl) ?_ (fun hHeld => ?_)
  · exact ⟨bk7.cell 0, bk7.cell 1, bk7.cell 2, bk7.cell 3, bk7.cell 4, bk7.cell 5, bk8.cell 0, bk8.cell 1, bk8.cell 2, bk8.cell 3, bk8.cell 4, bk8.cell 5, ba.cell 0, ba.cell 1, ba.cell 2, ba.cell 3, ba.cell 4, ba.cell 5, br.cell 0, br.cell 1, br.cell 2, br.cell 3, br.cell 4, br.cell 5, bw.cell 0, bw.cell 1, bw.cell 2, bw.cell 3, bw.cell 4, bw.cell 5⟩
  generalize w20.drew = w21 at *
  refine takeRun (i := 0) (v := ?_) rfl (by kernel_rfl) (by kernel_rfl) (by kernel_rfl) (fun _ _ _ h => h) rfl ?_ (by assumption) ?_
  rotate_left
  · (intro w hSw; (try dsimp only at hSw); go_simp; (try with_reducible rfl))
  try simp only [Act.put, List.setIfInBounds_toArray, List.set_cons_zero, List.set_cons_succ]
  refine takeRun (i := 1) (v := ?_) rfl (by kernel_rfl) (by kernel_rfl) (by kernel_rfl) (fun _ _ _ h => h) rfl ?_ (by assumption) ?_
  rotate_left
  · (intro w hSw; (try dsimp only at hSw); go_simp; (try with_reducible rfl))
  try simp only [Act.put, List.setIfInBounds_toArray, List.set_cons_zero, List.set_cons_succ]
  refine takeRun (i := 2) (v := ?_) rfl (by kernel_rfl) (by kernel_rfl) (by kernel_rfl) (fun _ _ _ h => h) rfl ?_ (by assumption) ?_
  rotate_left
  · (intro w hSw; (try dsimp only at hSw); go_simp; (try with_reducible rfl))
  try simp only [Act.put, List.setIfInBounds_toArray, List.set_cons_zero, List.set_cons_succ]
  refine takeRun (i := 3) (v := ?_) rfl (by kernel_rfl) (by kernel_rfl) (by kernel_rfl) (fun _ _ _ h => h) rfl ?_ (by assumption) ?_
  rotate_left
  · (intro w hSw; (try dsimp only at hSw); go_simp; (try with_reducible rfl))
  try simp only [Act.put, List.setIfInBounds_toArray, List.set_cons_zero, List.set_cons_succ]
  refine takeRun (i := 4) (v := ?_) rfl (by kernel_rfl) (by kernel_rfl) (by kernel_rfl) (fun _ _ _ h => h) rfl ?_ (by assumption) ?_
  rotate_left
  · (intro w hSw; (try dsimp only at hSw); go_simp; (try with_reducible rfl))
  try simp only [Act.put, List.setIfInBounds_toArray, List.set_cons_zero, List.set_cons_succ]
  refine takeRun (i := 5) (v := ?_) rfl (by kernel_rfl) (by kernel_rfl) (by kernel_rfl) (fun _ _ _ h => h) rfl ?_ (by assumption) ?_
  rotate_left
  · (intro w hSw; (try dsimp only at hSw); go_simp; (try with_reducible rfl))
  try simp only [Act.put, List.setIfInBounds_toArray, List.set_cons_zero, List.set_cons_succ]
  refine goOne (i := 6) (by kernel_rfl) rfl (fun K hK => ?_)
  go_simp
  refine (T2.out _ ⟨rw7.rd, rb7.rd⟩ ⟨rw8.rd, rb8.rd⟩).mono ?_
  rintro e w22 ⟨rfl, hs⟩
  replace br := br.all hs
  replace ba := ba.all hs
  replace hRr := hRr.below hs
  replace hRa := hRa.below hs
  replace rw7 := rw7.below hs
  replace rb7 := rb7.below hs
  replace bk7 := bk7.all hs
  replace rw8 := rw8.below hs
  replace rb8 := rb8.below hs
  replace bk8 := bk8.all hs
  replace bw := bw.all hs
  replace hb := bthen hb hs
  clear hs
  go_wp2_with fail
  refine hK.out _ _ ?_ (fun hHeld => ?_)
  · exact ⟨bk7.cell 0, bk7.cell 1, bk7.cell 2, bk7.cell 3, bk7.cell 4, bk7.cell 5, bk8.cell 0, bk8.cell 1, bk8.cell 2, bk8.cell 3, bk8.cell 4, bk8.cell 5, ba.cell 0, ba.cell 1, ba.cell 2, ba.cell 3, ba.cell 4, ba.cell 5, br.cell 0, br.cell 1, br.cell 2, br.cell 3, br.cell 4, br.cell 5, bw.cell 0, bw.cell 1, bw.cell 2, bw.cell 3, bw.cell 4, bw.cell 5⟩
  clear hK K
  try simp only [Act.put, List.setIfInBounds_toArray, List.set_cons_zero, List.set_cons_succ]
  refine takeRun (i := 7) (v := ?_) rfl (by kernel_rfl) (by kernel_rfl) (by kernel_rfl) (fun _ _ _ h => h) rfl ?_ (by assumption) ?_
  rotate_left
  · (intro w hSw; (try dsimp only at hSw); go_simp; (try with_reducible rfl))
  try simp only [Act.put, List.setIfInBounds_toArray, List.set_cons_zero, List.set_cons_succ]
  refine takeRun (i := 8) (v := ?_) rfl (by kernel_rfl) (by kernel_rfl) (by kernel_rfl) (fun _ _ _ h => h) rfl ?_ (by assumption) ?_
  rotate_left
  · (intro w hSw; (try dsimp only at hSw); go_simp; (try with_reducible rfl))
  try simp only [Act.put, List.setIfInBounds_toArray, List.set_cons_zero, List.set_cons_succ]
  refine takeRun (i := 9) (v := ?_) rfl (by kernel_rfl) (by kernel_rfl) (by kernel_rfl) (fun _ _ _ h => h) rfl ?_ (by assumption) ?_
  rotate_left
  · (intro w hSw; (try dsimp only at hSw); go_simp; (try with_reducible rfl))
  try simp only [Act.put, List.setIfInBounds_toArray, List.set_cons_zero, List.set_cons_succ]
  refine takeRun (i := 10) (v := ?_) rfl (by kernel_rfl) (by kernel_rfl) (by kernel_rfl) (fun _ _ _ h => h) rfl ?_ (by assumption) ?_
  rotate_left
  · (intro w hSw; (try dsimp only at hSw); go_simp; (try with_reducible rfl))
  try simp only [Act.put, List.setIfInBounds_toArray, List.set_cons_zero, List.set_cons_succ]
  refine takeRun (i := 12) (v := ?_) rfl (by kernel_rfl) (by kernel_rfl) (by kernel_rfl) (fun _ _ _ h => h) rfl ?_ (by assumption) ?_
  rotate_left
  · (intro w hSw; (try dsimp only at hSw); go_simp; (try with_reducible rfl))
  try simp only [Act.put, List.setIfInBounds_toArray, List.set_cons_zero, List.set_cons_succ]
  refine takeRun (i := 13) (v := ?_) rfl (by kernel_rfl) (by kernel_rfl) (by kernel_rfl) (fun _ _ _ h => h) rfl ?_ (by assumption) ?_
  rotate_left
  · (intro w hSw; (try dsimp only at hSw); go_simp; (try with_reducible rfl))
  try simp only [Act.put, List.setIfInBounds_toArray, List.set_cons_zero, List.set_cons_succ]
  refine goOne (i := 11) (by kernel_rfl) rfl (fun K hK => ?_)
  go_simp
  refine (X1.out _ hRa hRr).mono ?_
  rintro e w23 ⟨rfl, hs⟩
  replace br := br.all hs
  replace ba := ba.all hs
  replace hRr := hRr.below hs
  replace hRa := hRa.below hs
  replace rw7 := rw7.below hs
  replace rb7 := rb7.below hs
  replace bk7 := bk7.all hs
  replace rw8 := rw8.below hs
  replace rb8 := rb8.below hs
  replace bk8 := bk8.all hs
  replace bw := bw.all hs
  replace hb := bthen hb hs
  clear hs
  go_wp2_with fail
  refine hK.out _ _ ?_ (fun hHeld => ?_)
  · exact ⟨bk7.cell 0, bk7.cell 1, bk7.cell 2, bk7.cell 3, bk7.cell 4, bk7.cell 5, bk8.cell 0, bk8.cell 1, bk8.cell 2, bk8.cell 3, bk8.cell 4, bk8.cell 5, ba.cell 0, ba.cell 1, ba.cell 2, ba.cell 3, ba.cell 4, ba.cell 5, br.cell 0, br.cell 1, br.cell 2, br.cell 3, br.cell 4, br.cell 5, bw.cell 0, bw.cell 1, bw.cell 2, bw.cell 3, bw.cell 4, bw.cell 5⟩
  clear hK K
  try simp only [Act.put, List.setIfInBounds_toArray, List.set_cons_zero, List.set_cons_succ]
  refine goOne (i := 14) (by kernel_rfl) rfl (fun K hK => ?_)
  go_simp
  refine (X2.out _ hRa hRr).mono ?_
  rintro e w24 ⟨rfl, hs⟩
  replace br := br.all hs
  replace ba := ba.all hs
  replace hRr := hRr.below hs
  replace hRa := hRa.below hs
  replace rw7 := rw7.below hs
  replace rb7 := rb7.below hs
  replace bk7 := bk7.all hs
  replace rw8 := rw8.below hs
  replace rb8 := rb8.below hs
  replace bk8 := bk8.all hs
  replace bw := bw.all hs
  replace hb := bthen hb hs
  clear hs
  go_wp2_with fail
  refine hK.out _ _ ?_ (fun hHeld => ?_)
  · exact ⟨bk7.cell 0, bk7.cell 1, bk7.cell 2, bk7.cell 3, bk7.cell 4, bk7.cell 5, bk8.cell 0, bk8.cell 1, bk8.cell 2, bk8.cell 3, bk8.cell 4, bk8.cell 5, ba.cell 0, ba.cell 1, ba.cell 2, ba.cell 3, ba.cell 4, ba.cell 5, br.cell 0, br.cell 1, br.cell 2, br.cell 3, br.cell 4, br.cell 5, bw.cell 0, bw.cell 1, bw.cell 2, bw.cell 3, bw.cell 4, bw.cell 5⟩
  clear hK K
  try simp only [Act.put, List.setIfInBounds_toArray, List.set_cons_zero, List.set_cons_succ]
  refine takeRun (i := 15) (v := ?_) rfl (by kernel_rfl) (by kernel_rfl) (by kernel_rfl) (fun _ _ _ h => h) rfl ?_ (by assumption) ?_
  rotate_left
  · (intro w hSw; (try dsimp only at hSw); go_simp; (try with_reducible rfl))
  try simp only [Act.put, List.setIfInBounds_toArray, List.set_cons_zero, List.set_cons_succ]
  refine takeRun (i := 16) (v := ?_) rfl (by kernel_rfl) (by kernel_rfl) (by kernel_rfl) (fun _ _ _ h => h) rfl ?_ (by assumption) ?_
  rotate_left
  · (intro w hSw; (try dsimp only at hSw); go_simp; (try with_reducible rfl))
  try simp only [Act.put, List.setIfInBounds_toArray, List.set_cons_zero, List.set_cons_succ]
  refine takeRun (i := 17) (v := ?_) rfl (by kernel_rfl) (by kernel_rfl) (by kernel_rfl) (fun _ _ _ h => h) rfl ?_ (by assumption) ?_
  rotate_left
  · (intro w hSw; (try dsimp only at hSw); go_simp; (try with_reducible rfl))
  try simp only [Act.put, List.setIfInBounds_toArray, List.set_cons_zero, List.set_cons_succ]
  refine takeRun (i := 18) (v := ?_) rfl (by kernel_rfl) (by kernel_rfl) (by kernel_rfl) (fun _ _ _ h => h) rfl ?_ (by assumption) ?_
  rotate_left
  · (intro w hSw; (try dsimp only at hSw); go_simp; (try with_reducible rfl))
  try simp only [Act.put, List.setIfInBounds_toArray, List.set_cons_zero, List.set_cons_succ]
  refine takeRun (i := 19) (v := ?_) rfl (by kernel_rfl) (by kernel_rfl) (by kernel_rfl) (fun _ _ _ h => h) rfl ?_ (by assumption) ?_
  rotate_left
  · (intro w hSw; (try dsimp only at hSw); go_simp; (try with_reducible rfl))
  try simp only [Act.put, List.setIfInBounds_toArray, List.set_cons_zero, List.set_cons_succ]
  refine takeRun (i := 21) (v := ?_) rfl (by kernel_rfl) (by kernel_rfl) (by kernel_rfl) (fun _ _ _ h => h) rfl ?_ (by assumption) ?_
  rotate_left
  · (intro w hSw; (try dsimp only at hSw); go_simp; (try with_reducible rfl))
  try simp only [Act.put, List.setIfInBounds_toArray, List.set_cons_zero, List.set_cons_succ]
  refine takeRun (i := 22) (v := ?_) rfl (by kernel_rfl) (by kernel_rfl) (by kernel_rfl) (fun _ _ _ h => h) rfl ?_ (by assumption) ?_
  rotate_left
  · (intro w hSw; (try dsimp only at hSw); go_simp; (try with_reducible rfl))
  try simp only [Act.put, List.setIfInBounds_toArray, List.set_cons_zero, List.set_cons_succ]
  refine goOne (i := 20) (by kernel_rfl) rfl (fun K hK => ?_)
  go_simp
  refine (X3.out _ hRa ⟨rw8.rd, rb8.rd⟩).mono ?_
  rintro e w25 ⟨rfl, hs⟩
  replace br := br.all hs
  replace ba := ba.all hs
  replace hRr := hRr.below hs
  replace hRa := hRa.below hs
  replace rw7 := rw7.below hs
  replace rb7 := rb7.below hs
  replace bk7 := bk7.all hs
  replace rw8 := rw8.below hs
  replace rb8 := rb8.below hs
  replace bk8 := bk8.all hs
  replace bw := bw.all hs
  replace hb := bthen hb hs
  clear hs
  go_wp2_with fail
  refine hK.out _ _ ?_ (fun hHeld => ?_)
  · exact ⟨bk7.cell 0, bk7.cell 1, bk7.cell 2, bk7.cell 3, bk7.cell 4, bk7.cell 5, bk8.cell 0, bk8.cell 1, bk8.cell 2, bk8.cell 3, bk8.cell 4, bk8.cell 5, ba.cell 0, ba.cell 1, ba.cell 2, ba.cell 3, ba.cell 4, ba.cell 5, br.cell 0, br.cell 1, br.cell 2, br.cell 3, br.cell 4, br.cell 5, bw.cell 0, bw.cell 1, bw.cell 2, bw.cell 3, bw.cell 4, bw.cell 5⟩
  clear hK K
  try simp only [Act.put, List.setIfInBounds_toArray, List.set_cons_zero, List.set_cons_succ]
  refine goOne (i := 23) (by kernel_rfl) rfl (fun K hK => ?_)
  go_simp
  refine (X4.out _ hRa ⟨rw8.rd, rb8.rd⟩).mono ?_
  rintro e w26 ⟨rfl, hs⟩
  replace br := br.all hs
  replace ba := ba.all hs
  replace hRr := hRr.below hs
  replace hRa := hRa.below hs
  replace rw7 := rw7.below hs
  replace rb7 := rb7.below hs
  replace bk7 := bk7.all hs
  replace rw8 := rw8.below hs
  replace rb8 := rb8.below hs
  replace bk8 := bk8.all hs
  replace bw := bw.all hs
  replace hb := bthen hb hs
  clear hs
  go_wp2_with fail
  refine hK.out _ _ ?_ (fun hHeld => ?_)
  · exact ⟨bk7.cell 0, bk7.cell 1, bk7.cell 2, bk7.cell 3, bk7.cell 4, bk7.cell 5, bk8.cell 0, bk8.cell 1, bk8.cell 2, bk8.cell 3, bk8.cell 4, bk8.cell 5, ba.cell 0, ba.cell 1, ba.cell 2, ba.cell 3, ba.cell 4, ba.cell 5, br.cell 0, br.cell 1, br.cell 2, br.cell 3, br.cell 4, br.cell 5, bw.cell 0, bw.cell 1, bw.cell 2, bw.cell 3, bw.cell 4, bw.cell 5⟩
  clear hK K
  try simp only [Act.put, List.setIfInBounds_toArray, List.set_cons_zero, List.set_cons_succ]
  refine takeRun (i := 24) (v := ?_) rfl (by kernel_rfl) (by kernel_rfl) (by kernel_rfl) (fun _ _ _ h => h) rfl ?_ (by assumption) ?_
  rotate_left
  · (intro w hSw; (try dsimp only at hSw); go_simp; (try with_reducible rfl))
  try simp only [Act.put, List.setIfInBounds_toArray, List.set_cons_zero, List.set_cons_succ]
  refine takeRun (i := 25) (v := ?_) rfl (by kernel_rfl) (by kernel_rfl) (by kernel_rfl) (fun _ _ _ h => h) rfl ?_ (by assumption) ?_
  rotate_left
  · (intro w hSw; (try dsimp only at hSw); go_simp; (try with_reducible rfl))
  try simp only [Act.put, List.setIfInBounds_toArray, List.set_cons_zero, List.set_cons_succ]
  refine takeRun (i := 26) (v := ?_) rfl (by kernel_rfl) (by kernel_rfl) (by kernel_rfl) (fun _ _ _ h => h) rfl ?_ (by assumption) ?_
  rotate_left
  · (intro w hSw; (try dsimp only at hSw); go_simp; (try with_reducible rfl))
  try simp only [Act.put, List.setIfInBounds_toArray, List.set_cons_zero, List.set_cons_succ]
  refine takeRun (i := 27) (v := ?_) rfl (by kernel_rfl) (by kernel_rfl) (by kernel_rfl) (fun _ _ _ h => h) rfl ?_ (by assumption) ?_
  rotate_left
  · (intro w hSw; (try dsimp only at hSw); go_simp; (try with_reducible rfl))
  try simp only [Act.put, List.setIfInBounds_toArray, List.set_cons_zero, List.set_cons_succ]
  refine takeRun (i := 28) (v := ?_) rfl (by kernel_rfl) (by kernel_rfl) (by kernel_rfl) (fun _ _ _ h => h) rfl ?_ (by assumption) ?_
  rotate_left
  · (intro w hSw; (try dsimp only at hSw); go_simp; (try with_reducible rfl))
  try simp only [Act.put, List.setIfInBounds_toArray, List.set_cons_zero, List.set_cons_succ]
  refine takeRun (i := 29) (v := ?_) rfl (by kernel_rfl) (by kernel_rfl) (by kernel_rfl) (fun _ _ _ h => h) rfl ?_ (by assumption) ?_
  rotate_left
  · (intro w hSw; (try dsimp only at hSw); go_simp; (try with_reducible rfl))
  try simp only [Act.put, List.setIfInBounds_toArray, List.set_cons_zero, List.set_cons_succ]
  refine takeRun (i := 30) (v := ?_) rfl (by kernel_rfl) (by kernel_rfl) (by kernel_rfl) (fun _ _ _ h => h) rfl ?_ (by assumption) ?_
  rotate_left
  · (intro w hSw; (try dsimp only at hSw); go_simp; (try with_reducible rfl))
  try simp only [Act.put, List.setIfInBounds_toArray, List.set_cons_zero, List.set_cons_succ]
  refine takeRun (i := 31) (v := ?_) rfl (by kernel_rfl) (by kernel_rfl) (by kernel_rfl) (fun _ _ _ h => h) rfl ?_ (by assumption) ?_
  rotate_left
  · (intro w hSw; (try dsimp only at hSw); go_simp; (try with_reducible rfl))
  try simp only [Act.put, List.setIfInBounds_toArray, List.set_cons_zero, List.set_cons_succ]
  refine goOne (i := 32) (by kernel_rfl) rfl (fun K hK => ?_)
  go_simp
  refine (V2.out _).mono ?_
  rintro e w27 ⟨rfl, hs⟩
  replace br := br.all hs
  replace ba := ba.all hs
  replace hRr := hRr.below hs
  replace hRa := hRa.below hs
  replace rw7 := rw7.below hs
  replace rb7 := rb7.below hs
  replace bk7 := bk7.all hs
  replace rw8 := rw8.below hs
  replace rb8 := rb8.below hs
  replace bk8 := bk8.all hs
  replace bw := bw.all hs
  replace hb := bthen hb hs
  clear hs
  go_wp2_with fail
  refine hK.out _ _ ?_ (fun hHeld => ?_)
  · exact ⟨bk7.cell 0, bk7.cell 1, bk7.cell 2, bk7.cell 3, bk7.cell 4, bk7.cell 5, bk8.cell 0, bk8.cell 1, bk8.cell 2, bk8.cell 3, bk8.cell 4, bk8.cell 5, ba.cell 0, ba.cell 1, ba.cell 2, ba.cell 3, ba.cell 4, ba.cell 5, br.cell 0, br.cell 1, br.cell 2, br.cell 3, br.cell 4, br.cell 5, bw.cell 0, bw.cell 1, bw.cell 2, bw.cell 3, bw.cell 4, bw.cell 5⟩
  clear hK K
  try simp only [Act.put, List.setIfInBounds_toArray, List.set_cons_zero, List.set_cons_succ]
  refine takeRun (i := 33) (v := ?_) rfl (by kernel_rfl) (by kernel_rfl) (by kernel_rfl) (fun _ _ _ h => h) rfl ?_ (by assumption) ?_
  rotate_left
  · (intro w hSw; (try dsimp only at hSw); go_simp; (try with_reducible rfl))
  try simp only [Act.put, List.setIfInBounds_toArray, List.set_cons_zero, List.set_cons_succ]
  refine takeRun (i := 34) (v := ?_) rfl (by kernel_rfl) (by kernel_rfl) (by kernel_rfl) (fun _ _ _ h => h) rfl ?_ (by assumption) ?_
  rotate_left
  · (intro w hSw; (try dsimp only at hSw); go_simp; (try with_reducible rfl))
  try simp only [Act.put, List.setIfInBounds_toArray, List.set_cons_zero, List.set_cons_succ]
  refine goOne (i := 35) (by kernel_rfl) rfl (fun K hK => ?_)
  go_simp
  refine (awk.out _).mono ?_
  rintro e w28 ⟨rfl, hs⟩
  replace br := br.all hs
  replace ba := ba.all hs
  replace hRr := hRr.below hs
  replace hRa := hRa.below hs
  replace rw7 := rw7.below hs
  replace rb7 := rb7.below hs
  replace bk7 := bk7.all hs
  replace rw8 := rw8.below hs
  replace rb8 := rb8.below hs
  replace bk8 := bk8.all hs
  replace bw := bw.all hs
  replace hb := bthen hb hs
  clear hs
  go_wp2_with fail
  refine hK.out _ _ ?_ (fun hHeld => ?_)
  · exact ⟨bk7.cell 0, bk7.cell 1, bk7.cell 2, bk7.cell 3, bk7.cell 4, bk7.cell 5, bk8.cell 0, bk8.cell 1, bk8.cell 2, bk8.cell 3, bk8.cell 4, bk8.cell 5, ba.cell 0, ba.cell 1, ba.cell 2, ba.cell 3, ba.cell 4, ba.cell 5, br.cell 0, br.cell 1, br.cell 2, br.cell 3, br.cell 4, br.cell 5, bw.cell 0, bw.cell 1, bw.cell 2, bw.cell 3, bw.cell 4, bw.cell 5⟩
  clear hK K
  try simp only [Act.put, List.setIfInBounds_toArray, List.set_cons_zero, List.set_cons_succ]
  refine takeRun (i := 36) (v := ?_) rfl (by kernel_rfl) (by kernel_rfl) (by kernel_rfl) (fun _ _ _ h => h) rfl ?_ (by assumption) ?_
  rotate_left
  · (intro w hSw; (try dsimp only at hSw); go_simp; (try with_reducible rfl))
  try simp only [Act.put, List.setIfInBounds_toArray, List.set_cons_zero, List.set_cons_succ]
  refine takeRun (i := 37) (v := ?_) rfl (by kernel_rfl) (by kernel_rfl) (by kernel_rfl) (fun _ _ _ h => h) rfl ?_ (by assumption) ?_
  rotate_left
  · (intro w hSw; (try dsimp only at hSw); go_simp; (try with_reducible rfl))
  try simp only [Act.put, List.setIfInBounds_toArray, List.set_cons_zero, List.set_cons_succ]
  refine wpAnyH_done (by kernel_rfl) ?_ _
  go_wp2_with fail
  go_ret
  exact ⟨rfl, hb⟩
end Go.Proofs.Ytechhidfgheejaa
