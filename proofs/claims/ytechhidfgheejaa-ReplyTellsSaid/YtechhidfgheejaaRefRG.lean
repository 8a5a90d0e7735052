/- The walk of the reference's Fits (written by gen_rrefg.py). -/
import Derived.Test.YtechhidfgheejaaRefRF
import Derived.Test.YtechhidfgheejaaRefRC
import Derived.Test.YtechhidfgheejaaRefRS
import Derived.Deep.DeepCutAuto
namespace Go.Proofs.Ytechhidfgheejaa
open Go.RowKit
set_option linter.unusedSimpArgs false
set_option linter.unusedVariables false

theorem no_true {l : List Bool} {m : Nat} (h : ∀ k, m ≤ k → k < l.length → l[k]? = some false) : (l.drop m).contains true = false := by
  rw [Bool.eq_false_iff]
  intro hc
  rw [List.contains_iff_mem] at hc
  obtain ⟨i, hi⟩ := List.getElem?_of_mem hc
  rw [List.getElem?_drop] at hi
  have hlt : m + i < l.length := (List.getElem?_eq_some_iff.1 hi).1
  rw [h (m + i) (by omega) hlt] at hi
  cases hi
theorem has_true {l : List Bool} {m k : Nat} (hk : m ≤ k) (h : l[k]? = some true) : (l.drop m).contains true = true := by
  rw [List.contains_iff_mem]
  refine List.mem_of_getElem? (i := k - m) ?_
  rw [List.getElem?_drop, show m + (k - m) = k by omega]
  exact h
theorem fits_ref {a : Ak} {r : Rp} (ha : rightA a = true) (hr : rightR r = true) (hf : a.fn = r.fn) (hx : r.ex = 0) (he : echoA a = none) :
    fitB a r none = if 2 < a.fn then decide (r.words.length = a.many) else (decide (a.many ≤ r.bits.length ∧ r.bits.length < a.many + 8) && !(r.bits.drop a.many).contains true) := by
  have hn : ¬ a.fn = 5 ∧ ¬ a.fn = 6 ∧ ¬ (a.fn = 15 ∨ a.fn = 16) := by
    unfold echoA at he
    rw [if_pos ha] at he
    refine ⟨fun h => ?_, fun h => ?_, fun h => ?_⟩
    · rw [if_pos h] at he; cases he
    · rw [if_neg (by omega), if_pos h] at he; cases he
    · rw [if_neg (by omega), if_neg (by omega), if_pos h] at he; cases he
  obtain ⟨n1, n2, n3⟩ := hn
  rcases rightR_kinds hr with ⟨f, x, h1, h2, h3, rfl⟩ | ⟨f, l, hf', h1, h2, h3, rfl⟩ | ⟨f, l, hf', h1, h2, rfl⟩ | ⟨t, x, rfl⟩ | ⟨t, x, rfl⟩ | ⟨t, m, h1, h2, rfl⟩ | ⟨t, m, h1, h2, rfl⟩
  · simp only at hx; omega
  · simp only at hf
    simp only [fitB]
    rw [if_pos (by omega : 0 < l.length), if_neg (by omega : ¬ 2 < a.fn)]
    have e : decide (l.length = (a.many + 7) / 8 * 8) = decide (a.many ≤ l.length ∧ l.length < a.many + 8) := by
      rw [decide_eq_decide]; omega
    rw [e]
  · simp only at hf
    simp only [fitB]
    rw [if_neg (by simp), if_pos (by omega : 2 < a.fn)]
  · simp only at hf; omega
  · simp only at hf; omega
  · simp only at hf; omega
  · simp only at hf; omega

set_option maxRecDepth 100000 in
set_option maxHeartbeats 4000000 in
theorem rref_Fits (a : Ak) (A : Option Addr) (c : Nat) (B : Option Addr) (d : Nat) (r : Rp) (A' : Option Addr) (c' : Nat) (B' : Option Addr) (d' : Nat) (w : World) (hR : AkR w a A B) (hok : a.ok) (hw : a.words.length ≤ 1000000) (hk : a.bits.length ≤ 1000000)
    (hR' : RpR w r A' B') (hok' : r.ok) (hw' : r.words.length ≤ 1000000) (hk' : r.bits.length ≤ 1000000) :
    Calls Try.prog 49 #[a.v A c B d, r.v A' c' B' d'] w fun e w' => e = .returned (.bool (fitsA a r)) ∧ Below w.heap.size w w' := by
  have HW : Hid (fitsA a r = (rightA a && rightR r && decide (a.fn = r.fn) && (if r.ex ≠ 0 then true else fitB a r (echoA a)))) := rfl
  generalize fitsA a r = p at *
  have E1 := Lib.hid (fun W => ref_Right a.fn a.at_ a.many a.to_ A a.words.length c B a.bits.length d W hok.many (by omega) (by omega))
  have E2 := Lib.hid (fun W (h : RpR W r A' B') => rref_Right r A' c' B' d' W hw' hk')
  have E3 := Lib.hid (fun W (h : AkR W a A B) => rref_Echo a A c B d W h hok hw hk)
  obtain ⟨rt, hrt⟩ : ∃ b, rightA a = b := ⟨_, rfl⟩
  rw [show rightN a.fn a.many a.to_ a.words.length a.bits.length = rt from hrt] at E1
  obtain ⟨rr, hrr⟩ : ∃ b, rightR r = b := ⟨_, rfl⟩
  rw [hrr] at E2
  rw [hrt, hrr] at HW
  obtain ⟨x0, hx0⟩ : ∃ b, decide (a.fn = r.fn) = b := ⟨_, rfl⟩
  have t0 : ((a.fn : Int) != (r.fn : Int)) = !x0 := by rw [← hx0]; have := int_eqb a.fn r.fn; simp only [bne, this]
  rw [hx0] at HW
  obtain ⟨ec, hec⟩ : ∃ b, echoA a = b := ⟨_, rfl⟩
  rw [hec] at HW E3
  have HEC := Lib.hid hec
  have HRR := Lib.hid hrr
  have HRT := Lib.hid hrt
  have HX0 := Lib.hid hx0
  clear hrt hrr hx0 hec
  simp only [Ak.v, akV, Rp.v, rpV] at E1 E2 E3 ⊢
  have hb := ((Below.refl w.heap.size w).alloc (Nat.le_refl _) (.cells #[.int .u8 (a.fn : Int), .int .u16 (a.at_ : Int), .int .u16 (a.many : Int), .int .u16 (a.to_ : Int), .slice A a.words.length c, .slice B a.bits.length d] 41)).alloc (by simp [World.size_alloc]) (.cells #[.int .u8 (r.fn : Int), .int .u8 (r.ex : Int), .slice B' r.bits.length d', .slice A' r.words.length c', .int .u16 (r.at_ : Int), .int .u16 (r.many : Int)] 36)
  have bx := (Blk.new w 41 #[.int .u8 (a.fn : Int), .int .u16 (a.at_ : Int), .int .u16 (a.many : Int), .int .u16 (a.to_ : Int), .slice A a.words.length c, .slice B a.bits.length d]).alloc (.cells #[.int .u8 (r.fn : Int), .int .u8 (r.ex : Int), .slice B' r.bits.length d', .slice A' r.words.length c', .int .u16 (r.at_ : Int), .int .u16 (r.many : Int)] 36)
  have bz := Blk.newAt (w.alloc (.cells #[.int .u8 (a.fn : Int), .int .u16 (a.at_ : Int), .int .u16 (a.many : Int), .int .u16 (a.to_ : Int), .slice A a.words.length c, .slice B a.bits.length d] 41)) 36 #[.int .u8 (r.fn : Int), .int .u8 (r.ex : Int), .slice B' r.bits.length d', .slice A' r.words.length c', .int .u16 (r.at_ : Int), .int .u16 (r.many : Int)] (w.heap.size + 1) (World.size_alloc _ _)
  go_enter Try.func49, Try.ntmps49
  go_upto_region 1 with fail
  generalize (w.alloc (.cells #[.int .u8 (a.fn : Int), .int .u16 (a.at_ : Int), .int .u16 (a.many : Int), .int .u16 (a.to_ : Int), .slice A a.words.length c, .slice B a.bits.length d] 41)).alloc (.cells #[.int .u8 (r.fn : Int), .int .u8 (r.ex : Int), .slice B' r.bits.length d', .slice A' r.words.length c', .int .u16 (r.at_ : Int), .int .u16 (r.many : Int)] 36) = w1 at *
  obtain ⟨g, hg⟩ : ∃ g, w.heap.size + 1 = g := ⟨_, rfl⟩
  rw [hg] at bz ⊢
  clear hg
  obtain ⟨g0, hg0⟩ : ∃ g, w.heap.size = g := ⟨_, rfl⟩
  rw [hg0] at bx ⊢
  clear hg0
  obtain ⟨d0, d1, d2, d3, d4, d5⟩ := bx.c6
  obtain ⟨z0, z1, z2, z3, z4, z5⟩ := bz.c6
  go_wp2_with fail
  refine (E1.out _).mono ?_
  rintro e w2 ⟨rfl, hs⟩
  clear d0 d1 d2 d3 d4 d5
  clear z0 z1 z2 z3 z4 z5
  replace bx := bx.all hs
  replace bz := bz.all hs
  replace hb := bthen hb hs
  clear hs
  obtain ⟨d0, d1, d2, d3, d4, d5⟩ := bx.c6
  obtain ⟨z0, z1, z2, z3, z4, z5⟩ := bz.c6
  cases rt with
  | false =>
    go_wp2_with fail
    go_ret
    exact ⟨ret_bool (by rw [HW.out]; rfl), hb⟩
  | true =>
  go_wp2_with fail
  refine (E2.out _ (hR'.below hb)).mono ?_
  rintro e w3 ⟨rfl, hs⟩
  clear d0 d1 d2 d3 d4 d5
  clear z0 z1 z2 z3 z4 z5
  replace bx := bx.all hs
  replace bz := bz.all hs
  replace hb := bthen hb hs
  clear hs
  obtain ⟨d0, d1, d2, d3, d4, d5⟩ := bx.c6
  obtain ⟨z0, z1, z2, z3, z4, z5⟩ := bz.c6
  cases rr with
  | false =>
    go_wp2_with fail
    go_ret
    exact ⟨ret_bool (by rw [HW.out]; rfl), hb⟩
  | true =>
  cases x0 with
  | false =>
    go_wp2_with fail
    go_ret
    exact ⟨ret_bool (by rw [HW.out]; rfl), hb⟩
  | true =>
  have HW2 : Hid (p = (if r.ex ≠ 0 then true else fitB a r ec)) := by (show _ = _); rw [HW.out]; rfl
  clear HW
  by_cases hx : r.ex = 0
  case neg =>
    have v0 : ((r.ex : Int) != 0) = true := by simp; omega
    have HR : Hid (p = true) := by (show _ = _); rw [HW2.out, if_pos hx]
    clear hx
    go_wp2_with fail
    go_ret
    exact ⟨ret_bool (by rw [HR.out]), hb⟩
  have HEX := Lib.hid hx
  have v0 : ((r.ex : Int) != 0) = false := by simp [hx]
  have HW3 : Hid (p = fitB a r ec) := by (show _ = _); rw [HW2.out, if_neg (by simp [hx])]
  clear hx HW2
  go_wp2_with fail
  refine (E3.out _ (hR.below hb)).mono ?_
  rintro e w4 hT
  cases ec with
  | some e1 =>
    obtain ⟨Ae, ce, Be, de, he, rwe, rbe, hs⟩ := hT
    simp only [Rp.v, rpV] at he
    subst he
    obtain ⟨heok, he1, he2⟩ := echo_ok hok HEC.out
    clear d0 d1 d2 d3 d4 d5
    clear z0 z1 z2 z3 z4 z5
    replace bx := bx.all hs
    replace bz := bz.all hs
    replace hb := bthen hb hs
    clear hs
    obtain ⟨d0, d1, d2, d3, d4, d5⟩ := bx.c6
    obtain ⟨z0, z1, z2, z3, z4, z5⟩ := bz.c6
    go_upto_region 6 with fail
    have be := Blk.new w4 36 #[.int .u8 (e1.fn : Int), .int .u8 (e1.ex : Int), .slice Be e1.bits.length de, .slice Ae e1.words.length ce, .int .u16 (e1.at_ : Int), .int .u16 (e1.many : Int)]
    have hs := (Below.refl w4.heap.size w4).alloc (Nat.le_refl _) (.cells #[.int .u8 (e1.fn : Int), .int .u8 (e1.ex : Int), .slice Be e1.bits.length de, .slice Ae e1.words.length ce, .int .u16 (e1.at_ : Int), .int .u16 (e1.many : Int)] 36)
    generalize w4.alloc (.cells #[.int .u8 (e1.fn : Int), .int .u8 (e1.ex : Int), .slice Be e1.bits.length de, .slice Ae e1.words.length ce, .int .u16 (e1.at_ : Int), .int .u16 (e1.many : Int)] 36) = w5 at *
    obtain ⟨ge, hge⟩ : ∃ g, w4.heap.size = g := ⟨_, rfl⟩
    have gelt : w4.heap.size ≤ ge := by omega
    clear d0 d1 d2 d3 d4 d5
    clear z0 z1 z2 z3 z4 z5
    replace bx := bx.all hs
    replace bz := bz.all hs
    replace rwe := rwe.below hs
    replace rbe := rbe.below hs
    replace hb := bthen hb hs
    clear hs
    obtain ⟨d0, d1, d2, d3, d4, d5⟩ := bx.c6
    obtain ⟨z0, z1, z2, z3, z4, z5⟩ := bz.c6
    rw [hge] at be ⊢
    clear hge gelt
    have E4 := Lib.hid (fun W (h1 : RpR W e1 Ae Be) (h2 : RpR W r A' B') => rref_Same e1 r Ae ce Be de A' c' B' d' W h1 h2 (by omega) (by omega))
    unfold Rp.v rpV at E4
    obtain ⟨k0, k1, k2, k3, k4, k5⟩ := be.c6
    go_wp2_with fail
    refine (E4.out _ ⟨rwe.rd, rbe.rd⟩ (hR'.below hb)).mono ?_
    rintro e wz ⟨rfl, hs⟩
    go_wp2_with fail
    go_ret
    exact ⟨ret_bool (by rw [HW3.out]; rfl), bthen hb hs⟩
  | none =>
    obtain ⟨he, hs⟩ := hT
    rw [show Rp.zero.v none 0 none 0 = .agg #[.int .u8 0, .int .u8 0, .slice none 0 0, .slice none 0 0, .int .u16 0, .int .u16 0] from rfl] at he
    subst he
    clear d0 d1 d2 d3 d4 d5
    clear z0 z1 z2 z3 z4 z5
    replace bx := bx.all hs
    replace bz := bz.all hs
    replace hb := bthen hb hs
    clear hs
    obtain ⟨d0, d1, d2, d3, d4, d5⟩ := bx.c6
    obtain ⟨z0, z1, z2, z3, z4, z5⟩ := bz.c6
    replace hb := hb.alloc hb.size (.cells #[.int .u8 0, .int .u8 0, .slice none 0 0, .slice none 0 0, .int .u16 0, .int .u16 0] 36)
    replace bx := bx.alloc (.cells #[.int .u8 0, .int .u8 0, .slice none 0 0, .slice none 0 0, .int .u16 0, .int .u16 0] 36)
    replace bz := bz.alloc (.cells #[.int .u8 0, .int .u8 0, .slice none 0 0, .slice none 0 0, .int .u16 0, .int .u16 0] 36)
    go_upto_region 6 with fail
    generalize w4.alloc (.cells #[.int .u8 0, .int .u8 0, .slice none 0 0, .slice none 0 0, .int .u16 0, .int .u16 0] 36) = w5 at *
    clear d0 d1 d2 d3 d4 d5 z0 z1 z2 z3 z4 z5
    obtain ⟨d0, d1, d2, d3, d4, d5⟩ := bx.c6
    obtain ⟨z0, z1, z2, z3, z4, z5⟩ := bz.c6
    have hfn : a.fn = r.fn := of_decide_eq_true HX0.out
    have HF := fits_ref HRT.out HRR.out hfn HEX.out HEC.out
    have HW4 : Hid (p = if 2 < a.fn then decide (r.words.length = a.many) else (decide (a.many ≤ r.bits.length ∧ r.bits.length < a.many + 8) && !(r.bits.drop a.many).contains true)) := by (show _ = _); rw [HW3.out]; exact HF
    have hmm := hok.many
    have fm : IntKind.i64.wrap (a.many : Int) = (a.many : Int) := IntWalk.i64_in _ (by omega)
    clear HF hfn
    obtain ⟨rb, hrb⟩ : ∃ l, r.bits = l := ⟨_, rfl⟩
    have rbw := hR'.bits
    rw [hrb] at rbw hk' HW4 z2 bz
    obtain ⟨nb, hnb⟩ : ∃ n, rb.length = n := ⟨_, rfl⟩
    have HNB := Lib.hid hnb
    rw [hnb] at hk' HW4 z2 bz
    obtain ⟨nw, hnw⟩ : ∃ n, r.words.length = n := ⟨_, rfl⟩
    rw [hnw] at hw' HW4 z3 bz
    obtain ⟨m, hmq⟩ : ∃ m, a.many = m := ⟨_, rfl⟩
    rw [hmq] at HW4 d2 fm hmm bx
    obtain ⟨fa, hfa⟩ : ∃ m, a.fn = m := ⟨_, rfl⟩
    rw [hfa] at HW4 d0 bx
    clear hrb hnb hnw hmq hfa
    by_cases h2 : 2 < fa
    · have v2 : decide ((2 : Int) < (fa : Int)) = true := decide_eq_true (by omega)
      have HW5 : Hid (p = decide (nw = m)) := by (show _ = _); rw [HW4.out, if_pos h2]
      have t1 := int_eqb nw m
      obtain ⟨y, hy⟩ : ∃ y, decide (nw = m) = y := ⟨_, rfl⟩
      rw [hy] at HW5 t1
      clear hy
      go_wp2_with fail
      go_ret
      exact ⟨ret_bool (by rw [HW5.out]), hb⟩
    have v2 : decide ((2 : Int) < (fa : Int)) = false := decide_eq_false (by omega)
    have HW5 : Hid (p = (decide (m ≤ nb ∧ nb < m + 8) && !(rb.drop m).contains true)) := by (show _ = _); rw [HW4.out, if_neg h2]
    clear HW4
    by_cases hlt : nb < m
    · have v3 : decide ((nb : Int) < (m : Int)) = true := decide_eq_true (by omega)
      have HW6 : Hid (p = false) := by (show _ = _); rw [HW5.out, decide_eq_false (by omega)]; rfl
      go_wp2_with fail
      go_ret
      exact ⟨ret_bool (by rw [HW6.out]), hb⟩
    have v3 : decide ((nb : Int) < (m : Int)) = false := decide_eq_false (by omega)
    by_cases hge : m + 8 ≤ nb
    · have v4 : decide ((m : Int) + 8 ≤ (nb : Int)) = true := decide_eq_true (by omega)
      have HW6 : Hid (p = false) := by (show _ = _); rw [HW5.out, decide_eq_false (by omega)]; rfl
      go_wp2_with fail
      go_ret
      exact ⟨ret_bool (by rw [HW6.out]), hb⟩
    have v4 : decide ((m : Int) + 8 ≤ (nb : Int)) = false := decide_eq_false (by omega)
    have HW6 : Hid (p = !(rb.drop m).contains true) := by (show _ = _); rw [HW5.out, decide_eq_true (by omega)]; rfl
    have hmn : m ≤ nb := by omega
    clear HW5
    go_wp2_with fail
    go_loopw [8] (fun i wr => ∃ j : Nat, m ≤ j ∧ j ≤ nb ∧ i = .int .i64 (j : Int) ∧ Hid (∀ k, m ≤ k → k < j → rb[k]? = some false) ∧ w5 = wr) (fun i _ => nb - (intOf i).toNat)
    case atStart => exact ⟨m, by omega, by omega, rfl, (by (show ∀ _, _); intro k h1 h2; omega), rfl⟩
    case round =>
      obtain ⟨j, hmj, hj, rfl, HJ, rfl⟩ := hrel
      by_cases hjn : j < nb
      · obtain ⟨bb, off, x, rfl, hx, cx⟩ := (rbw.below hb).bit (k := j) (by rw [HNB.out]; exact hjn)
        have f1 : (0 : Int) ≤ (j : Int) := by omega
        have f2 : (j : Int) < (nb : Int) := by omega
        have HX := Lib.hid hx
        clear hx
        cases x with
        | true =>
          go_wp2_with fail
          go_ret
          exact ⟨ret_bool (by rw [HW6.out, has_true hmj HX.out]; rfl), hb⟩
        | false =>
          go_wp2_with fail
          go_roundw
          case rel =>
            refine ⟨j + 1, by omega, by omega, by go_num, ?_, by trivial⟩
            (show ∀ _, _)
            intro k h1 h2
            by_cases e : k = j
            · rw [e]; exact HX.out
            · exact HJ.out k h1 (by omega)
          case measure => simp [intOf]; omega
      · obtain rfl : j = nb := by omega
        go_wp2_with fail
        go_ret
        exact ⟨ret_bool (by rw [HW6.out, no_true (fun k h1 h2 => HJ.out k h1 (by rw [HNB.out] at h2; exact h2))]; rfl), hb⟩
end Go.Proofs.Ytechhidfgheejaa
