/- saucierlaw05.MbapBack returns true: what is packed is parsed as that frame; whatever is parsed is packed as it was. -/
import Derived.Test.YtheepgfafjinoaaMbapAwake
import Derived.Deep.DeepCutAuto
namespace Go.Proofs.Ytheepgfafjinoaa
open Go.RowKit
set_option linter.unusedSimpArgs false
set_option linter.unusedVariables false

theorem parF_pack (f : Fr) (hr : f.right = true) (ht : f.tx < 65536) : parF (packF f) = true ∧ fstF (packF f) = f := by
  have h1 := hasF_pack f [] hr
  have h2 := fstF_pack f [] hr ht
  rw [List.append_nil] at h1 h2
  exact ⟨by unfold parF; rw [h1.1, h1.2]; simp, h2⟩
theorem parF_more (f : Fr) (x : Nat) (hr : f.right = true) : parF (packF f ++ [x]) = false := by
  have h1 := hasF_pack f [x] hr
  unfold parF
  rw [h1.1, h1.2]
  simp
theorem parF_less (f : Fr) (hr : f.right = true) : parF ((packF f).take ((packF f).length - 1)) = false := by
  have h1 := hasF_short f ((packF f).length - 1) hr (by rw [packF_length]; omega)
  unfold parF
  rw [h1.1]
  rfl

set_option maxRecDepth 100000 in
set_option maxHeartbeats 4000000 in
theorem MbapBack_walk (f : Fr) (A : Option Addr) (n c : Nat) (A1 : Option Addr) (n1 c1 : Nat) (l : List Nat) (w : World) (hA : Rd w A (bs f.pdu)) (hn : f.pdu.length = n) (hok : f.ok) (hnc : n ≤ c)
    (hB : Rd w A1 (bs l)) (hn1 : l.length = n1) (hl : Bs l) (hnc1 : n1 ≤ c1) :
    Calls Try.prog 9 #[frV f.tx f.unit A n c, .slice A1 n1 c1] w fun e w' => e = .returned (.bool true) ∧ Below w.heap.size w w' := by
  have HN := Lib.hid hn
  have HN1 := Lib.hid hn1
  have bx := Blk.new w 37 #[.int .u16 (f.tx : Int), .int .u8 (f.unit : Int), .slice A n c]
  have hb1 := (Below.refl _ w).alloc (Nat.le_refl _) (.cells #[.int .u16 (f.tx : Int), .int .u8 (f.unit : Int), .slice A n c] 37)
  clear hn hn1
  by_cases h300 : 300 < n
  · unfold frV
    go_enter Try.func9, Try.ntmps9
    go_wp2_with fail
    refine (mbap_awake _).mono ?_
    rintro e w5 ⟨rfl, hb5⟩
    go_wp2_with fail
    go_ret
    exact ⟨rfl, bthen hb1 hb5⟩
  by_cases h400 : 400 < n1
  · have t1 : decide ((300 : Int) < (n : Int)) = false := by simp; omega
    unfold frV
    go_enter Try.func9, Try.ntmps9
    go_wp2_with fail
    refine (mbap_awake _).mono ?_
    rintro e w5 ⟨rfl, hb5⟩
    go_wp2_with fail
    go_ret
    exact ⟨rfl, bthen hb1 hb5⟩
  have t1 : decide ((300 : Int) < (n : Int)) = false := by simp; omega
  have t2 : decide ((400 : Int) < (n1 : Int)) = false := by simp; omega
  unfold frV
  go_enter Try.func9, Try.ntmps9
  go_wp2_with fail
  have hb2 := hb1
  have bx2 := bx
  generalize w.alloc (.cells #[.int .u16 (f.tx : Int), .int .u8 (f.unit : Int), .slice A n c] 37) = w2 at *
  clear hb1 bx
  have hpar : Calls Try.prog 30 #[.slice A1 n1 c1] w2 fun e w' => Below w2.heap.size w2 w' ∧ ∃ tx un A' m c' er, e = .returned (.tuple #[.agg #[.int .u16 ((tx : Nat) : Int), .int .u8 ((un : Nat) : Int), .slice A' m c'], .int .i64 ((er : Nat) : Int)]) ∧
      Hid (er = 10 ∨ (er = 0 ∧ parF l = true ∧ tx = (fstF l).tx ∧ un = (fstF l).unit ∧ m = n1 - 7 ∧ Ow w' w2.heap.size 5 A' c' (bs (fstF l).pdu))) := by
    by_cases hp : parF l = true
    · refine (mb_Parse_yes A1 n1 c1 l w2 (hB.below hb2) HN1.out hl (by omega) hnc1 hp).mono ?_
      rintro e w' ⟨A', c', h1, h2, h3⟩
      exact ⟨h3, _, _, A', _, c', 0, h1, .inr ⟨rfl, hp, rfl, rfl, rfl, h2⟩⟩
    · refine (mb_Parse_no A1 n1 c1 l w2 (hB.below hb2) HN1.out hl (by omega) hnc1 (by simpa using hp)).mono ?_
      rintro e w' ⟨h1, h2⟩
      exact ⟨h2, 0, 0, none, 0, 0, 10, h1, .inl rfl⟩
  have HPAR := Lib.hid hpar
  clear hpar
  refine HPAR.out.mono ?_
  rintro e w3 ⟨hb3, tx, un, A', m, c', er, rfl, HC⟩
  have hb3' := bthen hb2 hb3
  have bx3 := bx2.all hb3
  have hw23 := hb2.size
  clear HPAR hb2 bx2 hb3 t1 t2
  go_upto_if 33 with fail
  go_cut [10] (fun v wc => Below w.heap.size w wc ∧ Blk wc w.heap.size 37 #[.int .u16 (f.tx : Int), .int .u8 (f.unit : Int), .slice A n c])
  case first =>
    have hb4 := hb3'.alloc hb3'.size (.cells #[.int .u16 (tx : Int), .int .u8 (un : Int), .slice A' m c'] 37)
    have bx4 := bx3.alloc (.cells #[.int .u16 (tx : Int), .int .u8 (un : Int), .slice A' m c'] 37)
    rcases HC.out with rfl | ⟨rfl, hp, rfl, rfl, rfl, ho⟩
    · go_wp2_with fail
      go_meet
      exact ⟨hb4, bx4⟩
    · unfold parF at hp
      simp only [Bool.and_eq_true, decide_eq_true_eq] at hp
      have hok1 := fstF_ok hl
      have hri1 := fstF_right hp.1
      have hpl := fstF_pdu hp.1
      have hpk := pack_fstF hl hp.1 hp.2
      rw [hp.2, HN1.out] at hpl
      have ho4 := ho.rd.alloc (.cells #[.int .u16 ((fstF l).tx : Int), .int .u8 ((fstF l).unit : Int), .slice A' (n1 - 7) c'] 37)
      have hpack := mb_Pack_ok (fstF l) A' (n1 - 7) c' _ ho4 hpl hok1 hri1
      rw [hpk, show 7 + (n1 - 7) = n1 from by have := hasF_len hp.1; rw [← HN1.out]; omega] at hpack
      have HPK := Lib.hid hpack
      clear hp hok1 hri1 hpl hpk hpack HC
      go_wp2_with fail
      refine HPK.out.mono ?_
      rintro e w5 ⟨A5, c5, rfl, ho5, hb5⟩
      have hb5' := bthen hb4 hb5
      have bx5 := bx4.all hb5
      go_wp2_with fail
      refine (l06_Same A1 A5 n1 c1 n1 c5 l l _ (hB.below hb5') ho5.rd hl hl HN1.out HN1.out).mono ?_
      rintro e w6 ⟨rfl, rfl⟩
      rw [sameB_self]
      go_wp2_with fail
      go_meet
      exact ⟨hb5', bx5⟩
  case rest =>
    obtain ⟨hbc, bxc⟩ := hcut
    clear HC hb3' bx3 hw23
    obtain ⟨d0, d1, d2⟩ := bxc.c3
    by_cases hri : f.right = true
    · have hr := hri
      simp only [Fr.right, decide_eq_true_eq] at hr
      rw [HN.out] at hr
      obtain ⟨hr1, hr2⟩ := hr
      have hpack := mb_Pack_ok f A n c wc (hA.below hbc) HN.out hok hri
      unfold frV at hpack
      have HPK := Lib.hid hpack
      have HP1 := Lib.hid (parF_pack f hri hok.1)
      have HP2 := Lib.hid (parF_more f 0 hri)
      have HP3 := Lib.hid (parF_less f hri)
      have hBp := packF_Bs hok hri
      have HPL : Hid ((packF f).length = 7 + n) := by (show _ = _); rw [packF_length, HN.out]; omega
      have u1 : decide ((1 : Int) ≤ (n : Int)) = true := by simp; omega
      have u2 : decide ((n : Int) ≤ 253) = true := by simp; omega
      clear hpack hri
      go_wp2_with fail
      refine HPK.out.mono ?_
      rintro e w5 ⟨A5, c5, rfl, ho5, hb5⟩
      have hb5' := bthen hbc hb5
      have bx5 := bxc.all hb5
      have rd5 := ho5.rd
      have hle5 := ho5.le.1
      rw [bs_length, HPL.out] at hle5
      clear HPK d0 d1 d2 hbc bxc
      obtain ⟨d0, d1, d2⟩ := bx5.c3
      go_wp2_with fail
      have hpy := mb_Parse_yes A5 (7 + n) c5 (packF f) w5 rd5 HPL.out hBp (by omega) hle5 HP1.out.1
      rw [HP1.out.2, show 7 + n - 7 = n from by omega] at hpy
      refine hpy.mono ?_
      clear hpy
      rintro e w6 ⟨A6, c6, rfl, ho6, hb6⟩
      unfold frV
      have hb6' := bthen hb5' hb6
      have bx6 := bx5.all hb6
      have rd6 := rd5.below hb6
      clear d0 d1 d2
      obtain ⟨d0, d1, d2⟩ := bx6.c3
      have hlt6 := bx6.lt
      have u3 : (((7 + n : Nat) : Int) != 7 + (n : Int)) = false := by simp
      have u4 : (7 + (n : Int) != 7 + (n : Int)) = false := by simp
      go_wp2_with fail
      have HF1 : Hid (fxs [⟨f, A, c⟩] = [.int .u16 (f.tx : Int), .int .u8 (f.unit : Int), .slice A n c]) := by (show _ = _); rw [fxs_one_lit]; simp only; rw [HN.out]
      have HF2 : Hid (fxs [⟨f, A6, c6⟩] = [.int .u16 (f.tx : Int), .int .u8 (f.unit : Int), .slice A6 n c6]) := by (show _ = _); rw [fxs_one_lit]; simp only; rw [HN.out]
      have hbC := (((Below.refl _ w6).alloc (Nat.le_refl _) (.cells #[.int .u16 (f.tx : Int), .int .u8 (f.unit : Int), .slice A6 n c6] 37)).alloc (by simp) (.cells #[.int .u16 (f.tx : Int), .int .u8 (f.unit : Int), .slice A n c] 37)).alloc (by simp; omega) (.cells #[.int .u16 (f.tx : Int), .int .u8 (f.unit : Int), .slice A6 n c6] 37)
      have rd1 := (Rd.litAt (w6.alloc (.cells #[.int .u16 (f.tx : Int), .int .u8 (f.unit : Int), .slice A6 n c6] 37)) 37 _ (w6.heap.size + 1) (by simp) HF1.out).alloc (.cells #[.int .u16 (f.tx : Int), .int .u8 (f.unit : Int), .slice A6 n c6] 37)
      refine (l05_same _ _ 1 1 1 [⟨f, A, c⟩] [⟨f, A6, c6⟩] _ rd1 (Rd.litAt _ _ _ _ (by simp) HF2.out) rfl rfl (fun x hx => ?_) (fun x hx => ?_) rfl (by omega)).mono ?_
      · simp only [List.mem_singleton] at hx
        subst hx
        exact ⟨(hA.below hb6').below hbC, hok.2.2⟩
      · simp only [List.mem_singleton] at hx
        subst hx
        exact ⟨ho6.rd.below hbC, hok.2.2⟩
      rintro e w7 ⟨rfl, kd, rfl⟩
      have hb7 := below_drewN hbC kd
      have hb7' := bthen hb6' hb7
      have bx7 := bx6.all hb7
      have rd7 := rd6.below hb7
      generalize ((((w6.alloc (.cells #[.int .u16 (f.tx : Int), .int .u8 (f.unit : Int), .slice A6 n c6] 37)).alloc (.cells #[.int .u16 (f.tx : Int), .int .u8 (f.unit : Int), .slice A n c] 37)).alloc (.cells #[.int .u16 (f.tx : Int), .int .u8 (f.unit : Int), .slice A6 n c6] 37))).drewN kd = w7 at *
      clear d0 d1 d2 hbC rd1 HF1 HF2 hb7 bx6 rd6 ho6 hb6 hb6' hlt6
      obtain ⟨d0, d1, d2⟩ := bx7.c3
      have HE : Hid (bs [] = []) := rfl
      have H0 : Hid (bs [0] = [.int .u8 0]) := rfl
      have r0 := Below.refl w7.heap.size w7
      go_wp2_with (at_builtin; refine app_b rfl _ _ rfl w7 (r0.alloc (Nat.le_refl _) _) _ _ _ [] rfl (Ow.lit _ _ _ [] (Nat.le_refl _) (Nat.zero_le _) HE.out rfl) rfl A5 (7 + n) c5 _ rfl (rd7.alloc _) HPL.out (by omega) ?_)
      intro A8 c8 w8 ho8 hb8 hg8
      go_wp2_with (at_builtin; refine app_b rfl _ _ rfl w7 (hb8.alloc hb8.size _) _ _ _ _ rfl (ho8.alloc _) (by simpa using HPL.out) _ 1 1 [0] rfl (Rd.lit _ _ _ H0.out) rfl (by omega) ?_)
      intro A9 c9 w9 ho9 hb9 hg9
      go_wp2_with fail
      try simp only [List.nil_append] at ho9
      have hle9 := ho9.le.1
      have HL9 : Hid ((packF f ++ [0]).length = 7 + n + 1) := by (show _ = _); simp; rw [HPL.out]
      rw [bs_length, HL9.out] at hle9
      have hB9 : Bs (packF f ++ [0]) := hBp.append (by decide)
      refine (mb_Parse_no A9 (7 + n + 1) c9 _ w9 ho9.rd HL9.out hB9 (by omega) hle9 HP2.out).mono ?_
      rintro e w10 ⟨rfl, hb10⟩
      unfold frV
      have hb79 := bthen hb9 hb10
      have hb10' := bthen hb7' hb79
      have rd10 := rd7.below hb79
      clear hb8 hb9 hg8 hg9 ho8 ho9 hle9 HL9 hB9 r0 HE H0 hb10 rd7 hb79 bx7 d0 d1 d2 hb7'
      have rd11 : Rd w10 A5 (bs ((packF f).take (6 + n))) := rd10.btake _
      have HL11 : Hid (((packF f).take (6 + n)).length = 6 + n) := by (show _ = _); rw [List.length_take, HPL.out]; omega
      go_wp2_with fail
      have hbD := (Below.refl _ w10).alloc (Nat.le_refl _) (.cells #[.int .u16 0, .int .u8 0, .slice none 0 0] 37)
      have hp3 : parF ((packF f).take (6 + n)) = false := by have := HP3.out; rw [HPL.out, show 7 + n - 1 = 6 + n by omega] at this; exact this
      refine (mb_Parse_no A5 (6 + n) c5 _ _ (rd11.below hbD) HL11.out (hBp.take _) (by omega) (by omega) hp3).mono ?_
      rintro e w12 ⟨rfl, hb12⟩
      unfold frV
      have hb12' := bthen hb10' (bthen hbD hb12)
      go_wp2_with fail
      refine (mbap_awake _).mono ?_
      rintro e w13 ⟨rfl, hb13⟩
      have hbE := (Below.refl _ w12).alloc (Nat.le_refl _) (.cells #[.int .u16 0, .int .u8 0, .slice none 0 0] 37)
      go_wp2_with fail
      go_ret
      exact ⟨rfl, bthen hb12' (bthen hbE hb13)⟩
    · have hri' : f.right = false := by simpa using hri
      have hr := hri'
      simp only [Fr.right, decide_eq_false_iff_not] at hr
      rw [HN.out] at hr
      have hpack := mb_Pack_no f A n c wc HN.out hri' (by omega)
      unfold frV at hpack
      have HPK := Lib.hid hpack
      clear hpack hri hri'
      have hr' : n < 1 ∨ 253 < n := by omega
      clear hr
      rcases hr' with hr | hr
      · have u1 : decide ((1 : Int) ≤ (n : Int)) = false := by simp; omega
        go_wp2_with fail
        refine HPK.out.mono ?_
        rintro e w5 ⟨rfl, hb5⟩
        have hb5' := bthen hbc hb5
        have bx5 := bxc.all hb5
        clear d0 d1 d2
        obtain ⟨d0, d1, d2⟩ := bx5.c3
        go_wp2_with fail
        refine (mbap_awake _).mono ?_
        rintro e w6 ⟨rfl, hb6⟩
        go_wp2_with fail
        go_ret
        exact ⟨rfl, bthen hb5' hb6⟩
      · have u1 : decide ((1 : Int) ≤ (n : Int)) = true := by simp; omega
        have u2 : decide ((n : Int) ≤ 253) = false := by simp; omega
        go_wp2_with fail
        refine HPK.out.mono ?_
        rintro e w5 ⟨rfl, hb5⟩
        have hb5' := bthen hbc hb5
        have bx5 := bxc.all hb5
        clear d0 d1 d2
        obtain ⟨d0, d1, d2⟩ := bx5.c3
        go_wp2_with fail
        refine (mbap_awake _).mono ?_
        rintro e w6 ⟨rfl, hb6⟩
        go_wp2_with fail
        go_ret
        exact ⟨rfl, bthen hb5' hb6⟩
end Go.Proofs.Ytheepgfafjinoaa
