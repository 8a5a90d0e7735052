/- The walk of saucierref05.Cut. -/
import Derived.Test.YtheepgfafjinoaaRef05B
namespace Go.Proofs.Ytheepgfafjinoaa
open Go.RowKit
set_option linter.unusedSimpArgs false
set_option linter.unusedVariables false

section
variable {w : World} {ops : Array Oper} {rest : List Oper} {o : Oper} {a : Act} {Q : Exit → Act → World → Prop}
theorem app_m (hgd : o.guard = none) (s x : Operand) (ho : o.op = .call { callee := .builtin .append, args := #[s, x], argTypes := #[43, 43] })
    (w0 : World) (hb : Below w0.heap.size w0 w) (A : Option Addr) (n c : Nat) (xs : List Fx) (hs : a.eval s = .slice A n c) (hown : OwK w w0.heap.size 37 3 A n c (fxs xs))
    (A2 : Option Addr) (m c2 : Nat) (news : List Fx) (hx : a.eval x = .slice A2 m c2) (hr : Rd w A2 (fxs news)) (hm : news.length = m) (hbytes : n + m ≤ 100000000000)
    (h : ∀ A' c' w', OwK w' w0.heap.size 37 3 A' (n + m) c' (fxs (xs ++ news)) → Below w0.heap.size w0 w' → w.grownBy w' (Value.ownBlock (.slice A n c)) → wpList Try.prog ops Q rest (a.put o.dst (.slice A' (n + m) c')) w') :
    wpList Try.prog ops Q (o :: rest) a w := by
  obtain ⟨i, hi, hz0, hz1, hz2⟩ := info_parts info_m
  refine wpList_appK hgd s x 43 ho 37 i _ 3 32 Try.underlying43 hi hz0 hz1 hz2 rfl (by decide) w0.heap.size w0 hb hb.size A n c (fxs xs) hs hown A2 m c2 (fxs news) hx hr (by rw [fxs_length, hm]) (fxs_one news) (by omega) (by decide) ?_
  intro A' c' w' h1 h2 h3
  exact h A' c' w' (by rw [fxs_append]; exact h1) h2 h3
end
theorem Rd.litAt (w : World) (t : TypeId) (cs : List Value) (g : Nat) {xs : List Value} (hg : w.heap.size = g) (hx : xs = cs) : Rd (w.alloc (.cells cs.toArray t)) (some ⟨g, 0, none⟩) xs := by
  subst hg; exact Rd.lit w t cs hx
theorem fxs_one_lit (x : Fx) : fxs [x] = [.int .u16 (x.f.tx : Int), .int .u8 (x.f.unit : Int), .slice x.A x.f.pdu.length x.c] := by simp [fxs, Fx.cells]

theorem okAt_take_lt (l : List Nat) (k i : Nat) (h : i < k) : okAt (l.take k) i = okAt l i := by
  unfold okAt; rw [List.getElem?_take, if_pos h]
theorem hasF_take {r : List Nat} (h : hasF r = true) : parF (r.take (lenF r)) = true ∧ fstF (r.take (lenF r)) = fstF r := by
  have hh := hasF_len h
  have hg : ∀ i, i < lenF r → (r.take (lenF r)).getD i 0 = r.getD i 0 := fun i hi => by
    rw [List.getD_eq_getElem?_getD, List.getElem?_take, if_pos hi, List.getD_eq_getElem?_getD]
  have e1 : lenF (r.take (lenF r)) = lenF r := by
    have := hg 5 (by omega)
    unfold lenF at this ⊢
    rw [this]
  have hb : begF (r.take (lenF r)) = true := begF_take hh.2.2.2 _
  have hlen : (r.take (lenF r)).length = lenF r := by rw [List.length_take]; omega
  refine ⟨?_, ?_⟩
  · unfold parF hasF
    rw [e1, hlen, hb]
    simp
    omega
  · have h0 := hg 0 (by omega)
    have h1 := hg 1 (by omega)
    have h6 := hg 6 (by omega)
    unfold fstF
    rw [e1, h0, h1, h6, List.take_take, Nat.min_self]

set_option maxRecDepth 100000 in
set_option maxHeartbeats 4000000 in
theorem r05_Cut (A : Option Addr) (n c : Nat) (l : List Nat) (w : World) (hA : Rd w A (bs l)) (hn : l.length = n) (hl : Bs l) (hm : n ≤ 1000000000) (hc : n ≤ c) (hcm : c ≤ 9223372036854775807) :
    Calls Try.prog 33 #[.slice A n c] w fun e w' => ∃ A' c' xs, xs.map Fx.f = (cutF l).1 ∧
      e = .returned (.tuple #[.slice A' xs.length c', .int .i64 ((cutF l).2 : Nat), .int .i64 (cutErr l : Nat)]) ∧
      OwK w' w.heap.size 37 3 A' xs.length c' (fxs xs) ∧ (∀ x ∈ xs, x.G w.heap.size w') ∧ Below w.heap.size w w' := by
  have HN := Lib.hid hn
  clear hn
  go_enter Try.func33, Try.ntmps33
  go_wp2_with fail
  go_loopw [5, 6] (fun v i wr => ∃ (k : Nat) (pre : List Fx), k ≤ n ∧ i = .int .i64 k ∧ pre.length ≤ k ∧ Hid ((cutF l).1 = pre.map Fx.f ++ (cutF (l.drop k)).1) ∧ Hid ((cutF l).2 = k + (cutF (l.drop k)).2) ∧ Below w.heap.size w wr ∧
    (∀ x ∈ pre, x.G w.heap.size wr) ∧ ∃ A1 c1, v = .slice A1 pre.length c1 ∧ OwK wr w.heap.size 37 3 A1 pre.length c1 (fxs pre)) (fun _ i _ => n - (intOf i).toNat)
  case atStart => exact ⟨0, [], by omega, rfl, by simp, by (show _ = _); simp, by (show _ = _); simp, Below.refl _ _, by simp, none, 0, rfl, OwK.nil⟩
  case round =>
    obtain ⟨k, pre, hk, rfl, hpk, HC1, HC2, hbr, he, A1, c1, rfl, o1⟩ := hrel
    have HE := Lib.hid he
    obtain ⟨A2, hsl, hA2⟩ := slice_from_b (hA.below hbr) HN.out hc k hk
    have HL : Hid ((l.drop k).length = n - k) := by (show _ = _); rw [List.length_drop, HN.out]
    have HFIN : Hid (hasF (l.drop k) = false → ∀ r : Nat, (if begF (l.drop k) = true then 0 else 10) = r → pre.map Fx.f = (cutF l).1 ∧ (cutF l).2 = k ∧ cutErr l = r) := by
      (show _ → _)
      intro hno r hr
      have e1 := HC1.out
      have e2 := HC2.out
      rw [cutF_no hno] at e1 e2
      simp only [List.append_nil, Nat.add_zero] at e1 e2
      refine ⟨e1.symm, e2, ?_⟩
      unfold cutErr
      rw [e2]
      exact hr
    clear he
    have hkc : k ≤ c := by omega
    by_cases hb : begF (l.drop k) = true
    · by_cases h6 : n - k < 6
      · have hlong : longF (l.drop k) = 0 := by unfold longF; rw [if_neg (by rw [hb]; simp), if_pos (by rw [HL.out]; exact h6)]
        have hno : hasF (l.drop k) = false := by unfold hasF; rw [decide_eq_false (by rw [HL.out]; omega)]; rfl
        obtain ⟨f1, f2, f3⟩ := HFIN.out hno 0 (by rw [if_pos hb])
        have HLo := Lib.hid hlong
        have F1 := Lib.hid f1
        have F2 := Lib.hid f2
        have F3 := Lib.hid f3
        clear hlong hno f1 f2 f3 hb
        go_wp2_with fail
        refine (r05_long A2 (n - k) (c - k) (l.drop k) _ hA2 HL.out (hl.drop k) (by omega)).mono ?_
        rintro e w1 ⟨rfl, rfl⟩
        rw [HLo.out]
        go_wp2_with fail
        go_ret3
        exact ⟨A1, c1, pre, F1.out, by rw [F2.out, F3.out]; rfl, o1, HE.out, hbr⟩
      · obtain ⟨m, hm2⟩ : ∃ m, lenF (l.drop k) = m := ⟨_, rfl⟩
        have hlong : longF (l.drop k) = (m : Int) := by unfold longF; rw [if_neg (by rw [hb]; simp), if_neg (by rw [HL.out]; exact h6), hm2]
        have h8 := begF_len hb (by rw [HL.out]; omega)
        rw [hm2] at h8
        have HLo := Lib.hid hlong
        have t0 : ((m : Int) == 0) = false := by simp; omega
        by_cases hkm : n < k + m
        · have hno : hasF (l.drop k) = false := by unfold hasF; rw [hm2, decide_eq_false (p := m ≤ _) (by rw [HL.out]; omega)]; simp
          obtain ⟨f1, f2, f3⟩ := HFIN.out hno 0 (by rw [if_pos hb])
          have F1 := Lib.hid f1
          have F2 := Lib.hid f2
          have F3 := Lib.hid f3
          clear hlong hno f1 f2 f3 hb hm2
          go_wp2_with fail
          refine (r05_long A2 (n - k) (c - k) (l.drop k) _ hA2 HL.out (hl.drop k) (by omega)).mono ?_
          rintro e w1 ⟨rfl, rfl⟩
          rw [HLo.out]
          go_wp2_with fail
          go_ret3
          exact ⟨A1, c1, pre, F1.out, by rw [F2.out, F3.out]; rfl, o1, HE.out, hbr⟩
        · have hyes : hasF (l.drop k) = true := by unfold hasF; rw [hm2, hb, decide_eq_true (p := 7 < _) (by rw [HL.out]; omega), decide_eq_true (p := m ≤ _) (by rw [HL.out]; omega)]; rfl
          have hcy := cutF_yes hyes
          have hok := fstF_ok (hl.drop k)
          have hri := fstF_right hyes
          obtain ⟨ht1, ht2⟩ := hasF_take hyes
          rw [hm2] at hcy ht1 ht2
          obtain ⟨f, hf⟩ : ∃ f, fstF (l.drop k) = f := ⟨_, rfl⟩
          rw [hf] at hcy hok hri ht2
          have hfp : f.pdu.length = m - 7 := by rw [← hf, fstF_pdu hyes, hm2]
          have HFP := Lib.hid hfp
          have HCY := Lib.hid hcy
          have HT2 := Lib.hid ht2
          have HTK : Hid (((l.drop k).take m).length = m) := by (show _ = _); rw [List.length_take, HL.out]; omega
          have hmid := fun (W : World) (hW : Rd W A (bs l)) => slice_mid_b hW HN.out hc k (k + m) (by omega) (by omega)
          obtain ⟨A3, hsl3, hA3⟩ := hmid wr (hA.below hbr)
          have hdt : (l.take (k + m)).drop k = (l.drop k).take m := by rw [List.drop_take]; congr 1; omega
          rw [hdt] at hA3
          have ekm : k + m - k = m := by omega
          rw [ekm] at hsl3
          have hparse := r05_Parse_yes A3 m (c - k) ((l.drop k).take m) wr hA3 HTK.out ((hl.drop k).take m) (by omega) ht1
          rw [ht2] at hparse
          have HP := Lib.hid hparse
          have hcast : ((k + m : Nat) : Int) = (k : Int) + (m : Int) := by omega
          rw [hcast] at hsl3
          have HS3 := Lib.hid hsl3
          clear hlong hb hm2 hyes hcy ht1 ht2 hf hfp hmid hdt ekm hparse hsl3 hcast
          go_wp2_with fail
          refine (r05_long A2 (n - k) (c - k) (l.drop k) _ hA2 HL.out (hl.drop k) (by omega)).mono ?_
          rintro e w1 ⟨rfl, rfl⟩
          rw [HLo.out]
          have hsl3 := HS3.out
          go_wp2_with fail
          refine HP.out.mono ?_
          rintro e w2 ⟨A4, c4, rfl, ho4, hb4⟩
          unfold frV
          have HX : Hid (fxs [⟨f, A4, c4⟩] = [.int .u16 (f.tx : Int), .int .u8 (f.unit : Int), .slice A4 (m - 7) c4]) := by (show _ = _); rw [fxs_one_lit]; simp only; rw [HFP.out]
          have hb5 := bthen hbr hb4
          have hb6 := hb5.alloc hb5.size (.cells #[.int .u16 (f.tx : Int), .int .u8 (f.unit : Int), .slice A4 (m - 7) c4] 37)
          have o6 := (o1.below hb4).alloc (.cells #[.int .u16 (f.tx : Int), .int .u8 (f.unit : Int), .slice A4 (m - 7) c4] 37)
          have G6 : Fx.G w.heap.size ⟨f, A4, c4⟩ (w2.alloc (.cells #[.int .u16 (f.tx : Int), .int .u8 (f.unit : Int), .slice A4 (m - 7) c4] 37)) := ⟨(ho4.base hbr.size).alloc _, hok, hri⟩
          have E6 : Hid (∀ x ∈ pre, x.G w.heap.size (w2.alloc (.cells #[.int .u16 (f.tx : Int), .int .u8 (f.unit : Int), .slice A4 (m - 7) c4] 37))) := by
            (show ∀ _, _)
            intro x hx
            have := HE.out x hx
            exact ⟨(this.ow.below hb4).alloc _, this.ok, this.right⟩
          clear hsl3
          go_wp2_with (at_builtin; refine app_m rfl _ _ rfl w (hb6.alloc hb6.size _) _ _ _ pre rfl (o6.alloc _) _ 1 1 [⟨f, A4, c4⟩] rfl (Rd.litAt _ _ _ _ (World.size_alloc _ _) HX.out) rfl (by omega) ?_)
          intro A7 c7 w7 o7 hb7 hg7
          go_wp2_with fail
          go_roundw
          case rel =>
            refine ⟨k + m, pre ++ [⟨f, A4, c4⟩], by omega, by go_num, by simp; omega, ?_, ?_, hb7, ?_, A7, c7, by simp, by simpa using o7⟩
            · (show _ = _)
              rw [HC1.out, HCY.out, List.drop_drop]
              simp
            · (show _ = _)
              rw [HC2.out, HCY.out, List.drop_drop]
              simp
              omega
            · intro x hx
              rcases List.mem_append.1 hx with hx | hx
              · exact ((E6.out x hx).alloc _).appended (o6.alloc _) hg7
              · simp at hx
                subst hx
                exact (G6.alloc _).appended (o6.alloc _) hg7
          case measure => simp [intOf]; omega
    · have hb' : begF (l.drop k) = false := by simpa using hb
      have hlong : longF (l.drop k) = -1 := by unfold longF; rw [if_pos hb']
      have hno : hasF (l.drop k) = false := by unfold hasF; rw [hb']; simp
      obtain ⟨f1, f2, f3⟩ := HFIN.out hno 10 (by rw [if_neg hb])
      have HLo := Lib.hid hlong
      have F1 := Lib.hid f1
      have F2 := Lib.hid f2
      have F3 := Lib.hid f3
      clear hlong hno f1 f2 f3 hb hb'
      go_wp2_with fail
      refine (r05_long A2 (n - k) (c - k) (l.drop k) _ hA2 HL.out (hl.drop k) (by omega)).mono ?_
      rintro e w1 ⟨rfl, rfl⟩
      rw [HLo.out]
      go_wp2_with fail
      go_ret3
      exact ⟨A1, c1, pre, F1.out, by rw [F2.out, F3.out]; rfl, o1, HE.out, hbr⟩
end Go.Proofs.Ytheepgfafjinoaa
