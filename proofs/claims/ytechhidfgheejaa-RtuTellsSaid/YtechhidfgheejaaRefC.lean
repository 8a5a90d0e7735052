/- The reference of chapter 2: Bytes. -/
import Derived.Test.YtechhidfgheejaaRefB
import Derived.Deep.CutBlock
namespace Go.Proofs.Ytechhidfgheejaa
open Go.RowKit
set_option linter.unusedSimpArgs false
set_option linter.unusedVariables false

set_option maxHeartbeats 2000000 in
theorem ref_Bytes_none (a : Ak) (A : Option Addr) (c : Nat) (B : Option Addr) (d : Nat) (w : World) (hok : a.ok) (hw : a.words.length ≤ 1000000) (hk : a.bits.length ≤ 1000000) (hr : rightA a = false) :
    Calls Try.prog 23 #[a.v A c B d] w fun e w' => e = .returned (.tuple #[.slice none 0 0, .int .i64 12]) ∧ Below w.heap.size w w' := by
  obtain ⟨f, t, m, o, l, k⟩ := a
  obtain ⟨h1, h2, h3, h4, h5⟩ := hok
  unfold rightA at hr
  unfold Ak.v akV
  simp only at hw hk hr h1 h2 h3 h4 h5 ⊢
  obtain ⟨n, hn⟩ : ∃ n, l.length = n := ⟨_, rfl⟩
  obtain ⟨b, hb⟩ : ∃ b, k.length = b := ⟨_, rfl⟩
  rw [hn] at hw hr ⊢
  rw [hb] at hk hr ⊢
  have E1 := Lib.hid (fun W => ref_Right f t m o A n c B b d W h3 hw hk)
  rw [hr] at E1
  unfold akV at E1
  clear hr hn hb
  have hb1 := (Below.refl _ w).alloc (Nat.le_refl _) (.cells #[.int .u8 (f : Int), .int .u16 (t : Int), .int .u16 (m : Int), .int .u16 (o : Int), .slice A n c, .slice B b d] 41)
  go_enter Try.func23, Try.ntmps23
  go_wp2_with fail
  refine (E1.out _).mono ?_
  rintro e w2 ⟨rfl, hb2⟩
  have hb2' := bthen hb1 hb2
  go_wp2_with fail
  go_ret2
  exact ⟨rfl, hb2'⟩

set_option maxRecDepth 100000 in
set_option maxHeartbeats 8000000 in
theorem ref_Bytes_some (a : Ak) (A : Option Addr) (c : Nat) (B : Option Addr) (d : Nat) (w : World) (hR : AkR w a A B) (hok : a.ok) (hr : rightA a = true) :
    Calls Try.prog 23 #[a.v A c B d] w fun e w' => ∃ A' c', e = .returned (.tuple #[.slice A' (bytesA a).length c', .int .i64 0]) ∧ Ow w' w.heap.size 5 A' c' (bs (bytesA a)) ∧ Below w.heap.size w w' := by
  obtain ⟨f, t, m, o, l, k⟩ := a
  obtain ⟨h1, h2, h3, h4, h5⟩ := hok
  unfold rightA at hr
  unfold Ak.v akV
  simp only at hr h1 h2 h3 h4 h5 ⊢
  have HB : Hid (bytesA ⟨f, t, m, o, l, k⟩ = [f, t / 256, t % 256] ++ midA f m o l.length ++ tailA f l k) := rfl
  generalize bytesA ⟨f, t, m, o, l, k⟩ = out at *
  obtain ⟨n, hn⟩ : ∃ n, l.length = n := ⟨_, rfl⟩
  obtain ⟨b, hb⟩ : ∃ b, k.length = b := ⟨_, rfl⟩
  rw [hn] at hr HB ⊢
  rw [hb] at hr ⊢
  have hfn : isFn f = true := by unfold rightN at hr; simp only [Bool.and_eq_true] at hr; exact hr.1.1.1.1.1
  obtain ⟨hn1, hb1⟩ := right_len hr
  have E1 := Lib.hid (fun W => ref_Right f t m o A n c B b d W h3 (by omega) (by omega))
  have HRT := Lib.hid hr
  rw [hr] at E1
  unfold akV at E1
  have HN := Lib.hid hn
  have HK := Lib.hid hb
  have HKD := Lib.hid hfn
  clear hr hn hb hfn
  have hb1 := (Below.refl _ w).alloc (Nat.le_refl _) (.cells #[.int .u8 (f : Int), .int .u16 (t : Int), .int .u16 (m : Int), .int .u16 (o : Int), .slice A n c, .slice B b d] 41)
  have bx1 := Blk.new w 41 #[.int .u8 (f : Int), .int .u16 (t : Int), .int .u16 (m : Int), .int .u16 (o : Int), .slice A n c, .slice B b d]
  obtain ⟨g, hg⟩ : ∃ g, w.heap.size = g := ⟨_, rfl⟩
  have HG := Lib.hid hg
  go_enter Try.func23, Try.ntmps23
  go_wp2_with fail
  rw [hg] at bx1
  clear hg
  refine (E1.out _).mono ?_
  rintro e w2 ⟨rfl, hb2⟩
  have hb2' := bthen hb1 hb2
  have bx2 := bx1.all hb2
  clear hb1 hb2 bx1 E1
  have hR2 := hR.below hb2'
  have hsz2 : w.heap.size ≤ w2.heap.size := hb2'.size
  have K0 : Hid (∀ W : World, Below w2.heap.size w2 W → Blk W g 41 #[.int .u8 (f : Int), .int .u16 (t : Int), .int .u16 (m : Int), .int .u16 (o : Int), .slice A n c, .slice B b d]) := fun W hW => bx2.all hW
  have K1 : Hid (∀ W : World, Below w2.heap.size w2 W → W.cell? ⟨g, 2, none⟩ = some (.int .u16 (m : Int)) ∧ W.cell? ⟨g, 3, none⟩ = some (.int .u16 (o : Int)) ∧ W.cell? ⟨g, 4, none⟩ = some (.slice A n c)) := fun W hW => (K0.out W hW).c6.2.2 |> fun q => ⟨q.1, q.2.1, q.2.2.1⟩
  obtain ⟨d0, d1, d2, d3, d4, d5⟩ := bx2.c6
  obtain ⟨d0', d1', d2', d3', d4', d5'⟩ := (bx2.alloc (.cells #[.int .u8 (f : Int)] 5)).c6
  have rr : Below w2.heap.size w2 w2 := Below.refl _ _
  have HF1 : Hid (bs [f] = [.int .u8 (f : Int)]) := rfl
  go_wp2_with fail
  refine (ref_Two w2 _ (rr.alloc (Nat.le_refl _) _) _ 1 1 [f] (Ow.lit _ _ _ [.int .u8 (f : Int)] (Nat.le_refl _) (show (1 : Nat) ≤ maxLen by decide) HF1.out rfl) rfl t h2 (by omega)).mono ?_
  rintro e w3 ⟨A3, c3, rfl, o3, hb3, -⟩
  clear d0 d1 d2 d3 d4 d5 d0' d1' d2' d3' d4' d5' bx2 rr
  have bx3 := K0.out _ hb3
  obtain ⟨d0, d1, d2, d3, d4, d5⟩ := bx3.c6
  have L3 : Hid (([f] ++ nums [t]).length = 3) := rfl
  have hfk := HKD.out
  unfold isFn at hfk
  rw [decide_eq_true_iff] at hfk
  have HFK := Lib.hid hfk
  by_cases c5 : f = 5
  · have v5 : ((f : Int) == 5) = true := by simp; omega
    have hb5 : b = 1 := by have h := HRT.out; rw [c5] at h; exact right5 h
    obtain ⟨x, hx1⟩ := len1 (by rw [HK.out]; exact hb5 : k.length = 1)
    obtain ⟨bb, off, x', rfl, hx, cx⟩ := (hR2.bits.below hb3).bit (k := 0) (by rw [HK.out]; omega)
    rw [Nat.add_zero] at cx
    have hxx : x = x' := by simp only at hx; rw [hx1] at hx; simpa using hx
    have HOUT : Hid (out = [f] ++ nums [t] ++ nums [if x' then 65280 else 0]) := by
      (show _ = _); rw [HB.out]; unfold midA tailA; rw [c5, hx1, hxx]; simp [shp, nums]
    have v0 : (0 : Int) < (b : Int) := by omega
    have v0' : 0 < b := by omega
    clear hx hx1 hxx c5 hb5 hfk
    cases x' with
    | true =>
      go_wp2_with fail
      refine (ref_Two w2 _ hb3 A3 3 c3 _ o3 L3.out 65280 (by omega) (by omega)).mono ?_
      rintro e w4 ⟨A4, c4, rfl, o4, hb4, -⟩
      have L4 : Hid (([f] ++ nums [t] ++ nums [65280]).length = 5) := rfl
      go_wp2_with fail
      go_ret2
      exact ⟨A4, c4, bytes_fin HOUT.out L4.out, by rw [HOUT.out]; exact o4.base hsz2, hb2'.trans (hb4.mono hsz2)⟩
    | false =>
      go_wp2_with fail
      refine (ref_Two w2 _ hb3 A3 3 c3 _ o3 L3.out 0 (by omega) (by omega)).mono ?_
      rintro e w4 ⟨A4, c4, rfl, o4, hb4, -⟩
      have L4 : Hid (([f] ++ nums [t] ++ nums [0]).length = 5) := rfl
      go_wp2_with fail
      go_ret2
      exact ⟨A4, c4, bytes_fin HOUT.out L4.out, by rw [HOUT.out]; exact o4.base hsz2, hb2'.trans (hb4.mono hsz2)⟩
  have v5 : ((f : Int) == 5) = false := by simp; omega
  by_cases c6 : f = 6
  · have v6 : ((f : Int) == 6) = true := by simp; omega
    have hn6 : n = 1 := by have h := HRT.out; rw [c6] at h; exact right6 h
    obtain ⟨x, hx1⟩ := len1 (by rw [HN.out]; exact hn6 : l.length = 1)
    obtain ⟨bb, off, x', rfl, hx, cx⟩ := (hR2.words.below hb3).word (k := 0) (by simp only; rw [HN.out]; omega)
    rw [Nat.add_zero] at cx
    simp only at hx
    have hxb := h5.get hx
    have hxx : x = x' := by rw [hx1] at hx; simpa using hx
    have HOUT : Hid (out = [f] ++ nums [t] ++ nums [x']) := by
      (show _ = _); rw [HB.out]; unfold midA tailA; rw [c6, hx1, hxx]; simp [shp, nums]
    have L4 : Hid (([f] ++ nums [t] ++ nums [x']).length = 5) := rfl
    have v0 : (0 : Int) < (n : Int) := by omega
    have v0' : 0 < n := by omega
    clear hx hx1 hxx c6 c5 hn6 hfk
    go_wp2_with fail
    refine (ref_Two w2 _ hb3 A3 3 c3 _ o3 L3.out x' hxb (by omega)).mono ?_
    rintro e w4 ⟨A4, c4, rfl, o4, hb4, -⟩
    go_wp2_with fail
    go_ret2
    exact ⟨A4, c4, bytes_fin HOUT.out L4.out, by rw [HOUT.out]; exact o4.base hsz2, hb2'.trans (hb4.mono hsz2)⟩
  have v6 : ((f : Int) == 6) = false := by simp; omega
  by_cases c15 : f = 15
  · have v15 : ((f : Int) == 15) = true := by simp; omega
    obtain ⟨k1, k2⟩ : 1 ≤ b ∧ b ≤ 1968 := by have h := HRT.out; rw [c15] at h; exact right15 h
    have HOUT : Hid (out = [f] ++ nums [t] ++ nums [m] ++ [(pk k).length] ++ pk k) := by
      (show _ = _); rw [HB.out]; unfold midA tailA; rw [c15]; simp [shp, nums]
    clear c15 c6 c5 hfk
    go_wp2_with fail
    refine (ref_Pack B b d k w3 (hR2.bits.below hb3) HK.out (by omega)).mono ?_
    rintro e w4 ⟨A4, c4, rfl, o4, hb4⟩
    clear d0 d1 d2 d3 d4 d5 bx3
    obtain ⟨q, hq⟩ : ∃ q, (b + 7) / 8 = q := ⟨_, rfl⟩
    have hq1 : 1 ≤ q := by omega
    have hq2 : q ≤ 246 := by omega
    have HQ : Hid ((pk k).length = q) := by (show _ = _); rw [pk_length, HK.out, hq]
    rw [hq]
    clear hq
    obtain ⟨g4, rfl, hg4, hg4', -, -⟩ := o4.head (by rw [bs_length, HQ.out]; exact hq1)
    have o34 := o3.below hb4
    have hb4' := hb3.trans (hb4.mono hb3.size)
    have bx4 := K0.out _ hb4'
    obtain ⟨d0, d1, d2, d3, d4, d5⟩ := bx4.c6
    have hq3 : IntKind.u8.wrap (q : Int) = (q : Int) := by rw [IntKind.wrap_u8]; omega
    have HL1 : Hid (bs [q] = [.int .u8 (q : Int)]) := rfl
    have hA3 : some g4 ≠ A3.map (·.block) := by
      intro e
      have := o3.block (g := g4) (by rw [own_map]; exact e.symm)
      omega
    go_wp2_with fail
    refine (ref_Two w2 _ hb4' A3 3 c3 _ o34 L3.out m h3 (by omega)).mono ?_
    rintro e w5 ⟨A5, c5, rfl, o5, hb5, k5⟩
    have L5 : Hid (([f] ++ nums [t] ++ nums [m]).length = 5) := rfl
    have rd5 := k5.1 _ _ _ hg4' hA3 o4.rd
    clear d0 d1 d2 d3 d4 d5 bx4
    go_wp2_with (at_builtin; refine app_b rfl _ _ rfl w2 (hb5.alloc hb5.size _) _ _ _ _ rfl (o5.alloc _) L5.out _ 1 1 [q] rfl (Rd.lit _ _ _ HL1.out) rfl (by omega) ?_)
    intro A8 c8 w8 o8 hb8 hg8
    have rd8 : Rd w8 (some ⟨g4, 0, none⟩) (bs (pk k)) := (rd5.alloc _).other hg8 (by rw [own_map]; exact k5.2 g4 hg4' hA3)
    have L8 : Hid (([f] ++ nums [t] ++ nums [m] ++ [q]).length = 6) := rfl
    go_wp2_with (at_builtin; refine app_b rfl _ _ rfl w2 hb8 _ _ _ _ rfl o8 L8.out _ q c4 (pk k) rfl rd8 HQ.out (by omega) ?_)
    intro A9 c9 w9 o9 hb9 hg9
    have L9 : Hid (([f] ++ nums [t] ++ nums [m] ++ [(pk k).length] ++ pk k).length = 6 + q) := by (show _ = _); rw [List.length_append, HQ.out, L8.out]
    go_wp2_with fail
    go_ret2
    exact ⟨A9, c9, bytes_fin HOUT.out L9.out, by rw [HOUT.out, HQ.out]; exact o9.base hsz2, hb2'.trans (hb9.mono hsz2)⟩
  have v15 : ((f : Int) == 15) = false := by simp; omega
  by_cases c16 : f = 16
  · have v16 : ((f : Int) == 16) = true := by simp; omega
    have HOUT : Hid (out = [f] ++ nums [t] ++ nums [m] ++ [2 * n] ++ nums l) := by
      (show _ = _); rw [HB.out]; unfold midA tailA; rw [HN.out, c16]; simp [shp, nums]
    have f1 : IntKind.i64.wrap (2 * (n : Int)) = 2 * (n : Int) := IntWalk.i64_in _ (by omega)
    have f2 : IntKind.u8.wrap (2 * (n : Int)) = 2 * (n : Int) := by rw [IntKind.wrap_u8]; omega
    have f3 : IntKind.i64.wrap (m : Int) = (m : Int) := IntWalk.i64_in _ (by omega)
    have HX : Hid (bs [2 * n] = [.int .u8 (2 * (n : Int))]) := by (show _ = _); simp [bs]
    have L4 : Hid (([f] ++ nums [t] ++ nums [m]).length = 5) := rfl
    have L5 : Hid (([f] ++ nums [t] ++ nums [m] ++ [2 * n]).length = 6) := rfl
    have L6 : Hid (([f] ++ nums [t] ++ nums [m] ++ [2 * n] ++ nums l).length = 6 + 2 * n) := by (show _ = _); rw [List.length_append, L5.out, nums_length, HN.out]
    have hA3 : some w3.heap.size ≠ A3.map (·.block) := by
      intro e
      rw [← own_map A3 ([f] ++ nums [t]).length c3] at e
      exact o3.notnew _ e
    clear c16 c15 c6 c5 hfk
    go_upto_region 18 with fail
    clear d0 d1 d2 d3 d4 d5
    go_cut [4] (fun v wc => ∃ A5 c5, v = .slice A5 6 c5 ∧ Ow wc w2.heap.size 5 A5 c5 (bs ([f] ++ nums [t] ++ nums [m] ++ [2 * n])) ∧ Below w2.heap.size w2 wc)
    case first =>
      go_region_held3 (fun w' => w'.cell? ⟨g, 2, none⟩ = some (.int .u16 (m : Int)) ∧ w'.cell? ⟨g, 3, none⟩ = some (.int .u16 (o : Int)) ∧ w'.cell? ⟨g, 4, none⟩ = some (.slice A n c)) (first | exact K1.out _ hb3.drew | exact K1.out _ (hb3.drew.alloc hb3.size _) | exact K1.out _ hb4 | exact K1.out _ (hb4.alloc hb4.size _) | exact K1.out _ hb5)
        (first
          | (refine sapp_b rfl _ _ rfl w2 (hb4.alloc hb4.size _) A4 5 c4 _ rfl (o4.alloc _) L4.out _ 1 1 [2 * n] rfl (Rd.lit _ _ _ HX.out) rfl (by omega) ?_; intro A5 c5 w5 o5 hb5 hg5)
          | (refine sapp_b rfl _ _ rfl w2 hb4 A4 5 c4 _ rfl o4 L4.out _ 1 1 [2 * n] rfl rd4 rfl (by omega) ?_; intro A5 c5 w5 o5 hb5 hg5)
          | (go_at_call 75; refine (ref_Two w2 _ hb3.drew A3 3 c3 _ o3.drew L3.out m h3 (by omega)).mono ?_; rintro e w4 ⟨A4, c4, rfl, o4, hb4, -⟩)
          | (go_at_call 75; refine (ref_Two w2 _ (hb3.drew.alloc hb3.size _) A3 3 c3 _ (o3.drew.alloc _) L3.out m h3 (by omega)).mono ?_; rintro e w4 ⟨A4, c4, rfl, o4, hb4, k4⟩; have rd4 := k4.1 w3.heap.size 0 _ (by simp) hA3 (Rd.lit w3.drew _ _ HX.out)))
      all_goals
        go_wp2_with fail
        go_meet
        exact ⟨_, _, rfl, o5, hb5⟩
    case rest =>
      obtain ⟨A5, c5, rfl, o5, hb5⟩ := hcut
      have bx5 := K0.out _ hb5
      obtain ⟨d0, d1, d2, d3, d4, d5⟩ := bx5.c6
      go_wp2_with fail
      refine (ref_Words w2 _ hb5 A5 6 c5 _ o5 L5.out A n c l hR2.words HN.out h5 (by omega) (by omega)).mono ?_
      rintro e w6 ⟨A6, c6, rfl, o6, hb6⟩
      go_wp2_with fail
      go_ret2
      exact ⟨A6, c6, bytes_fin HOUT.out L6.out, by rw [HOUT.out]; exact o6.base hsz2, hb2'.trans (hb6.mono hsz2)⟩
  have v16 : ((f : Int) == 16) = false := by simp; omega
  by_cases c23 : f = 23
  · have v23 : ((f : Int) == 23) = true := by simp; omega
    have HOUT : Hid (out = [f] ++ nums [t] ++ nums [m] ++ nums [o] ++ nums [n] ++ [2 * n] ++ nums l) := by
      (show _ = _); rw [HB.out]; unfold midA tailA; rw [HN.out, c23]; simp [shp, nums]
    have f1 : IntKind.i64.wrap (2 * (n : Int)) = 2 * (n : Int) := IntWalk.i64_in _ (by omega)
    have f2 : IntKind.u8.wrap (2 * (n : Int)) = 2 * (n : Int) := by rw [IntKind.wrap_u8]; omega
    have f3 : IntKind.i64.wrap (m : Int) = (m : Int) := IntWalk.i64_in _ (by omega)
    have f4 : IntKind.i64.wrap (o : Int) = (o : Int) := IntWalk.i64_in _ (by omega)
    have HX : Hid (bs [2 * n] = [.int .u8 (2 * (n : Int))]) := by (show _ = _); simp [bs]
    have L4 : Hid (([f] ++ nums [t] ++ nums [m]).length = 5) := rfl
    have L5 : Hid (([f] ++ nums [t] ++ nums [m] ++ nums [o]).length = 7) := rfl
    have L6 : Hid (([f] ++ nums [t] ++ nums [m] ++ nums [o] ++ nums [n]).length = 9) := rfl
    have L7 : Hid (([f] ++ nums [t] ++ nums [m] ++ nums [o] ++ nums [n] ++ [2 * n]).length = 10) := rfl
    have L8 : Hid (([f] ++ nums [t] ++ nums [m] ++ nums [o] ++ nums [n] ++ [2 * n] ++ nums l).length = 10 + 2 * n) := by (show _ = _); rw [List.length_append, L7.out, nums_length, HN.out]
    clear c23 c16 c15 c6 c5 hfk
    go_upto_region 21 with fail
    clear d0 d1 d2 d3 d4 d5
    go_region_held3 (fun w' => w'.cell? ⟨g, 2, none⟩ = some (.int .u16 (m : Int)) ∧ w'.cell? ⟨g, 3, none⟩ = some (.int .u16 (o : Int)) ∧ w'.cell? ⟨g, 4, none⟩ = some (.slice A n c)) (first | exact K1.out _ hb3.drew | exact K1.out _ hb4 | exact K1.out _ hb5 | exact K1.out _ hb6)
      (first
        | (go_at_call 75; with_reducible refine Calls.mono (ref_Two w2 _ hb3.drew A3 3 c3 _ o3.drew L3.out m h3 (by omega)) ?_; rintro e w4 ⟨A4, c4, rfl, o4, hb4, -⟩)
        | (go_at_call 75; with_reducible refine Calls.mono (ref_Two w2 _ hb4 A4 5 c4 _ o4 L4.out o h4 (by omega)) ?_; rintro e w5 ⟨A5, c5, rfl, o5, hb5, -⟩)
        | (go_at_call 75; with_reducible refine Calls.mono (ref_Two w2 _ hb5 A5 7 c5 _ o5 L5.out n (by omega) (by omega)) ?_; rintro e w6 ⟨A6, c6, rfl, o6, hb6, -⟩))
    go_upto_region 22 with fail
    go_region_held3 (fun w' => w'.cell? ⟨g, 4, none⟩ = some (.slice A n c)) (first | exact (K1.out _ hb6.drew).2.2 | exact (K1.out _ (hb6.drew.alloc hb6.size _)).2.2 | exact (K1.out _ hb7).2.2 | exact (K1.out _ hb8).2.2)
      (first
        | (refine sapp_b rfl _ _ rfl w2 (hb6.drew.alloc hb6.size _) A6 9 c6 _ rfl (o6.drew.alloc _) L6.out _ 1 1 [2 * n] rfl (Rd.lit _ _ _ HX.out) rfl (by omega) ?_; intro A7 c7 w7 o7 hb7 hg7)
        | (go_at_call 76; refine (ref_Words w2 _ hb7 A7 10 c7 _ o7 L7.out A n c l hR2.words HN.out h5 (by omega) (by omega)).mono ?_; rintro e w8 ⟨A8, c8, rfl, o8, hb8⟩))
    go_wp2_with fail
    go_ret2
    exact ⟨A8, c8, bytes_fin HOUT.out L8.out, by rw [HOUT.out]; exact o8.base hsz2, hb2'.trans (hb8.mono hsz2)⟩
  have v23 : ((f : Int) == 23) = false := by simp; omega
  have HOUT : Hid (out = [f] ++ nums [t] ++ nums [m]) := by
    (show _ = _)
    rw [HB.out]
    unfold midA tailA
    rcases HFK.out with h | h | h | h | h | h | h | h | h
    all_goals first | (rw [h]; simp [shp, nums]; done) | (exfalso; omega)
  have L4 : Hid (([f] ++ nums [t] ++ nums [m]).length = 5) := rfl
  clear c23 c16 c15 c6 c5 hfk
  go_wp2_with fail
  refine (ref_Two w2 _ hb3 A3 3 c3 _ o3 L3.out m h3 (by omega)).mono ?_
  rintro e w4 ⟨A4, c4, rfl, o4, hb4, -⟩
  go_wp2_with fail
  go_ret2
  exact ⟨A4, c4, bytes_fin HOUT.out L4.out, by rw [HOUT.out]; exact o4.base hsz2, hb2'.trans (hb4.mono hsz2)⟩

theorem ref_Bytes (a : Ak) (A : Option Addr) (c : Nat) (B : Option Addr) (d : Nat) (w : World) (hR : AkR w a A B) (hok : a.ok) (hw : a.words.length ≤ 1000000) (hk : a.bits.length ≤ 1000000) :
    Calls Try.prog 23 #[a.v A c B d] w fun e w' => ∃ A' c', e = .returned (.tuple #[.slice A' (bytesN a).length c', .int .i64 (errN a : Nat)]) ∧ Ow w' w.heap.size 5 A' c' (bs (bytesN a)) ∧ Below w.heap.size w w' := by
  by_cases hr : rightA a = true
  · have e1 : bytesN a = bytesA a := by unfold bytesN; rw [if_pos hr]
    have e2 : errN a = 0 := by unfold errN; rw [if_pos hr]
    rw [e1, e2]
    exact ref_Bytes_some a A c B d w hR hok hr
  · have e1 : bytesN a = [] := by unfold bytesN; rw [if_neg hr]
    have e2 : errN a = 12 := by unfold errN; rw [if_neg hr]
    rw [e1, e2]
    refine (ref_Bytes_none a A c B d w hok hw hk (by simpa using hr)).mono ?_
    rintro e w' ⟨rfl, hb⟩
    exact ⟨none, 0, rfl, Ow.nil, hb⟩
end Go.Proofs.Ytechhidfgheejaa
