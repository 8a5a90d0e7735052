/- saucierlaw26.QueueRoom returns true: there is room for just as many as there should be. -/
import Derived.Test.YtheepgfafjinoaaQueueAwake
import Derived.Deep.DeepCutAuto
namespace Go.Proofs.Ytheepgfafjinoaa
open Go.RowKit
set_option linter.unusedSimpArgs false
set_option linter.unusedVariables false

theorem Ow.past {w w' : World} {B : Nat} {e : TypeId} {A : Option Addr} {c : Nat} {xs : List Value} {g : Nat} (h : Ow w B e A c xs) (hg : w.grownBy w' (some g)) (hgB : g < B) : Ow w' B e A c xs := by
  refine h.kept hg ?_
  cases hv : Value.ownBlock (.slice A xs.length c) with
  | none => exact .inl rfl
  | some k =>
    refine .inr fun e => ?_
    injection e with e
    have := (h.block hv).1
    omega
theorem range_get (s n k : Nat) (hk : k < n) : (List.range' s n)[k]? = some (s + k) := by
  rw [List.getElem?_range' hk]; simp
theorem range_erase (s n k : Nat) (hk : k < n) : (List.range' s n).erase (s + k) = (List.range' s n).take k ++ (List.range' s n).drop (k + 1) := by
  rw [← erase_first (List.range' s n) k (s + k) (range_get s n k hk) (fun t ht => by rw [range_get s n t (by omega)]; intro e; injection e with e; omega), List.eraseIdx_eq_take_drop_succ]
theorem range_not (s n k : Nat) (hk : k < n) : s + k ∉ (List.range' s n).erase (s + k) := by
  intro h
  exact (List.Nodup.not_mem_erase List.nodup_range') h
theorem putE_ok {L : List Nat} {rm mo tx : Nat} (h1 : mo < tx) (h2 : L.length < rm) : putE L rm mo tx = 0 := by
  unfold putE; rw [if_neg (by omega), if_neg (by omega)]
theorem putQ_ok {L : List Nat} {rm mo tx : Nat} (h1 : mo < tx) (h2 : L.length < rm) : putQ L rm mo tx = L ++ [tx] := by
  unfold putQ; rw [if_pos (putE_ok h1 h2)]
theorem putM_ok {L : List Nat} {rm mo tx : Nat} (h1 : mo < tx) (h2 : L.length < rm) : putM L rm mo tx = tx := by
  unfold putM; rw [if_pos (putE_ok h1 h2)]
theorem putE_full {L : List Nat} {rm mo tx : Nat} (h1 : mo < tx) (h2 : L.length = rm) : putE L rm mo tx = 5 := by
  unfold putE; rw [if_neg (by omega), if_pos h2]
theorem putQ_full {L : List Nat} {rm mo tx : Nat} (h1 : mo < tx) (h2 : L.length = rm) : putQ L rm mo tx = L := by
  unfold putQ; rw [if_neg (by rw [putE_full h1 h2]; decide)]
theorem putM_full {L : List Nat} {rm mo tx : Nat} (h1 : mo < tx) (h2 : L.length = rm) : putM L rm mo tx = mo := by
  unfold putM; rw [if_neg (by rw [putE_full h1 h2]; decide)]

theorem ne_loc {A : Option Addr} {o p : Option Nat} {x : Nat} (h : A.map (·.block) = o ∨ A.map (·.block) = p) (h1 : some x ≠ o) (h2 : some x ≠ p) (n c : Nat) : some x ≠ Value.ownBlock (.slice A n c) := by
  have ob : Value.ownBlock (.slice A n c) = A.map (·.block) := by cases A <;> rfl
  rw [ob]
  rcases h with h | h
  · rw [h]; exact h1
  · rw [h]; exact h2
theorem bpast {w W w' : World} {x n c : Nat} (hb : Below w.heap.size w W) (h : W.grownBy w' (Value.ownBlock (.slice (some ⟨x, 0, none⟩) n c))) (hx : w.heap.size ≤ x) : Below w.heap.size w w' :=
  hb.grown h hb.size (fun k e => by
    simp only [Value.ownBlock, Option.some.injEq] at e
    omega)
theorem b79 (w w' : World) (o : Obj) (n c : Nat) (h : (w.drew.alloc o).grownBy w' (Value.ownBlock (.slice (some ⟨w.heap.size, 0, none⟩) n c))) : Below w.heap.size w w' :=
  (((Below.refl w.heap.size w).drew).alloc (Nat.le_refl _) o).grown h (by simp) (fun k e => by
    simp only [Value.ownBlock, Option.some.injEq] at e
    omega)

set_option maxRecDepth 100000 in
set_option maxHeartbeats 4000000 in
theorem QueueRoom_walk (a b d : Nat) (w : World) (ha : a < 256) (hb : b < 256) (hd : d < 256) :
    Calls Try.prog 13 #[.int .u8 a, .int .u8 b, .int .u8 d] w fun e w' => e = .returned (.bool true) ∧ Below w.heap.size w w' := by
  obtain ⟨M, hM⟩ : ∃ M, M = 1 + a % 32 := ⟨_, rfl⟩
  obtain ⟨N, hN⟩ : ∃ N, N = b % 201 := ⟨_, rfl⟩
  obtain ⟨k, hk⟩ : ∃ k, k = d % M := ⟨_, rfl⟩
  have hM1 : 1 ≤ M := by omega
  have hM2 : M ≤ 32 := by omega
  have hN2 : N ≤ 200 := by omega
  have hkM : k < M := by rw [hk]; exact Nat.mod_lt _ (by omega)
  have e1 : (1 : Int) + (a : Int) % 32 = (M : Int) := by omega
  have e2 : (b : Int) % 201 = (N : Int) := by omega
  have e3 : (d : Int) % (M : Int) = (k : Int) := by rw [hk]; simp
  have e4 : (d : Int).tmod (M : Int) = (k : Int) := by rw [Int.tmod_eq_emod_of_nonneg (by omega)]; exact e3
  obtain ⟨g, hg⟩ : ∃ g, w.heap.size = g := ⟨_, rfl⟩
  have hgB : w.heap.size ≤ g := by omega
  have HG := Lib.hid hg
  clear hM hN hk hg
  go_enter Try.func13, Try.ntmps13
  go_wp2_with fail
  refine (qv_New M w hM1 hM2).mono ?_
  rintro e w0 ⟨rfl, q0, hb0⟩
  rw [HG.out] at q0 ⊢
  go_wp2_with fail
  have HE3 := Lib.hid e3
  have HE4 := Lib.hid e4
  clear e1 e2 e3 e4
  go_loopw [10, 30] (fun t i wr => ∃ j : Nat, j ≤ N ∧ i = .int .i64 j ∧ t = .int .u32 j ∧ QV wr g [] M j ∧ Below w.heap.size w wr) (fun _ i _ => N - (intOf i).toNat)
  case atStart => exact ⟨0, by omega, rfl, rfl, q0, hb0⟩
  case round =>
    obtain ⟨j, hj, rfl, rfl, qr, hbr⟩ := hrel
    clear q0 hb0
    by_cases hlt : j < N
    · go_wp2_with fail
      rw [show ((j : Int) + 1) = ((j + 1 : Nat) : Int) from rfl]
      refine (qv_Put g [] M j (j + 1) _ qr).mono ?_
      rintro e w1 ⟨rfl, q1, g1⟩
      rw [putE_ok (by omega) (by simp only [List.length_nil]; omega)]
      rw [putQ_ok (by omega) (by simp only [List.length_nil]; omega), putM_ok (by omega) (by simp only [List.length_nil]; omega)] at q1
      have hb1 := bgrow hbr g1 hgB
      clear g1 hbr qr
      go_wp2_with fail
      rw [show ((j : Int) + 1) = ((j + 1 : Nat) : Int) from rfl]
      refine (qv_Drop g _ M (j + 1) (j + 1) _ q1).mono ?_
      rintro e w2 ⟨rfl, q2, g2⟩
      rw [show decide (j + 1 ∈ ([] ++ [j + 1] : List Nat)) = true from by simp]
      rw [show ([] ++ [j + 1] : List Nat).erase (j + 1) = [] from by simp] at q2
      have hb2 := bgrow hb1 g2 hgB
      clear g2 hb1 q1
      go_wp2_with fail
      refine (qv_Len g [] M (j + 1) _ q2).mono ?_
      rintro e w3 ⟨rfl, rfl⟩
      go_wp2_with fail
      go_roundw
      case rel => exact ⟨j + 1, by omega, by go_num, by go_num, q2, hb2⟩
      case measure => simp [intOf]; omega
    · obtain rfl : j = N := by omega
      go_wp2_with fail
      go_loopw [10, 51] (fun t i wr => ∃ n : Nat, n ≤ M ∧ i = .int .i64 n ∧ t = .int .u32 ((j + n : Nat) : Int) ∧ QV wr g (List.range' (j + 1) n) M (j + n) ∧ Below w.heap.size w wr) (fun _ i _ => M - (intOf i).toNat)
      case atStart => exact ⟨0, by omega, rfl, rfl, qr, hbr⟩
      case round =>
        obtain ⟨n, hn, rfl, rfl, qq, hbq⟩ := hrel
        clear qr hbr
        by_cases hltn : n < M
        · go_wp2_with fail
          rw [show ((j : Int) + (n : Int) + 1) = ((j + n + 1 : Nat) : Int) from by simp]
          refine (qv_Put g _ M (j + n) (j + n + 1) _ qq).mono ?_
          rintro e w1 ⟨rfl, q1, g1⟩
          rw [putE_ok (by omega) (by rw [List.length_range']; exact hltn)]
          rw [putQ_ok (by omega) (by rw [List.length_range']; exact hltn), putM_ok (by omega) (by rw [List.length_range']; exact hltn), show j + n + 1 = j + 1 + n by omega, show List.range' (j + 1) n ++ [j + 1 + n] = List.range' (j + 1) (n + 1) from by rw [List.range'_concat]; simp] at q1
          have hb1 := bgrow hbq g1 hgB
          clear g1 hbq qq
          go_wp2_with fail
          go_roundw
          case rel => exact ⟨n + 1, by omega, by go_num, by simp; omega, by rw [show j + (n + 1) = j + 1 + n by omega]; exact q1, hb1⟩
          case measure => simp [intOf]; omega
        · obtain rfl : n = M := by omega
          clear hltn hlt
          obtain ⟨L, hL⟩ : ∃ L, L = List.range' (j + 1) n := ⟨_, rfl⟩
          obtain ⟨T, hT⟩ : ∃ T, T = j + n := ⟨_, rfl⟩
          have HLl : Hid (L.length = n) := by (show _ = _); rw [hL, List.length_range']
          have HLk : Hid (L[k]? = some (j + 1 + k)) := by (show _ = _); rw [hL, range_get _ _ _ hkM]
          have HLe : Hid (L.erase (j + 1 + k) = L.take k ++ L.drop (k + 1)) := by (show _ = _); rw [hL, range_erase _ _ _ hkM]
          have HLm : Hid (j + 1 + k ∈ L) := by (show _ ∈ _); exact List.mem_of_getElem? HLk.out
          have HLn : Hid (j + 1 + k ∉ L.erase (j + 1 + k)) := by (show _ ∉ _); rw [hL]; exact range_not _ _ _ hkM
          have hT2 : T ≤ 300 := by omega
          rw [← hL, ← hT] at qq
          rw [← hT]
          obtain ⟨x, hx⟩ : ∃ x, x = j + 1 + k := ⟨_, rfl⟩
          rw [← hx] at HLk HLe HLm HLn
          clear hL hT hx
          go_wp2_with fail
          refine (qv_List g L n T _ qq).mono ?_
          rintro e w1 ⟨A1, c1, rfl, ho1, hl1⟩
          have hg1 := qq.lt
          have q1 := qq.below hl1 qq.lt
          have hb1 := bthen hbq hl1
          rw [HLl.out]
          clear hl1 hbq
          obtain ⟨B1, hB1⟩ : ∃ B1, wr.heap.size = B1 := ⟨_, rfl⟩
          rw [hB1] at ho1 hg1
          clear qq hB1
          go_wp2_with fail
          rw [show ((T : Int) + 1) = ((T + 1 : Nat) : Int) from rfl]
          refine (qv_Put g L n T (T + 1) _ q1).mono ?_
          rintro e w2 ⟨rfl, q2, g2⟩
          rw [putE_full (by omega) HLl.out]
          rw [putQ_full (by omega) HLl.out, putM_full (by omega) HLl.out] at q2
          have hb2 := bgrow hb1 g2 hgB
          replace ho1 := ho1.past g2 hg1
          clear g2 hb1 q1
          go_wp2_with fail
          refine (qv_List g L n T _ q2).mono ?_
          rintro e w3 ⟨A3, c3, rfl, ho3, hl3⟩
          have q3 := q2.below hl3 q2.lt
          have hb3 := bthen hb2 hl3
          replace ho1 := ho1.below hl3
          rw [HLl.out]
          clear hl3 hb2 q2
          go_wp2_with fail
          refine (l26_same A3 A1 n c3 n c1 L L _ ho3.rd ho1.rd HLl.out HLl.out (by omega) (by omega)).mono ?_
          rintro e w4 ⟨rfl, nd, rfl⟩
          rw [sameB_self]
          have q4 := q3.drewN nd
          have hb4 := below_drewN hb3 nd
          have ho4 := ho1.drewN nd
          generalize w3.drewN nd = w4 at q4 hb4 ho4 ⊢
          clear q3 hb3 ho3 ho1
          obtain ⟨g1, rfl, -, -, -, -⟩ := ho4.head (by rw [ds_length, HLl.out]; omega)
          have cell : Hid (∀ W : World, Ow W B1 57 (some ⟨g1, 0, none⟩) c1 (ds L) → W.cell? ⟨g1, k, none⟩ = some (.int .u32 (x : Int))) := by
            (show ∀ _ : World, _ → _)
            intro W hW
            obtain ⟨b, off, y, hA, hy, hc⟩ := hW.rd.dword (k := k) (by rw [HLl.out]; exact hkM)
            injection hA with hA
            injection hA with h1 h2
            subst h1 h2
            rw [HLk.out] at hy
            injection hy with hy
            rw [hy]
            simpa using hc
          have c4 := cell.out _ ho4
          have e3 := HE3.out
          have e4 := HE4.out
          have k0 : (0 : Int) ≤ (k : Int) := by omega
          have k1 : (k : Int) < (n : Int) := by omega
          have nn : ((n : Int) != (n : Int)) = false := by simp
          go_wp2_with fail
          refine (qv_Drop g L n T x _ q4).mono ?_
          rintro e w5 ⟨rfl, q5, g5⟩
          rw [show decide (x ∈ L) = true from by simpa using HLm.out]
          have hb5 := bgrow hb4 g5 hgB
          have ho5 := ho4.past g5 hg1
          have c5 := cell.out _ ho5
          clear g5 hb4 q4 ho4 c4
          go_wp2_with fail
          refine (qv_Drop g (L.erase x) n T x _ q5).mono ?_
          rintro e w6 ⟨rfl, q6, g6⟩
          rw [show decide (x ∈ L.erase x) = false from by simpa using HLn.out]
          rw [List.erase_of_not_mem HLn.out] at q6
          have hb6 := bgrow hb5 g6 hgB
          have ho6 := ho5.past g6 hg1
          clear g6 hb5 q5 ho5 c5
          have HLl2 : Hid ((L.erase x).length + 1 = n) := by
            (show _ = _)
            have := List.length_erase_of_mem HLm.out
            have := HLl.out
            omega
          go_wp2_with fail
          rw [show ((T : Int) + 1) = ((T + 1 : Nat) : Int) from rfl]
          refine (qv_Put g (L.erase x) n T (T + 1) _ q6).mono ?_
          rintro e w7 ⟨rfl, q7, g7⟩
          rw [putE_ok (by omega) (by have := HLl2.out; omega)]
          rw [putQ_ok (by omega) (by have := HLl2.out; omega), putM_ok (by omega) (by have := HLl2.out; omega), HLe.out] at q7
          have hb7 := bgrow hb6 g7 hgB
          have ho7 := ho6.past g7 hg1
          clear g7 hb6 q6 ho6
          obtain ⟨A8, hs8, r8⟩ := slice_from_d ho7.rd HLl.out (by have := ho7.le.1; rw [ds_length, HLl.out] at this; exact this) (k + 1) hkM
          have kc : (k : Int) ≤ (c1 : Int) := by have := ho7.le.1; rw [ds_length, HLl.out] at this; omega
          clear e3 e4
          go_upto_region 24 with fail
          have i1 : IntKind.i64.wrap ((k : Int) + 1) = (k : Int) + 1 := IntWalk.i64_in _ (by omega)
          have i2 : IntKind.u32.wrap ((T : Int) + 1) = (T : Int) + 1 := by rw [IntKind.wrap_u32]; omega
          have hs9 : ∀ W, (Instr.slice 56 (.slice (some ⟨g1, 0, none⟩) n c1) (some (.int .i64 ((k : Int) + 1))) none none).run Try.prog W = .ok (.slice A8 (n - (k + 1)) (c1 - (k + 1))) W := hs8
          clear hs8
          have r1 : Rd w7 (some ⟨g1, 0, none⟩) (ds (L.take k)) := by rw [ds_take]; exact ho7.rd.take k
          have HTk : Hid ((L.take k).length = k) := by (show _ = _); rw [List.length_take, HLl.out]; omega
          have HDk : Hid ((L.drop (k + 1)).length = n - (k + 1)) := by (show _ = _); rw [List.length_drop, HLl.out]
          have HT1 : Hid (ds [T + 1] = [.int .u32 ((T : Int) + 1)]) := rfl
          have bv1 := ((Below.refl w7.heap.size w7).drew).alloc (Nat.le_refl _) (.cells #[] 57)
          have bv2 := bv1.alloc bv1.size (.cells #[.int .u32 ((T : Int) + 1)] 57)
          have bv0 := ((Below.refl w7.heap.size w7).drew).alloc (Nat.le_refl _) (.cells #[.int .u32 ((T : Int) + 1)] 57)
          have bv3 := bv0.alloc bv0.size (.cells #[] 57)
          have ow3 : Ow ((w7.alloc (.cells #[.int .u32 ((T : Int) + 1)] 57)).alloc (.cells #[] 57)).drew w7.heap.size 57 (some ⟨w7.heap.size + 1, 0, none⟩) 0 (ds []) := by
            have := Ow.lit (w7.drew.alloc (.cells #[.int .u32 ((T : Int) + 1)] 57)) w7.heap.size 57 [] (xs := ds []) (c := 0) bv0.size (Nat.zero_le _) rfl rfl
            rw [show (w7.drew.alloc (.cells #[.int .u32 ((T : Int) + 1)] 57)).heap.size = w7.heap.size + 1 from by simp] at this
            exact this
          go_cut [13] (fun v wc => ∃ A c, v = .slice A n c ∧ Ow wc w7.heap.size 57 A c (ds (L.take k ++ L.drop (k + 1) ++ [T + 1])) ∧ Below w7.heap.size w7 wc)
          case first =>
            go_region_held3 (fun w' => Below w7.heap.size w7 w') (first | exact (Below.refl w7.heap.size w7).drew | exact bv1 | exact bv2 | exact bv0 | exact bv3 | exact hb11 | exact hb10.alloc hb10.size _ | exact hb10 | exact hb9 | exact hb9.alloc hb9.size _)
              (first
                | (refine sapp_d rfl _ _ rfl w7 hb10 _ _ _ (L.take k ++ L.drop (k + 1)) rfl ho10 ?_ _ 1 1 [T + 1] rfl rX rfl (by omega) ?_; (rw [List.length_append, HTk.out, HDk.out]; try omega); intro A11 c11 w11 ho11 hb11 hg11)
                | (refine sapp_d rfl _ _ rfl w7 (hb10.alloc hb10.size _) _ _ _ (L.take k ++ L.drop (k + 1)) rfl (ho10.alloc _) ?_ _ 1 1 [T + 1] rfl (Rd.lit _ _ _ HT1.out) rfl (by omega) ?_; (rw [List.length_append, HTk.out, HDk.out]; try omega); intro A11 c11 w11 ho11 hb11 hg11)
                | (refine sapp_d rfl _ _ rfl w7 hb9 _ _ _ (L.take k) rfl ho9 ?_ _ (n - (k + 1)) _ (L.drop (k + 1)) rfl (r8.below hb9) HDk.out (by omega) ?_; (rw [HTk.out]; try omega); intro A10 c10 w10 ho10 hb10 hg10; try have rX := rX9.other hg10 (nX9 _ _))
                | (refine sapp_d rfl _ _ rfl w7 (hb9.alloc hb9.size _) _ _ _ (L.take k) rfl (ho9.alloc _) ?_ _ (n - (k + 1)) _ (L.drop (k + 1)) rfl ((r8.below hb9).alloc _) HDk.out (by omega) ?_; (rw [HTk.out]; try omega); intro A10 c10 w10 ho10 hb10 hg10; have rX := (Rd.lit w9 _ _ HT1.out).other hg10 (ho9.notnew _))
                | (refine sappL_d rfl _ _ rfl w7 bv1 _ _ _ [] rfl (Ow.lit _ _ _ [] (Nat.le_refl _) (Nat.zero_le _) rfl rfl) rfl _ k _ (L.take k) rfl (r1.drew.alloc _) HTk.out (by omega) ?_; intro A9 c9 w9 ho9 hb9 hg9 hl9)
                | (refine sappL_d rfl _ _ rfl w7 bv2 _ _ _ [] rfl ((Ow.lit _ _ _ [] (Nat.le_refl _) (Nat.zero_le _) rfl rfl).alloc _) rfl _ k _ (L.take k) rfl ((r1.drew.alloc _).alloc _) HTk.out (by omega) ?_; intro A9 c9 w9 ho9 hb9 hg9 hl9; have rX9 : Rd w9 (some ⟨w7.heap.size + 1, 0, none⟩) (ds [T + 1]) := (by have := (Rd.lit (w7.drew.alloc (.cells #[] 57)) _ _ HT1.out).other hg9 (by simp [Value.ownBlock]); rw [show (w7.drew.alloc (.cells #[] 57)).heap.size = w7.heap.size + 1 from by simp] at this; exact this); have nX9 := ne_loc (x := w7.heap.size + 1) hl9 (by simp) (by simp))
                | (refine sappL_d rfl _ _ rfl w7 bv3 _ _ _ [] rfl ow3 rfl _ k _ (L.take k) rfl ((r1.drew.alloc _).alloc _) HTk.out (by omega) ?_; intro A9 c9 w9 ho9 hb9 hg9 hl9; have rX9 : Rd w9 (some ⟨w7.heap.size, 0, none⟩) (ds [T + 1]) := ((Rd.lit w7.drew _ _ HT1.out).alloc (.cells #[] 57)).other hg9 (by simp [Value.ownBlock]); have nX9 := ne_loc (x := w7.heap.size) hl9 (by simp) (by simp; omega)))
            all_goals
              go_wp2_with fail
              rw [show k + (n - (k + 1)) + 1 = n by omega]
              go_meet
              exact ⟨_, _, rfl, ho11, hb11⟩
          case rest =>
            obtain ⟨A13, c13, rfl, ho13, hb13⟩ := hcut
            clear i1 i2 hs9 bv0 bv1 bv2 bv3 ow3 r1 r8
            have q13 := q7.below hb13 q7.lt
            have hgl : g < w7.heap.size := q7.lt
            replace hb13 := bthen hb7 hb13
            obtain ⟨L2, hL2⟩ : ∃ L2, L2 = L.take k ++ L.drop (k + 1) ++ [T + 1] := ⟨_, rfl⟩
            have HL2 : Hid (L2.length = n) := by
              (show _ = _)
              rw [hL2, List.length_append, List.length_append, HTk.out, HDk.out]
              simp
              omega
            rw [← hL2] at ho13 q13
            obtain ⟨B2, hB2⟩ : ∃ B2, w7.heap.size = B2 := ⟨_, rfl⟩
            rw [hB2] at ho13 hgl
            clear hL2 q7 hb7 ho7 hB2 HLl HLk HLe HLm HLn HLl2 HT1 HTk HDk cell
            go_wp2_with fail
            refine (qv_List g L2 n (T + 1) _ q13).mono ?_
            rintro e w14 ⟨A14, c14, rfl, ho14, hl14⟩
            have hlt14 := q13.lt
            have hB13 := hb13.size
            have q14 := q13.below hl14 q13.lt
            have hb14 := bthen hb13 hl14
            rw [HL2.out]
            obtain ⟨g14, rfl, hB14, -, -, -⟩ := ho14.head (by rw [ds_length, HL2.out]; omega)
            obtain ⟨B4, hB4⟩ : ∃ B4, wc.heap.size = B4 := ⟨_, rfl⟩
            have hk4 : Value.ownBlock (.slice A13 (ds L2).length c13) ≠ some g14 := by
              intro e
              have := (ho13.block e).2
              omega
            have HK4 := Lib.hid hk4
            clear hk4
            replace ho13 := ho13.below hl14
            rw [hB4] at ho14 hlt14 hB14 hB13
            clear hl14 hb13 q13 hB4
            go_wp2_with fail
            go_loopw [124] (fun i wr => ∃ m : Nat, m ≤ n ∧ i = .int .i64 m ∧ QV wr g L2 n (T + 1) ∧ Below w.heap.size w wr ∧ Ow wr B2 57 A13 c13 (ds L2) ∧ ∃ L3 : List Nat, L3.length = n ∧ Ow wr B4 57 (some ⟨g14, 0, none⟩) c14 (ds L3)) (fun i _ => n - (intOf i).toNat)
            case atStart => exact ⟨0, by omega, rfl, q14, hb14, ho13, L2, HL2.out, ho14⟩
            case round =>
              obtain ⟨m, hm, rfl, qr, hbr, hor, L3, hL3, hor3⟩ := hrel
              have HL3 := Lib.hid hL3
              clear q14 hb14 ho13 ho14 hL3
              by_cases hltm : m < n
              · obtain ⟨⟨u, hu, cu⟩, fu, hgB4, hgl4⟩ := hor3.at_ (j := m) (by rw [ds_length, HL3.out]; exact hltm)
                obtain ⟨y, rfl⟩ : ∃ y : Nat, u = .int .u32 (y : Int) := by
                  simp only [ds, List.getElem?_map, Option.map_eq_some_iff] at hu
                  obtain ⟨y, _, hy⟩ := hu
                  exact ⟨y, hy.symm⟩
                obtain ⟨z, hz⟩ : ∃ z : Nat, IntKind.u32.wrap ((y : Int) + 1) = (z : Int) := ⟨(y + 1) % 4294967296, by rw [IntKind.wrap_u32]; simp⟩
                have hz2 : ((y : Int) + 1) % 4294967296 = (z : Int) := by rw [← IntKind.wrap_u32]; exact hz
                clear hu
                go_wp2_with fail
                go_roundw
                case rel => exact ⟨m + 1, by omega, by go_num, qr.grown (grown_set (grown_refl wr _) m _) (by intro e; injection e with e; omega), hbr.setCell (p := ⟨g14, m, none⟩) (show w.heap.size ≤ g14 from by omega) _, hor.kept (grown_set (grown_refl wr _) m _) (.inr HK4.out), L3.set m z, by rw [List.length_set, HL3.out], by have := hor3.stored m (.int .u32 (z : Int)); rw [ds_set] at this; exact this⟩
                case measure => simp [intOf]; omega
              · go_wp2_with fail
                refine (qv_List g L2 n (T + 1) _ qr).mono ?_
                rintro e w15 ⟨A15, c15, rfl, ho15, hl15⟩
                have hb15 := bthen hbr hl15
                replace hor := hor.below hl15
                rw [HL2.out]
                go_wp2_with fail
                refine (l26_same A15 A13 n c15 n c13 L2 L2 _ ho15.rd hor.rd HL2.out HL2.out (by omega) (by omega)).mono ?_
                rintro e w16 ⟨rfl, nd, rfl⟩
                rw [sameB_self]
                go_wp2_with fail
                refine (queue_awake _).mono ?_
                rintro e w17 ⟨rfl, hb17⟩
                go_wp2_with fail
                go_ret
                exact ⟨rfl, bthen (below_drewN hb15 nd) hb17⟩
end Go.Proofs.Ytheepgfafjinoaa
