/- Copying to a place of a row of the call's own; the walks of table.read and table.write (written by gen_mdf.py). -/
import Derived.Test.YtechhidfgheejaaMdD
namespace Go.Proofs.Ytechhidfgheejaa
open Go.RowKit
set_option linter.unusedSimpArgs false
set_option linter.unusedVariables false

theorem grown_trans {a b c : World} {row : Option Nat} (h : a.grownBy b row) (k : b.grownBy c row) : a.grownBy c row :=
  ⟨k.os.trans h.os, k.tape.trans h.tape, k.output.trans h.output, Nat.le_trans h.size k.size, fun i hi hne => (k.block i (Nat.lt_of_lt_of_le hi h.size) hne).trans (h.block i hi hne)⟩
theorem putAt_take {α : Type} (cur : List α) (N t : Nat) (news : List α) (h : t + news.length ≤ N) (hN : N ≤ cur.length) : (cur.take t ++ (news ++ cur.drop (t + news.length))).take N = putAt (cur.take N) t news := by
  have hl : (cur.take t ++ news).length = t + news.length := by simp only [List.length_append, List.length_take]; omega
  unfold putAt
  rw [← List.append_assoc, List.take_append, List.take_of_length_le (by omega), hl, List.take_take, Nat.min_eq_left (by omega), List.drop_take]
section
variable {P : Program} {w : World} {ops : Array Oper} {rest : List Oper} {o : Oper} {a : Act} {Q : Exit → Act → World → Prop}
/-- copy to a place of a row of the call's own, where all of it fits -/
theorem wpList_cpyAt (hgd : o.guard = none) (d s : Operand) (dT sT : TypeId)
    (ho : o.op = .call { callee := .builtin .copy, args := #[d, s], argTypes := #[dT, sT] }) (e : TypeId) (hu : P.underlying dT = some (.slice e)) (hsz : (P.info? e).map (·.size) = some 1)
    (B : Nat) (g c : Nat) (xs : List Value) (hown : Ow w B e (some ⟨g, 0, none⟩) c xs) (t k kc : Nat) (hd : a.eval d = .slice (some ⟨g, t, none⟩) k kc)
    (A2 : Option Addr) (m c2 : Nat) (news : List Value) (hs : a.eval s = .slice A2 m c2) (hr : Rd w A2 news) (hm : news.length = m) (h1 : ∀ u ∈ news, u.oneCell' = true) (hm0 : 0 < m) (hmk : m ≤ k) (hfit : t + m ≤ xs.length)
    (h : ∀ w', Ow w' B e (some ⟨g, 0, none⟩) c (putAt xs t news) → w.grownBy w' (some g) → wpList P ops Q rest (a.put o.dst (goInt (m : Int))) w') :
    wpList P ops Q (o :: rest) a w := by
  subst hm
  rcases hown.2 with ⟨hv, _⟩ | ⟨g', cap, cur, hv, hBg, hh, hnc, hcm, hcs, ht⟩
  · cases hv
  · injection hv with hv1 hv2 hv3
    injection hv1 with hv1
    injection hv1 with hv1
    subst hv1 hv3
    rcases hr with hr | ⟨b, off, rfl, hc⟩
    · rw [hr] at hm0; simp at hm0
    · simp only [Nat.mul_one] at hcs ht
      have hcl : cur.toList.length = c := by simpa using hcs
      refine wpList_copy_own hgd d s dT sT ho e hu hsz g t k kc ⟨b, off, none⟩ news.length c2 hd hs cur e hh news (Nat.min_eq_left hmk).symm ?_ (by rw [hcs]; omega) h1 ?_
      · intro j u hu'
        have hadd : (⟨b, off, none⟩ : Addr).add j = ⟨b, off + j, none⟩ := by unfold Addr.add; split <;> simp_all
        rw [hadd]
        exact hc j u hu'
      · refine h _ ?_ ⟨rfl, rfl, rfl, by simp, fun k _ hk => setRow_other w g k _ (fun e => hk (by simp [e]))⟩
        have hlen : (putAt xs t news).length = xs.length := by unfold putAt; simp only [List.length_append, List.length_take, List.length_drop]; omega
        unfold Ow
        rw [hlen]
        refine ⟨by rw [hlen, Nat.mul_one], .inr ⟨g, c, _, rfl, hBg, setRow_heap w g cur _ e _ hh, hnc, hcm, ?_, ?_⟩⟩
        · simp only [List.size_toArray, List.length_append, List.length_take, List.length_drop, hcl]
          omega
        · rw [Nat.mul_one]
          show (cur.toList.take t ++ (news ++ cur.toList.drop (t + news.length))).take xs.length = putAt xs t news
          rw [putAt_take _ _ _ _ hfit (by rw [hcl]; exact hnc), ht]
end
theorem mid_eq {α : Type} (l : List α) (t n : Nat) : (l.take (t + n)).drop t = (l.drop t).take n := by rw [List.drop_take]; congr 1; omega
theorem mid_len {α : Type} {l : List α} {t n m : Nat} (hm : l.length = m) (h : t + n ≤ m) : ((l.take (t + n)).drop t).length = n := by simp only [List.length_drop, List.length_take]; omega
theorem slice_at_b (g n c t : Nat) (ht : t < n) (hc : n ≤ c) (W : World) : (Instr.slice 25 (.slice (some ⟨g, 0, none⟩) n c) (some (.int .i64 (t : Int))) none none).run Try.prog W = .ok (.slice (some ⟨g, t, none⟩) (n - t) (c - t)) W := by
  rw [run_slice_l W 25 (some ⟨g, 0, none⟩) n c (by kernel_rfl) .i64 t (by omega) (by omega), size_o]
  simp only [Result.andThen_ok, Int.toNat_natCast, Go.sliced]
  have : ¬ c = t := by omega
  simp [this, Addr.add]
  try exact fun h => h.symm
set_option maxRecDepth 100000 in
set_option maxHeartbeats 1000000 in
theorem md_read_b (B : Value) (A : Option Addr) (m c : Nat) (l : List Bool) (t n : Nat) (w : World) (hB : ∃ A2 n2 c2, B = .slice A2 n2 c2) (hA : Rd w A (os l)) (hm : l.length = m) (hmc : m ≤ c) (hfit : t + n ≤ m) (hbig : m ≤ 100000) :
    Calls Try.prog 93 #[.agg #[B, .slice A m c], .int .i64 (t : Int), .int .i64 (n : Int), .int .i64 8] w fun e w' => ∃ A' c', e = .returned (.slice A' (eights n) c') ∧ Ow w' w.heap.size 4 A' c' (os (bitsAt l t n)) ∧ Below w.heap.size w w' ∧ eights n ≤ c' := by
  obtain ⟨A2, n2, c2, rfl⟩ := hB
  have hb := (Below.refl _ w).alloc (Nat.le_refl _) (.cells #[.slice A2 n2 c2, .slice A m c] 96)
  have bx := Blk.new w 96 #[.slice A2 n2 c2, .slice A m c]
  obtain ⟨L, hL⟩ : ∃ L, eights n = L := ⟨_, rfl⟩
  have HL := Lib.hid hL
  have hLn : n ≤ L := by rw [← hL]; unfold eights; omega
  have hLi : ((n : Int) + 8 - 1) / 8 * 8 = (L : Int) := by rw [← hL]; unfold eights; omega
  have hLb : L ≤ 200000 := by rw [← hL]; unfold eights; omega
  obtain ⟨A3, hsl, r3⟩ := slice_mid_o (hA.below hb) hm hmc t (t + n) (by omega) (by omega)
  simp only [Int.natCast_add, Nat.add_sub_cancel_left] at hsl
  have HM := Lib.hid (mid_len hm hfit)
  have HQ := Lib.hid (mid_eq l t n)
  rw [hL]
  clear hm hL
  go_enter Try.func93, Try.ntmps93
  go_upto_region 1 with fail
  obtain ⟨g, hg⟩ : ∃ g, w.heap.size = g := ⟨_, rfl⟩
  have hgw : w.heap.size ≤ g := by omega
  rw [hg] at bx ⊢
  clear hg
  generalize w.alloc (.cells #[.slice A2 n2 c2, .slice A m c] 96) = w1 at *
  obtain ⟨d0, d1⟩ := bx.c2
  go_wp2_with (at_make; refine mkn_o rfl _ _ rfl w hb _ _ _ _ L rfl rfl (by omega) (by omega) (by omega) ?_)
  intro w2 ho2 hb2 hg2 hs2
  have bx2 := bx.grown hg2 (by simp)
  have r4 := r3.keep (fun p hp => World.cell?_of_block (hg2.block p.block hp (by simp)))
  clear d0 d1
  obtain ⟨d0, d1⟩ := bx2.c2
  go_wp2_with ((with_reducible refine cpy_o rfl _ _ rfl w hb2 _ _ _ _ rfl ho2 (by simp) _ _ _ ((l.take (t + n)).drop t) rfl r4 HM.out ?_); intro w3 ho3 hb3 hsz3 hg3)
  go_wp2_with fail
  go_ret
  refine ⟨_, _, rfl, ?_, hb3, ?_⟩
  · have e1 : (((l.take (t + n)).drop t).take L ++ (List.replicate L false).drop n) = bitsAt l t n := by
      rw [List.take_of_length_le (by rw [HM.out]; exact hLn), HQ.out, List.drop_replicate, ← HL.out]
      rfl
    rw [e1] at ho3
    exact ho3
  · exact Nat.le_refl _
set_option maxRecDepth 100000 in
set_option maxHeartbeats 1000000 in
theorem md_write_b (B : Value) (g n c : Nat) (l : List Bool) (A3 : Option Addr) (m c3 : Nat) (ns : List Bool) (t : Nat) (w : World) (D : Nat) (hB : ∃ A2 n2 c2, B = .slice A2 n2 c2) (hA : Ow w D 4 (some ⟨g, 0, none⟩) c (os l)) (hn : l.length = n) (hnc : n ≤ c) (hr : Rd w A3 (os ns)) (hm : ns.length = m) (hm0 : 0 < m) (hfit : t + m ≤ n) (hbig : n ≤ 100000) (hgw : g < w.heap.size) :
    Calls Try.prog 69 #[.agg #[B, .slice (some ⟨g, 0, none⟩) n c], .int .i64 (t : Int), .slice A3 m c3] w fun e w' => e = .returned (.tuple #[]) ∧ Ow w' D 4 (some ⟨g, 0, none⟩) c (os (putAt l t ns)) ∧ w.grownBy w' (some g) := by
  obtain ⟨A2, n2, c2, rfl⟩ := hB
  have hb := (Below.refl _ w).alloc (Nat.le_refl _) (.cells #[.slice A2 n2 c2, .slice (some ⟨g, 0, none⟩) n c] 96)
  have hg1 := World.grownBy_alloc w (.cells #[.slice A2 n2 c2, .slice (some ⟨g, 0, none⟩) n c] 96) (some g)
  have bx := Blk.new w 96 #[.slice A2 n2 c2, .slice (some ⟨g, 0, none⟩) n c]
  have hA1 := hA.alloc (.cells #[.slice A2 n2 c2, .slice (some ⟨g, 0, none⟩) n c] 96)
  have hr1 := hr.below hb
  have hsl := slice_at_b g n c t (by omega) hnc
  have HN := Lib.hid hn
  have HM := Lib.hid hm
  have hput : putAt (os l) t (os ns) = os (putAt l t ns) := by unfold putAt; simp only [os, List.map_append, List.map_take, List.map_drop, List.length_map]
  have HPUT := Lib.hid hput
  clear hn hm hput
  go_enter Try.func69, Try.ntmps69
  go_upto_region 1 with fail
  obtain ⟨g2, hg2⟩ : ∃ g, w.heap.size = g := ⟨_, rfl⟩
  rw [hg2] at bx ⊢
  clear hg2
  generalize w.alloc (.cells #[.slice A2 n2 c2, .slice (some ⟨g, 0, none⟩) n c] 96) = w1 at *
  obtain ⟨d0, d1⟩ := bx.c2
  go_wp2_with ((with_reducible refine wpList_cpyAt rfl _ _ _ _ rfl 4 Try.underlying25 (by kernel_rfl) D g c (os l) hA1 t (n - t) (c - t) rfl A3 m c3 (os ns) rfl hr1 (by rw [os_length]; exact HM.out) (one_os ns) hm0 (by omega) (by rw [os_length, HN.out]; exact hfit) ?_); intro w3 ho3 hg3)
  go_wp2_with fail
  first | go_end0 | (refine bodyPost_ret (results_none rfl _ _ _) rfl ?_)
  exact ⟨rfl, by rw [← HPUT.out]; exact ho3, grown_trans hg1 hg3⟩
theorem slice_at_w (g n c t : Nat) (ht : t < n) (hc : n ≤ c) (W : World) : (Instr.slice 26 (.slice (some ⟨g, 0, none⟩) n c) (some (.int .i64 (t : Int))) none none).run Try.prog W = .ok (.slice (some ⟨g, t, none⟩) (n - t) (c - t)) W := by
  rw [run_slice_l W 26 (some ⟨g, 0, none⟩) n c (by kernel_rfl) .i64 t (by omega) (by omega), size_w]
  simp only [Result.andThen_ok, Int.toNat_natCast, Go.sliced]
  have : ¬ c = t := by omega
  simp [this, Addr.add]
  try exact fun h => h.symm
set_option maxRecDepth 100000 in
set_option maxHeartbeats 1000000 in
theorem md_read_w (B : Value) (A : Option Addr) (m c : Nat) (l : List Nat) (t n : Nat) (w : World) (hB : ∃ A2 n2 c2, B = .slice A2 n2 c2) (hA : Rd w A (ws l)) (hm : l.length = m) (hmc : m ≤ c) (hfit : t + n ≤ m) (hbig : m ≤ 100000) :
    Calls Try.prog 94 #[.agg #[B, .slice A m c], .int .i64 (t : Int), .int .i64 (n : Int), .int .i64 1] w fun e w' => ∃ A' c', e = .returned (.slice A' (n) c') ∧ Ow w' w.heap.size 34 A' c' (ws (wordsAt l t n)) ∧ Below w.heap.size w w' ∧ n ≤ c' := by
  obtain ⟨A2, n2, c2, rfl⟩ := hB
  have hb := (Below.refl _ w).alloc (Nat.le_refl _) (.cells #[.slice A2 n2 c2, .slice A m c] 98)
  have bx := Blk.new w 98 #[.slice A2 n2 c2, .slice A m c]
  have hLn : n ≤ n := Nat.le_refl _
  obtain ⟨A3, hsl, r3⟩ := slice_mid_w (hA.below hb) hm hmc t (t + n) (by omega) (by omega)
  simp only [Int.natCast_add, Nat.add_sub_cancel_left] at hsl
  have HM := Lib.hid (mid_len hm hfit)
  have HQ := Lib.hid (mid_eq l t n)
  clear hm
  go_enter Try.func94, Try.ntmps94
  go_upto_region 1 with fail
  obtain ⟨g, hg⟩ : ∃ g, w.heap.size = g := ⟨_, rfl⟩
  have hgw : w.heap.size ≤ g := by omega
  rw [hg] at bx ⊢
  clear hg
  generalize w.alloc (.cells #[.slice A2 n2 c2, .slice A m c] 98) = w1 at *
  obtain ⟨d0, d1⟩ := bx.c2
  go_wp2_with (at_make; refine mkn_w rfl _ _ rfl w hb _ _ _ _ n rfl rfl (by simp) (by simp) (by omega) ?_)
  intro w2 ho2 hb2 hg2 hs2
  have bx2 := bx.grown hg2 (by simp)
  have r4 := r3.keep (fun p hp => World.cell?_of_block (hg2.block p.block hp (by simp)))
  clear d0 d1
  obtain ⟨d0, d1⟩ := bx2.c2
  go_wp2_with ((with_reducible refine cpy_w rfl _ _ rfl w hb2 _ _ _ _ rfl ho2 (by simp) _ _ _ ((l.take (t + n)).drop t) rfl r4 HM.out ?_); intro w3 ho3 hb3 hsz3 hg3)
  go_wp2_with fail
  go_ret
  refine ⟨_, _, rfl, ?_, hb3, ?_⟩
  · have e1 : (((l.take (t + n)).drop t).take n ++ (List.replicate n 0).drop n) = wordsAt l t n := by
      rw [List.take_of_length_le (by rw [HM.out]; exact hLn), HQ.out, List.drop_replicate]
      simp [wordsAt]
    rw [e1] at ho3
    exact ho3
  · exact Nat.le_refl _
set_option maxRecDepth 100000 in
set_option maxHeartbeats 1000000 in
theorem md_write_w (B : Value) (g n c : Nat) (l : List Nat) (A3 : Option Addr) (m c3 : Nat) (ns : List Nat) (t : Nat) (w : World) (D : Nat) (hB : ∃ A2 n2 c2, B = .slice A2 n2 c2) (hA : Ow w D 34 (some ⟨g, 0, none⟩) c (ws l)) (hn : l.length = n) (hnc : n ≤ c) (hr : Rd w A3 (ws ns)) (hm : ns.length = m) (hm0 : 0 < m) (hfit : t + m ≤ n) (hbig : n ≤ 100000) (hgw : g < w.heap.size) :
    Calls Try.prog 70 #[.agg #[B, .slice (some ⟨g, 0, none⟩) n c], .int .i64 (t : Int), .slice A3 m c3] w fun e w' => e = .returned (.tuple #[]) ∧ Ow w' D 34 (some ⟨g, 0, none⟩) c (ws (putAt l t ns)) ∧ w.grownBy w' (some g) := by
  obtain ⟨A2, n2, c2, rfl⟩ := hB
  have hb := (Below.refl _ w).alloc (Nat.le_refl _) (.cells #[.slice A2 n2 c2, .slice (some ⟨g, 0, none⟩) n c] 98)
  have hg1 := World.grownBy_alloc w (.cells #[.slice A2 n2 c2, .slice (some ⟨g, 0, none⟩) n c] 98) (some g)
  have bx := Blk.new w 98 #[.slice A2 n2 c2, .slice (some ⟨g, 0, none⟩) n c]
  have hA1 := hA.alloc (.cells #[.slice A2 n2 c2, .slice (some ⟨g, 0, none⟩) n c] 98)
  have hr1 := hr.below hb
  have hsl := slice_at_w g n c t (by omega) hnc
  have HN := Lib.hid hn
  have HM := Lib.hid hm
  have hput : putAt (ws l) t (ws ns) = ws (putAt l t ns) := by unfold putAt; simp only [ws, List.map_append, List.map_take, List.map_drop, List.length_map]
  have HPUT := Lib.hid hput
  clear hn hm hput
  go_enter Try.func70, Try.ntmps70
  go_upto_region 1 with fail
  obtain ⟨g2, hg2⟩ : ∃ g, w.heap.size = g := ⟨_, rfl⟩
  rw [hg2] at bx ⊢
  clear hg2
  generalize w.alloc (.cells #[.slice A2 n2 c2, .slice (some ⟨g, 0, none⟩) n c] 98) = w1 at *
  obtain ⟨d0, d1⟩ := bx.c2
  go_wp2_with ((with_reducible refine wpList_cpyAt rfl _ _ _ _ rfl 34 Try.underlying26 (by kernel_rfl) D g c (ws l) hA1 t (n - t) (c - t) rfl A3 m c3 (ws ns) rfl hr1 (by rw [ws_length]; exact HM.out) (one_ws ns) hm0 (by omega) (by rw [ws_length, HN.out]; exact hfit) ?_); intro w3 ho3 hg3)
  go_wp2_with fail
  first | go_end0 | (refine bodyPost_ret (results_none rfl _ _ _) rfl ?_)
  exact ⟨rfl, by rw [← HPUT.out]; exact ho3, grown_trans hg1 hg3⟩
end Go.Proofs.Ytechhidfgheejaa
