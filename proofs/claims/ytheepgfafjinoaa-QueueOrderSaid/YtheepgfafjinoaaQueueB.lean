/- The walks of the queue's Drop and List. -/
import Derived.Test.YtheepgfafjinoaaQueueA
namespace Go.Proofs.Ytheepgfafjinoaa
open Go.RowKit
set_option linter.unusedSimpArgs false
set_option linter.unusedVariables false

theorem q_place' (g h : Nat) (w : World) (c1 : w.cell? ⟨g, 33, none⟩ = some (.int .i64 (h : Int))) (i : Nat) (p : Nat) (hh : h < 32) (hi : i ≤ 64) (hp : (h + i) % 32 = p) :
    Calls Try.prog 54 #[.pointer (some ⟨g, 0, none⟩), .int .i64 (i : Int)] w fun e w' => e = .returned (.int .i64 (p : Int)) ∧ w' = w := by
  rw [← hp]
  exact (q_place g h w c1 i hh hi).mono fun e w' ⟨he, hw⟩ => ⟨he, hw.symm⟩

/-- the ring after j numbers were moved, from behind the i-th on -/
def movR (r : List Nat) (h i : Nat) : Nat → List Nat
  | 0 => r
  | j + 1 => (movR r h i j).set ((h + (i + j)) % 32) ((movR r h i j).getD ((h + (i + 1 + j)) % 32) 0)
theorem movR_length (r : List Nat) (h i j : Nat) : (movR r h i j).length = r.length := by
  induction j with
  | zero => rfl
  | succ j ih => simp [movR, ih]

theorem Qb.ringGet {w : World} {g : Nat} {r : List Nat} {h m rm mo : Nat} (q : Qb w g r h m rm mo) (p : Nat) (hp : p < 32) : r[p]? = some (r.getD p 0) ∧ w.cell? ⟨g, 1 + p, none⟩ = some (.int .u32 ((r.getD p 0 : Nat) : Int)) := by
  have hl : r.length = 32 := by obtain ⟨cs, hg, qa⟩ := q; exact qa.len
  have e : r[p]? = some (r.getD p 0) := by rw [List.getD_eq_getElem?_getD, List.getElem?_eq_getElem (by omega)]; rfl
  exact ⟨e, q.ring e⟩

set_option maxHeartbeats 2000000 in
theorem q_Drop (g : Nat) (r : List Nat) (h m rm mo tx : Nat) (w : World) (q : Qb w g r h m rm mo) (hm : m ≤ 32) (hh : h < 32) :
    Calls Try.prog 40 #[.pointer (some ⟨g, 0, none⟩), .int .u32 (tx : Int)] w fun e w' =>
      (e = .returned (.bool false) ∧ (∀ t, t < m → r.getD ((h + t) % 32) 0 ≠ tx) ∧ Qb w' g r h m rm mo ∧ w.grownBy w' (some g)) ∨
      (e = .returned (.bool true) ∧ ∃ i, i < m ∧ (∀ t, t < i → r.getD ((h + t) % 32) 0 ≠ tx) ∧ r.getD ((h + i) % 32) 0 = tx ∧
        (if i = 0 then Qb w' g r ((h + 1) % 32) (m - 1) rm mo else Qb w' g (movR r h i (m - 1 - i)) h (m - 1) rm mo) ∧ w.grownBy w' (some g)) := by
  obtain ⟨-, -, c2, -, -⟩ := q.cell
  go_enter Try.func40, Try.ntmps40
  go_wp2_with fail
  refine (q_made g r h m rm mo w q).mono ?_
  rintro e w1 ⟨rfl, rfl⟩
  go_wp2_with fail
  clear c2
  go_loopw [14] (fun i wr => ∃ k : Nat, k ≤ m ∧ i = .int .i64 k ∧ Qb wr g r h m rm mo ∧ w.grownBy wr (some g) ∧ Hid (∀ t, t < k → r.getD ((h + t) % 32) 0 ≠ tx)) (fun i _ => m - (intOf i).toNat)
  case atStart => exact ⟨0, by omega, rfl, q, grown_refl w _, fun t ht => by omega⟩
  case round =>
    obtain ⟨k, hk, rfl, qr, gr, HK⟩ := hrel
    clear q
    by_cases hlt : k < m
    · obtain ⟨p, hp⟩ : ∃ p, (h + k) % 32 = p := ⟨_, rfl⟩
      have hp1 : p < 32 := by omega
      obtain ⟨x, hx⟩ : ∃ x, r.getD p 0 = x := ⟨_, rfl⟩
      have c5 := (qr.ringGet p hp1).2
      rw [hx] at c5
      have HP := Lib.hid hp
      have HX := Lib.hid hx
      obtain ⟨-, c1, c2, -, -⟩ := qr.cell
      have p0 : (0 : Int) ≤ (p : Int) := by omega
      have p1 : (p : Int) < 32 := by omega
      clear hp hx
      by_cases hxt : x = tx
      · have b1 : ((x : Int) != (tx : Int)) = false := by simp only [bne_eq_false_iff_eq]; omega
        have HXT := Lib.hid hxt
        clear hxt
        by_cases hk0 : k = 0
        · subst hk0
          have f33 := qr.free 33
          have f34 := qr.free 34
          obtain ⟨p2, hp2⟩ : ∃ p, (h + 1) % 32 = p := ⟨_, rfl⟩
          have HP2 := Lib.hid hp2
          have hm1 : 1 ≤ m := by omega
          clear hp2
          go_wp2_with fail
          go_quiet ((go_at_call 54; exact Calls.quiet_of_same (q_place' g h _ (by exact c1) 0 p hh (by omega) HP.out)))
          go_wp2_with fail
          refine (q_place' g h _ (by exact c1) 1 p2 hh (by omega) HP2.out).mono ?_
          rintro e w2 ⟨rfl, rfl⟩
          go_wp2_with fail
          go_ret
          have q1 := (qr.drewN nq).setField 33 (.int .i64 (p2 : Int)) (by omega) p2 m rm mo (by simp) (by simp) (by simp) (by simp)
          have q2 := q1.setField 34 (.int .i64 ((m : Int) - 1)) (by omega) p2 (m - 1) rm mo (by simp) (by simp; omega) (by simp) (by simp)
          refine .inr ⟨rfl, 0, by omega, fun t ht => by omega, by rw [HP.out, HX.out, HXT.out], ?_, grown_set (grown_set (grown_drewN gr _) _ _) _ _⟩
          rw [if_pos rfl, HP2.out]
          exact q2
        · have b2 : ((k : Int) == 0) = false := by simp; omega
          go_wp2_with fail
          go_quiet ((go_at_call 54; exact Calls.quiet_of_same (q_place' g h _ (by exact c1) k p hh (by omega) HP.out)))
          go_wp2_with fail
          have qq := qr.drewN nq
          have gg := grown_drewN gr nq
          generalize wr.drewN nq = wo at qq gg ⊢
          clear qr gr c1 c2 c5
          go_loopw [6] (fun i wr => ∃ t : Nat, k ≤ t ∧ t + 1 ≤ m ∧ i = .int .i64 ((t : Int) + 1) ∧ Qb wr g (movR r h k (t - k)) h m rm mo ∧ w.grownBy wr (some g)) (fun i _ => m - (intOf i).toNat)
          case atStart => exact ⟨k, by omega, by omega, by go_num, by rw [Nat.sub_self]; exact qq, gg⟩
          case round =>
            obtain ⟨t, hkt, htm, rfl, qr, gr⟩ := hrel
            clear qq gg
            obtain ⟨-, c1, c2, -, -⟩ := qr.cell
            by_cases hlj : t + 1 < m
            · obtain ⟨a, ha⟩ : ∃ a, (h + t) % 32 = a := ⟨_, rfl⟩
              obtain ⟨b, hb⟩ : ∃ b, (h + (t + 1)) % 32 = b := ⟨_, rfl⟩
              have hab : a ≠ b := by omega
              have ha1 : a < 32 := by omega
              have hb1 : b < 32 := by omega
              obtain ⟨y, hy⟩ : ∃ y, (movR r h k (t - k)).getD b 0 = y := ⟨_, rfl⟩
              have c6 := (qr.ringGet b hb1).2
              have c7 := (qr.ringGet a ha1).2
              obtain ⟨z, hz⟩ : ∃ z, (movR r h k (t - k)).getD a 0 = z := ⟨_, rfl⟩
              rw [hz] at c7
              rw [hy] at c6
              have f7 := qr.free (1 + a)
              have HA : Hid (∀ W : World, W.cell? ⟨g, 33, none⟩ = some (.int .i64 (h : Int)) → Calls Try.prog 54 #[.pointer (some ⟨g, 0, none⟩), .int .i64 (t : Int)] W fun e w' => e = .returned (.int .i64 (a : Int)) ∧ w' = W) :=
                fun W hW => q_place' g h W hW t a hh (by omega) ha
              have HB : Hid (∀ W : World, W.cell? ⟨g, 33, none⟩ = some (.int .i64 (h : Int)) → Calls Try.prog 54 #[.pointer (some ⟨g, 0, none⟩), .int .i64 ((t : Int) + 1)] W fun e w' => e = .returned (.int .i64 (b : Int)) ∧ w' = W) :=
                fun W hW => q_place' g h W hW (t + 1) b hh (by omega) hb
              have HM : Hid ((movR r h k (t - k)).set a y = movR r h k (t + 1 - k)) := by
                (show _ = _)
                rw [show t + 1 - k = (t - k) + 1 by omega]
                simp only [movR]
                rw [show k + (t - k) = t by omega, show k + 1 + (t - k) = t + 1 by omega, ha, hb, hy]
              have K1 : Hid (∀ (W : World) (v : Value), W.cell? ⟨g, 33, none⟩ = some (.int .i64 (h : Int)) → (W.setCell ⟨g, 1 + a, none⟩ v).cell? ⟨g, 33, none⟩ = some (.int .i64 (h : Int))) :=
                fun W v hW => (World.cell?_setCell_other W _ _ v (by intro e; injection e with e1 e2; omega)).trans hW
              have K2 : Hid (∀ (W : World) (v : Value), W.cell? ⟨g, 1 + b, none⟩ = some (.int .u32 (y : Int)) → (W.setCell ⟨g, 1 + a, none⟩ v).cell? ⟨g, 1 + b, none⟩ = some (.int .u32 (y : Int))) :=
                fun W v hW => (World.cell?_setCell_other W _ _ v (by intro e; injection e with e1 e2; omega)).trans hW
              clear ha hb hy hz hab
              have a0 : (0 : Int) ≤ (a : Int) := by omega
              have a1 : (a : Int) < 32 := by omega
              have b0 : (0 : Int) ≤ (b : Int) := by omega
              have b3 : (b : Int) < 32 := by omega
              go_wp2_with fail
              have e3 : IntKind.i64.wrap ((t : Int) + 1 - 1) = (t : Int) := by rw [show (t : Int) + 1 - 1 = (t : Int) by omega]; exact IntWalk.i64_in _ (by omega)
              have e4 : IntKind.i64.wrap (t : Int) = (t : Int) := IntWalk.i64_in _ (by omega)
              go_region_held3 (fun w' => w'.cell? ⟨g, 33, none⟩ = some (.int .i64 (h : Int)) ∧ w'.cell? ⟨g, 1 + b, none⟩ = some (.int .u32 (y : Int))) (first | exact ⟨c1, c6⟩ | exact ⟨K1.out _ _ c1, K2.out _ _ c6⟩)
                (first | (go_at_call 54; ((with_reducible refine (HA.out _ ?_).mono ?_); (exact c1); rintro e w1 ⟨rfl, rfl⟩)) | (go_at_call 54; ((with_reducible refine (HB.out _ ?_).mono ?_); (exact c1); rintro e w1 ⟨rfl, rfl⟩)))
              clear e3 e4
              go_wp2_with fail
              go_roundw
              case rel => exact ⟨t + 1, by omega, by omega, by go_num, by have := (qr.drew).setRing a y ha1; rw [HM.out] at this; exact this, grown_drew (grown_set gr _ _)⟩
              case measure => simp [intOf]; omega
            · have hend : t + 1 = m := by omega
              have f34 := qr.free 34
              go_wp2_with fail
              go_ret
              have q2 := qr.setField 34 (.int .i64 ((m : Int) - 1)) (by omega) h (m - 1) rm mo (by simp) (by simp; omega) (by simp) (by simp)
              refine .inr ⟨rfl, k, hlt, HK.out, by rw [HP.out, HX.out, HXT.out], ?_, grown_set gr _ _⟩
              rw [if_neg hk0, show m - 1 - k = t - k by omega]
              exact q2
      · have b1 : ((x : Int) != (tx : Int)) = true := by simp only [bne_iff_ne]; omega
        go_wp2_with fail
        go_quiet ((go_at_call 54; exact Calls.quiet_of_same (q_place' g h _ (by exact c1) k p hh (by omega) HP.out)))
        go_wp2_with fail
        go_roundw
        case rel => exact ⟨k + 1, by omega, by go_num, qr.drewN _, grown_drewN gr _, by
          (show ∀ t, t < k + 1 → _)
          intro t ht
          by_cases e : t = k
          · subst e; rw [HP.out, HX.out]; exact hxt
          · exact HK.out t (by omega)⟩
        case measure => simp [intOf]; omega
    · obtain rfl : k = m := by omega
      go_wp2_with fail
      go_ret
      exact .inl ⟨rfl, HK.out, qr, gr⟩

/-- who waits, in order -/
def view (r : List Nat) (h m : Nat) : List Nat := (List.range m).map fun i => r.getD ((h + i) % 32) 0
theorem view_length (r : List Nat) (h m : Nat) : (view r h m).length = m := by simp [view]
theorem view_snoc (r : List Nat) (h m : Nat) : view r h (m + 1) = view r h m ++ [r.getD ((h + m) % 32) 0] := by simp [view, List.range_succ]

set_option maxHeartbeats 400000 in
theorem q_List_none (g : Nat) (r : List Nat) (h rm mo : Nat) (w : World) (q : Qb w g r h 0 rm mo) :
    Calls Try.prog 45 #[.pointer (some ⟨g, 0, none⟩)] w fun e w' => e = .returned (.slice none 0 0) ∧ w = w' := by
  obtain ⟨-, -, c2, -, -⟩ := q.cell
  go_enter Try.func45, Try.ntmps45
  go_wp2_with fail
  refine (q_made g r h 0 rm mo w q).mono ?_
  rintro e w1 ⟨rfl, rfl⟩
  go_wp2_with fail
  go_ret
  exact ⟨rfl, rfl⟩

set_option maxHeartbeats 1000000 in
theorem q_List_some (g : Nat) (r : List Nat) (h m rm mo : Nat) (w : World) (q : Qb w g r h m rm mo) (hm : m ≤ 32) (hm0 : 0 < m) (hh : h < 32) :
    Calls Try.prog 45 #[.pointer (some ⟨g, 0, none⟩)] w fun e w' => ∃ A c, e = .returned (.slice A m c) ∧ Ow w' w.heap.size 57 A c (ds (view r h m)) ∧ Below w.heap.size w w' := by
  obtain ⟨-, -, c2, -, -⟩ := q.cell
  have hlt0 := q.lt
  have b0 : ((m : Int) == 0) = false := by simp; omega
  go_enter Try.func45, Try.ntmps45
  go_wp2_with fail
  refine (q_made g r h m rm mo w q).mono ?_
  rintro e w1 ⟨rfl, rfl⟩
  go_wp2_with (at_make; refine mk0_d rfl _ _ rfl w (Below.refl _ _) _ _ _ m rfl rfl rfl (by omega) ?_; intro w2 ho2 hb2 hg2; have c2' := (hb2.cell (p := ⟨g, 34, none⟩) hlt0).trans c2)
  clear c2 hg2 c2'
  go_loopw [3, 24] (fun v i wr => ∃ k : Nat, k ≤ m ∧ i = .int .i64 k ∧ (∃ A c, v = .slice A k c ∧ Ow wr w.heap.size 57 A c (ds (view r h k))) ∧ Below w.heap.size w wr) (fun _ i _ => m - (intOf i).toNat)
  case atStart => exact ⟨0, by omega, rfl, ⟨_, _, rfl, ho2⟩, hb2⟩
  case round =>
    obtain ⟨k, hk, rfl, ⟨A, c, rfl, hor⟩, hbr⟩ := hrel
    clear ho2 hb2
    by_cases hlt : k < m
    · obtain ⟨p, hp⟩ : ∃ p, (h + k) % 32 = p := ⟨_, rfl⟩
      have hp1 : p < 32 := by omega
      obtain ⟨x, hx⟩ : ∃ x, r.getD p 0 = x := ⟨_, rfl⟩
      have K0 : Hid (∀ W : World, Below w.heap.size w W → W.cell? ⟨g, 33, none⟩ = some (.int .i64 (h : Int)) ∧ W.cell? ⟨g, 1 + p, none⟩ = some (.int .u32 (x : Int))) := by
        (show ∀ _ : World, _ → _)
        intro W hW
        have qW := q.below hW hlt0
        exact ⟨qW.cell.2.1, by rw [← hx]; exact (qW.ringGet p hp1).2⟩
      have HA : Hid (∀ W : World, W.cell? ⟨g, 33, none⟩ = some (.int .i64 (h : Int)) → Calls Try.prog 54 #[.pointer (some ⟨g, 0, none⟩), .int .i64 (k : Int)] W fun e w' => e = .returned (.int .i64 (p : Int)) ∧ w' = W) :=
        fun W hW => q_place' g h W hW k p hh (by omega) hp
      have HV : Hid (view r h (k + 1) = view r h k ++ [x]) := by (show _ = _); rw [view_snoc, hp, hx]
      have HL : Hid ((view r h k).length = k) := view_length r h k
      have HD : Hid (ds [x] = [.int .u32 (x : Int)]) := rfl
      clear hp hx
      have p0 : (0 : Int) ≤ (p : Int) := by omega
      have p1 : (p : Int) < 32 := by omega
      go_wp2_with fail
      go_region_held3 (fun w' => w'.cell? ⟨g, 33, none⟩ = some (.int .i64 (h : Int)) ∧ w'.cell? ⟨g, 1 + p, none⟩ = some (.int .u32 (x : Int))) (first | exact K0.out _ hbr.drew | exact K0.out _ (hbr.drew.alloc hbr.size _) | exact K0.out _ hb4)
        (first | (go_at_call 54; refine (HA.out _ ?_).mono ?_; (exact (K0.out _ hbr.drew).1); rintro e w1 ⟨rfl, rfl⟩) | (refine sapp_d rfl _ _ rfl w (hbr.drew.alloc hbr.size _) A k c _ rfl (hor.drew.alloc _) HL.out _ 1 1 [x] rfl (Rd.lit _ _ _ HD.out) rfl (by omega) ?_; intro A4 c4 w4 ho4 hb4 hg4))
      go_wp2_with fail
      go_roundw
      case rel => exact ⟨k + 1, by omega, by go_num, ⟨_, _, rfl, by rw [HV.out]; exact ho4⟩, hb4⟩
      case measure => simp [intOf]; omega
    · obtain rfl : k = m := by omega
      go_wp2_with fail
      go_ret
      exact ⟨A, c, rfl, hor, hbr⟩

theorem q_List (g : Nat) (r : List Nat) (h m rm mo : Nat) (w : World) (q : Qb w g r h m rm mo) (hm : m ≤ 32) (hh : h < 32) :
    Calls Try.prog 45 #[.pointer (some ⟨g, 0, none⟩)] w fun e w' => ∃ A c, e = .returned (.slice A m c) ∧ Ow w' w.heap.size 57 A c (ds (view r h m)) ∧ Below w.heap.size w w' := by
  rcases Nat.eq_zero_or_pos m with rfl | h0
  · exact (q_List_none g r h rm mo w q).mono fun e w' ⟨he, hw⟩ => ⟨none, 0, he, Ow.nil, by rw [← hw]; exact Below.refl _ _⟩
  · exact q_List_some g r h m rm mo w q hm h0 hh
end Go.Proofs.Ytheepgfafjinoaa
