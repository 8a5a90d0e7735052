/- The walk of model.each. -/
import Derived.Test.YtechhidfgheejaaMdE
import Derived.Test.YtechhidfgheejaaMore
namespace Go.Proofs.Ytechhidfgheejaa
open Go.RowKit
set_option linter.unusedSimpArgs false
set_option linter.unusedVariables false

/-- a row's cell, by its place -/
theorem Ow.bit_ {w : World} {B : Nat} {e : TypeId} {A : Option Addr} {c : Nat} {l : List Bool} (h : Ow w B e A c (os l)) {k : Nat} (hk : k < l.length) : ∃ g x, A = some ⟨g, 0, none⟩ ∧ l[k]? = some x ∧ w.cell? ⟨g, k, none⟩ = some (.bool x) := by
  obtain ⟨b, off, x, hA, hx, hc⟩ := h.rd.bit hk
  obtain ⟨g, hA', _⟩ := h.head (by rw [os_length]; omega)
  rw [hA] at hA'
  injection hA' with hA'
  injection hA' with h1 h2
  subst h2
  rw [Nat.zero_add] at hc
  exact ⟨b, x, hA, hx, hc⟩
set_option maxRecDepth 100000 in
set_option maxHeartbeats 4000000 in
theorem md_each (gf : Nat) (cap : Array Value) (eg : ∀ args w, (callFunc gf args).run Try.prog w = .ok (.enter gf args) w) (want : Ar → Bool) (A : Option Addr) (n c : Nat) (l : List Ar) (t m : Nat) (w : World) (hA : Rd w A (ars l)) (hn : l.length = n) (hok : ∀ x ∈ l, x.ok)
    (ht : t ≤ 65535) (hm : m ≤ 100000) (hnb : n ≤ 1000000)
    (hc : ∀ (W : World) (x : Ar), Below w.heap.size w W → Calls Try.prog gf (#[x.v] ++ cap) W fun e W' => e = .returned (.bool (want x)) ∧ Below W.heap.size W W') :
    Calls Try.prog 123 #[.slice A n c, .int .i64 (t : Int), .int .i64 (m : Int), .func (.func gf) #[] cap] w fun e w' => e = .returned (.bool (eachA l t m want)) ∧ Below w.heap.size w w' := by
  have HN := Lib.hid hn
  have HOK := Lib.hid hok
  have HC := Lib.hid hc
  generalize hp : eachA l t m want = p at *
  have HP := Lib.hid hp
  clear hn hok hc hp
  have hz : EachI l t m want 0 (List.replicate m false) m := EachI.zero
  go_enter Try.func123, Try.ntmps123
  go_wp2_with (at_make; refine mkn_o rfl _ _ rfl w (Below.refl _ _) _ _ _ _ m rfl rfl rfl rfl (by omega) ?_)
  intro w1 ho1 hb1 hg1 hs1
  obtain ⟨g, hg⟩ : ∃ g, w.heap.size = g := ⟨_, rfl⟩
  have hgw : w.heap.size ≤ g := by omega
  rw [hg] at ho1 ⊢
  have hgw1 : g < w1.heap.size := by omega
  clear hg hg1 hs1
  go_wp2_with fail
  go_loopw [10, 21] (fun lf i wr => ∃ k left : Nat, ∃ met : List Bool, k ≤ n ∧ left ≤ m ∧ lf = .int .i64 left ∧ i = .int .i64 k ∧ Below w.heap.size w wr ∧ Ow wr g 4 (some ⟨g, 0, none⟩) m (os met) ∧ (g < wr.heap.size) ∧ EachI l t m want k met left) (fun _ i _ => n - (intOf i).toNat)
  case atStart => exact ⟨0, m, _, by omega, by omega, rfl, rfl, hb1, ho1, hgw1, hz⟩
  case round =>
    obtain ⟨k, left, met, hk, hleft, rfl, rfl, hbr, hor, hgw1r, hI⟩ := hrel
    by_cases hlt : k < n
    · obtain ⟨b, off, x, rfl, hx, x0, x1, x2, x3, x4⟩ := (hA.below hbr).ar (j := k) (by rw [HN.out]; exact hlt)
      have hxo := HOK.out x (List.mem_of_getElem? hx)
      have HX := Lib.hid hx
      clear hx
      have j0 : (0 : Int) ≤ (k : Int) := by omega
      have j1 : (k : Int) < (n : Int) := by omega
      by_cases hl0 : left = 0
      · have HR : Hid (p = true) := by (show _ = _); rw [← HP.out]; exact hI.full hl0
        have hbx := hbr.alloc hbr.size (.cells #[.int .i64 x.at_, .int .i64 x.many, .bool x.rd, .bool x.wr, .bool x.whole] 66)
        have v1 : ((left : Int) == 0) = true := by simp [hl0]
        clear hl0
        go_wp2_with fail
        go_ret
        exact ⟨ret_b HR.out, hbx⟩
      · have v1 : ((left : Int) == 0) = false := by simp; omega
        obtain ⟨lo, hi, hmt, hlo, hhi, hspec⟩ := meet_spec x t m
        have HS := Lib.hid hspec
        have E1 := Lib.hid (fun W => md_meet x (t : Int) ((t + m : Nat) : Int) W hxo (by omega) (by omega) (by omega) (by omega))
        rw [hmt] at E1
        simp only [Ar.v] at E1
        rw [show ((t + m : Nat) : Int) = (t : Int) + (m : Int) by omega] at E1
        clear hmt hspec hl0
        have hbx := hbr.alloc hbr.size (.cells #[.int .i64 x.at_, .int .i64 x.many, .bool x.rd, .bool x.wr, .bool x.whole] 66)
        have bx := Blk.new wr 66 #[.int .i64 x.at_, .int .i64 x.many, .bool x.rd, .bool x.wr, .bool x.whole]
        have hox := hor.alloc (.cells #[.int .i64 x.at_, .int .i64 x.many, .bool x.rd, .bool x.wr, .bool x.whole] 66)
        go_upto_region 7 with fail
        obtain ⟨gx, hgx⟩ : ∃ gx, wr.heap.size = gx := ⟨_, rfl⟩
        have hwg' : w.heap.size ≤ g := hgw
        have hgl : g < gx := by
          rw [← hgx]
          exact hgw1r
        have hwx : w.heap.size ≤ gx := by omega
        rw [hgx] at bx ⊢
        generalize wr.alloc (.cells #[.int .i64 x.at_, .int .i64 x.many, .bool x.rd, .bool x.wr, .bool x.whole] 66) = w2 at *
        clear hgx x0 x1 x2 x3 x4 hor
        obtain ⟨d0, d1, d2, d3, d4⟩ := bx.c5
        have e0 : (t : Int) + ((m : Nat) : Int) = ((t : Int) + (m : Int)) := rfl
        go_wp2_with fail
        refine (E1.out _).mono ?_
        rintro e w3 ⟨rfl, hs⟩
        replace hbx := bthen hbx hs
        replace bx := bx.all hs
        replace hox := hox.below hs
        clear hs d0 d1 d2 d3 d4 e0
        have hJ := hI.start lo
        go_wp2_with fail
        go_loopw [10, 15] (fun lf i wq => ∃ j lft : Nat, ∃ mt : List Bool, lo ≤ j ∧ (j = lo ∨ ((t + j : Nat) : Int) ≤ hi) ∧ lft ≤ m ∧ lf = .int .i64 lft ∧ i = .int .i64 ((t + j : Nat) : Int) ∧ Below w.heap.size w wq ∧ Ow wq g 4 (some ⟨g, 0, none⟩) m (os mt) ∧ Blk wq gx 66 #[.int .i64 x.at_, .int .i64 x.many, .bool x.rd, .bool x.wr, .bool x.whole] ∧ EachJ l t m want k lo j mt lft) (fun _ i _ => (hi - intOf i).toNat)
        case atStart => exact ⟨lo, left, met, Nat.le_refl _, .inl rfl, hleft, rfl, rfl, hbx, hox, bx, hJ⟩
        case round =>
          obtain ⟨j, lft, mt, hj1, hj2, hlf, rfl, rfl, hbq, hoq, bxq, hJq⟩ := hrel
          by_cases hjt : ((t + j : Nat) : Int) < hi
          · have hjm : j < m := by omega
            have hxh : hasAt t j x = true := (HS.out j hjm).2 ⟨hj1, hjt⟩
            obtain ⟨⟨u, hu, cu⟩, fu, hgB, hgl2⟩ := hoq.at_ (j := j) (by rw [os_length, hJq.len]; exact hjm)
            obtain ⟨y, hy⟩ : ∃ y, mt[j]? = some y := ⟨_, List.getElem?_eq_getElem (by rw [hJq.len]; exact hjm)⟩
            obtain rfl : u = .bool y := by
              have : (os mt)[j]? = some (.bool y) := by simp [os, hy]
              rw [this] at hu
              injection hu with hu
              exact hu.symm
            have HY := Lib.hid hy
            clear hu hy
            have s0 : ((t + j : Nat) : Int) - (t : Int) = (j : Int) := by omega
            have f0 : (0 : Int) ≤ (j : Int) := by omega
            have f1 : (j : Int) < (m : Int) := by omega
            have f2 : ((t + j : Nat) : Int) + 1 = ((t + (j + 1) : Nat) : Int) := by omega
            obtain ⟨d0, d1, d2, d3, d4⟩ := bxq.c5
            cases y with
            | true =>
              have hJ1 := hJq.skip HY.out
              go_wp2_with fail
              go_roundw
              case rel => exact ⟨j + 1, lft, mt, by omega, .inr (by omega), hlf, rfl, congrArg (Value.int .i64) (by omega), hbq, hoq, bxq, hJ1⟩
              case measure => simp [intOf]; omega
            | false =>
              have EC := HC.out wr x hbq
              have f3 := hJq.left_pos HY.out
              have f4 : (lft : Int) - 1 = ((lft - 1 : Nat) : Int) := by omega
              cases hw : want x with
              | false =>
                have HR : Hid (p = false) := by (show _ = _); rw [← HP.out]; exact hJq.bad HY.out HX.out hxh hw
                rw [hw] at EC
                simp only [Ar.v] at EC
                have EH := Lib.hid EC
                clear EC hw
                go_wp2_with fail
                refine EH.out.mono ?_
                rintro e w4 ⟨rfl, hs⟩
                go_wp2_with fail
                go_ret
                exact ⟨ret_b HR.out, bthen hbq hs⟩
              | true =>
                have hJ1 := hJq.set HY.out hj1 HX.out hxh hw
                rw [hw] at EC
                simp only [Ar.v] at EC
                have EH := Lib.hid EC
                clear EC hw d0 d1 d2 d3 d4
                obtain ⟨d0, d1, d2, d3, d4⟩ := bxq.c5
                go_wp2_with fail
                refine EH.out.mono ?_
                rintro e w4 ⟨rfl, hs⟩
                have hb4 := bthen hbq hs
                have ho4 := hoq.below hs
                have bx4 := bxq.all hs
                clear hs cu fu d0 d1 d2 d3 d4
                obtain ⟨⟨u, hu, cu⟩, fu, -, -⟩ := ho4.at_ (j := j) (by rw [os_length, hJq.len]; exact hjm)
                have ho5 := ho4.stored j (.bool true)
                rw [os_set] at ho5
                have hgx2 : gx ≠ g := by omega
                have bx5 := bx4.far (p := ⟨g, j, none⟩) hgx2 (.bool true)
                have hb5 := bset1 hb4 hgw j (.bool true)
                clear hu
                go_wp2_with fail
                go_roundw
                case rel => exact ⟨j + 1, lft - 1, _, by omega, .inr (by omega), by omega, rfl, congrArg (Value.int .i64) (by omega), hb5, ho5, bx5, hJ1⟩
                case measure => simp [intOf]; omega
          · have hdone := hJq.done HX.out (hasAt_eq HS.out hj2 hjt)
            go_wp2_with fail
            go_roundw
            case rel => exact ⟨k + 1, lft, mt, by omega, hlf, rfl, by go_num, hbq, hoq, by have := bxq.lt; omega, hdone⟩
            case measure => simp [intOf]; omega
    · obtain rfl : k = n := by omega
      by_cases hl0 : left = 0
      · have HR : Hid (p = true) := by (show _ = _); rw [← HP.out]; exact hI.full hl0
        have v1 : ((left : Int) == 0) = true := by simp [hl0]
        clear hl0
        go_wp2_with fail
        go_ret
        exact ⟨ret_b HR.out, hbr⟩
      · have HR : Hid (p = false) := by (show _ = _); rw [← HP.out]; exact hI.lack (by rw [HN.out]; omega) hl0
        have v1 : ((left : Int) == 0) = false := by simp; omega
        clear hl0
        go_wp2_with fail
        go_ret
        exact ⟨ret_b HR.out, hbr⟩
end Go.Proofs.Ytechhidfgheejaa
