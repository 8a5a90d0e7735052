/- The walks of table.right, table.read, table.write, of bits and of words; slices.Clone (written by gen_mdd.py). -/
import Derived.Test.YtechhidfgheejaaMdC
import Derived.Test.YtechhidfgheejaaTyW
import Derived.Test.YtechhidfgheejaaTyO
namespace Go.Proofs.Ytechhidfgheejaa
open Go.RowKit
set_option linter.unusedSimpArgs false
set_option linter.unusedVariables false

theorem areasR_cons (n : Nat) (fixed : Bool) (x : Ar) (l : List Ar) (e : Int) : areasR n fixed (x :: l) e = ((!decide (x.at_ < e)) && (!decide ((n : Int) < x.at_)) && (!decide (x.many < 1)) && (!decide ((n : Int) - x.at_ < x.many)) && (!(fixed && x.wr)) && areasR n fixed l (x.at_ + x.many)) := rfl
theorem drop_here {α : Type} {l : List α} {k : Nat} {x : α} (h : l[k]? = some x) : l.drop k = x :: l.drop (k + 1) := by
  obtain ⟨hk, rfl⟩ := List.getElem?_eq_some_iff.1 h
  exact List.drop_eq_getElem_cons hk
theorem putAt_eq {α : Type} (c l : List α) (t : Nat) (h : t + l.length ≤ c.length) : c.take t ++ l ++ c.drop (t + l.length) = putAt c t l := rfl
set_option maxRecDepth 100000 in
set_option maxHeartbeats 4000000 in
theorem md_right_b (A : Option Addr) (n c : Nat) (l : List Ar) (A2 : Option Addr) (m c2 : Nat) (fixed : Bool) (w : World) (hA : Rd w A (ars l)) (hn : l.length = n) (hok : ∀ x ∈ l, x.ok) (hnb : n ≤ 1000000) :
    Calls Try.prog 80 #[.agg #[.slice A n c, .slice A2 m c2], .bool fixed] w fun e w' => e = .returned (.bool (rightT l m fixed)) ∧ Below w.heap.size w w' := by
  have hb := (Below.refl _ w).alloc (Nat.le_refl _) (.cells #[.slice A n c, .slice A2 m c2] 96)
  have bx := Blk.new w 96 #[.slice A n c, .slice A2 m c2]
  have HP : Hid (rightT l m fixed = (decide (m ≤ 65536) && areasR m fixed l 0)) := rfl
  generalize rightT l m fixed = p at *
  have HN := Lib.hid hn
  have HOK := Lib.hid hok
  clear hn hok
  go_enter Try.func80, Try.ntmps80
  go_upto_region 1 with fail
  have hA1 := hA.below hb
  obtain ⟨g, hg⟩ : ∃ g, w.heap.size = g := ⟨_, rfl⟩
  rw [hg] at bx ⊢
  generalize w.alloc (.cells #[.slice A n c, .slice A2 m c2] 96) = w1 at *
  clear hg
  by_cases hm : m ≤ 65536
  · have HR0 : Hid (p = areasR m fixed l 0) := by (show _ = _); rw [HP.out, decide_eq_true hm]; rfl
    have v0 : decide ((65536 : Int) < (m : Int)) = false := decide_eq_false (by omega)
    obtain ⟨d0, d1⟩ := bx.c2
    go_wp2_with fail
    go_loopw [5, 15] (fun en i wr => ∃ k : Nat, ∃ z : Int, k ≤ n ∧ 0 ≤ z ∧ z ≤ (m : Int) ∧ en = .int .i64 z ∧ i = .int .i64 k ∧ Below w1.heap.size w1 wr ∧ p = areasR m fixed (l.drop k) z) (fun _ i _ => n - (intOf i).toNat)
    case atStart => exact ⟨0, 0, by omega, by omega, by omega, rfl, rfl, Below.refl _ _, HR0.out⟩
    case round =>
      obtain ⟨k, z, hk, hz1, hz2, rfl, rfl, hbr, hpr⟩ := hrel
      have HPR := Lib.hid hpr
      clear hpr d0 d1
      have bxr := bx.all hbr
      obtain ⟨d0, d1⟩ := bxr.c2
      by_cases hlt : k < n
      · obtain ⟨b, off, x, rfl, hx, x0, x1, x2, x3, x4⟩ := (hA1.below hbr).ar (j := k) (by rw [HN.out]; exact hlt)
        have hxo := HOK.out x (List.mem_of_getElem? hx)
        have HC : Hid (p = ((!decide (x.at_ < z)) && (!decide ((m : Int) < x.at_)) && (!decide (x.many < 1)) && (!decide ((m : Int) - x.at_ < x.many)) && (!(fixed && x.wr)) && areasR m fixed (l.drop (k + 1)) (x.at_ + x.many))) := by
          (show _ = _); rw [HPR.out, drop_here hx, areasR_cons]
        clear hx HPR
        obtain ⟨a, mm, r1, r2, r3⟩ := x
        simp only at x0 x1 x2 x3 x4 HC
        obtain ⟨o1, o2, o3, o4⟩ := hxo
        simp only at o1 o2 o3 o4
        have j0 : (0 : Int) ≤ (k : Int) := by omega
        have j1 : (k : Int) < (n : Int) := by omega
        have hbx := hbr.alloc (Nat.le_trans (Nat.le_refl _) hbr.size) (.cells #[.int .i64 a, .int .i64 mm, .bool r1, .bool r2, .bool r3] 66)
        have bxx := bxr.alloc (.cells #[.int .i64 a, .int .i64 mm, .bool r1, .bool r2, .bool r3] 66)
        have by_ := Blk.new wr 66 #[.int .i64 a, .int .i64 mm, .bool r1, .bool r2, .bool r3]
        go_upto_region 7 with fail
        clear d0 d1 x0 x1 x2 x3 x4
        generalize wr.alloc (.cells #[.int .i64 a, .int .i64 mm, .bool r1, .bool r2, .bool r3] 66) = w2 at *
        obtain ⟨d0, d1⟩ := bxx.c2
        obtain ⟨e0, e1, e2, e3, e4⟩ := by_.c5
        by_cases c1 : a < z
        · have HR : Hid (p = false) := by (show _ = _); rw [HC.out, decide_eq_true c1]; rfl
          go_wp2_with fail
          go_ret
          exact ⟨ret_b HR.out, bthen hb hbx⟩
        have v1 : decide (a < z) = false := decide_eq_false c1
        by_cases c2' : (m : Int) < a
        · have HR : Hid (p = false) := by (show _ = _); rw [HC.out, decide_eq_true c2', v1]; rfl
          go_wp2_with fail
          go_ret
          exact ⟨ret_b HR.out, bthen hb hbx⟩
        have v2 : decide ((m : Int) < a) = false := decide_eq_false c2'
        by_cases c3 : mm < 1
        · have HR : Hid (p = false) := by (show _ = _); rw [HC.out, v1, v2, decide_eq_true c3]; rfl
          go_wp2_with fail
          go_ret
          exact ⟨ret_b HR.out, bthen hb hbx⟩
        have v3 : decide (mm < 1) = false := decide_eq_false c3
        by_cases c4 : (m : Int) - a < mm
        · have HR : Hid (p = false) := by (show _ = _); rw [HC.out, v1, v2, v3, decide_eq_true c4]; rfl
          go_wp2_with fail
          go_ret
          exact ⟨ret_b HR.out, bthen hb hbx⟩
        have v4 : decide ((m : Int) - a < mm) = false := decide_eq_false c4
        have HR2 : Hid (p = ((!(fixed && r2)) && areasR m fixed (l.drop (k + 1)) (a + mm))) := by (show _ = _); rw [HC.out, v1, v2, v3, v4]; rfl
        clear HC
        have key : (fixed && r2) = true ∨ ((fixed = false ∨ (fixed = true ∧ r2 = false)) ∧ (fixed && r2) = false) := by cases fixed <;> cases r2 <;> simp
        rcases key with c5 | ⟨c5, c6⟩
        · have HR : Hid (p = false) := by (show _ = _); rw [HR2.out, c5]; rfl
          obtain ⟨rfl, rfl⟩ := Bool.and_eq_true_iff.1 c5
          clear c5
          go_wp2_with fail
          go_ret
          exact ⟨ret_b HR.out, bthen hb hbx⟩
        · have HR : Hid (p = areasR m fixed (l.drop (k + 1)) (a + mm)) := by (show _ = _); rw [HR2.out, c6]; rfl
          clear c6 HR2
          rcases c5 with rfl | ⟨rfl, rfl⟩
          · go_wp2_with fail
            go_roundw
            case rel => exact ⟨k + 1, a + mm, by omega, by omega, by omega, rfl, by go_num, hbx, HR.out⟩
            case measure => simp [intOf]; omega
          · go_wp2_with fail
            go_roundw
            case rel => exact ⟨k + 1, a + mm, by omega, by omega, by omega, rfl, by go_num, hbx, HR.out⟩
            case measure => simp [intOf]; omega
      · obtain rfl : k = n := by omega
        have HR : Hid (p = true) := by (show _ = _); rw [HPR.out, List.drop_of_length_le (by rw [HN.out]; omega)]; rfl
        go_wp2_with fail
        go_ret
        exact ⟨ret_b HR.out, bthen hb hbr⟩
  · have HR : Hid (p = false) := by (show _ = _); rw [HP.out, decide_eq_false hm]; rfl
    have v0 : decide ((65536 : Int) < (m : Int)) = true := decide_eq_true (by omega)
    obtain ⟨d0, d1⟩ := bx.c2
    go_wp2_with fail
    go_ret
    exact ⟨ret_b HR.out, hb⟩

set_option maxHeartbeats 1000000 in
theorem clone_b (A : Option Addr) (n c : Nat) (l : List Bool) (w : World) (hA : Rd w A (os l)) (hn : l.length = n) (hbig : n ≤ 1000000000) :
    Calls Try.prog 91 #[.slice A n c] w fun e w' => ∃ A' c', e = .returned (.slice A' n c') ∧ Ow w' w.heap.size 4 A' c' (os l) ∧ Below w.heap.size w w' := by
  have q1 : ∀ (w : World) (a : Option Addr) (n c n' c' : Nat), (binOp .eql 25 (.slice a n c) (.slice none n' c')).run Try.prog w = .ok (.bool a.isNone) w := fun w a n c n' c' => Lib.run_eql_slice_nil w _ _ a n c n' c' Try.underlying25
  have HN := Lib.hid hn
  clear hn
  rcases A with _ | ad
  · have hl : l = [] := by
      rcases hA with h | ⟨b, off, h, _⟩
      · cases l with
        | nil => rfl
        | cons a l => simp [os] at h
      · cases h
    subst hl
    obtain rfl : n = 0 := HN.out.symm
    go_enter Try.func91, Try.ntmps91
    go_wp2_with fail
    go_ret
    exact ⟨none, 0, rfl, Ow.nil, Below.refl _ _⟩
  · have hb := (Below.refl _ w).alloc (Nat.le_refl _) (.cells #[] 4)
    have ho : Ow (w.alloc (.cells #[] 4)) w.heap.size 4 (some ⟨w.heap.size, 0, none⟩) 0 (os []) := Ow.lit w w.heap.size 4 [] (Nat.le_refl _) (by simp [maxLen]) rfl rfl
    go_enter Try.func91, Try.ntmps91
    go_wp2_with (at_builtin; refine app_o rfl _ _ rfl w hb _ _ _ [] rfl ho rfl _ n c _ rfl (hA.below hb) HN.out (by omega) ?_)
    intro A7 c7 w7 o7 hb7 hg7
    go_wp2_with fail
    go_ret
    exact ⟨A7, c7, rfl, by simpa using o7, hb7⟩
set_option maxRecDepth 100000 in
set_option maxHeartbeats 4000000 in
theorem md_right_w (A : Option Addr) (n c : Nat) (l : List Ar) (A2 : Option Addr) (m c2 : Nat) (fixed : Bool) (w : World) (hA : Rd w A (ars l)) (hn : l.length = n) (hok : ∀ x ∈ l, x.ok) (hnb : n ≤ 1000000) :
    Calls Try.prog 81 #[.agg #[.slice A n c, .slice A2 m c2], .bool fixed] w fun e w' => e = .returned (.bool (rightT l m fixed)) ∧ Below w.heap.size w w' := by
  have hb := (Below.refl _ w).alloc (Nat.le_refl _) (.cells #[.slice A n c, .slice A2 m c2] 98)
  have bx := Blk.new w 98 #[.slice A n c, .slice A2 m c2]
  have HP : Hid (rightT l m fixed = (decide (m ≤ 65536) && areasR m fixed l 0)) := rfl
  generalize rightT l m fixed = p at *
  have HN := Lib.hid hn
  have HOK := Lib.hid hok
  clear hn hok
  go_enter Try.func81, Try.ntmps81
  go_upto_region 1 with fail
  have hA1 := hA.below hb
  obtain ⟨g, hg⟩ : ∃ g, w.heap.size = g := ⟨_, rfl⟩
  rw [hg] at bx ⊢
  generalize w.alloc (.cells #[.slice A n c, .slice A2 m c2] 98) = w1 at *
  clear hg
  by_cases hm : m ≤ 65536
  · have HR0 : Hid (p = areasR m fixed l 0) := by (show _ = _); rw [HP.out, decide_eq_true hm]; rfl
    have v0 : decide ((65536 : Int) < (m : Int)) = false := decide_eq_false (by omega)
    obtain ⟨d0, d1⟩ := bx.c2
    go_wp2_with fail
    go_loopw [5, 15] (fun en i wr => ∃ k : Nat, ∃ z : Int, k ≤ n ∧ 0 ≤ z ∧ z ≤ (m : Int) ∧ en = .int .i64 z ∧ i = .int .i64 k ∧ Below w1.heap.size w1 wr ∧ p = areasR m fixed (l.drop k) z) (fun _ i _ => n - (intOf i).toNat)
    case atStart => exact ⟨0, 0, by omega, by omega, by omega, rfl, rfl, Below.refl _ _, HR0.out⟩
    case round =>
      obtain ⟨k, z, hk, hz1, hz2, rfl, rfl, hbr, hpr⟩ := hrel
      have HPR := Lib.hid hpr
      clear hpr d0 d1
      have bxr := bx.all hbr
      obtain ⟨d0, d1⟩ := bxr.c2
      by_cases hlt : k < n
      · obtain ⟨b, off, x, rfl, hx, x0, x1, x2, x3, x4⟩ := (hA1.below hbr).ar (j := k) (by rw [HN.out]; exact hlt)
        have hxo := HOK.out x (List.mem_of_getElem? hx)
        have HC : Hid (p = ((!decide (x.at_ < z)) && (!decide ((m : Int) < x.at_)) && (!decide (x.many < 1)) && (!decide ((m : Int) - x.at_ < x.many)) && (!(fixed && x.wr)) && areasR m fixed (l.drop (k + 1)) (x.at_ + x.many))) := by
          (show _ = _); rw [HPR.out, drop_here hx, areasR_cons]
        clear hx HPR
        obtain ⟨a, mm, r1, r2, r3⟩ := x
        simp only at x0 x1 x2 x3 x4 HC
        obtain ⟨o1, o2, o3, o4⟩ := hxo
        simp only at o1 o2 o3 o4
        have j0 : (0 : Int) ≤ (k : Int) := by omega
        have j1 : (k : Int) < (n : Int) := by omega
        have hbx := hbr.alloc (Nat.le_trans (Nat.le_refl _) hbr.size) (.cells #[.int .i64 a, .int .i64 mm, .bool r1, .bool r2, .bool r3] 66)
        have bxx := bxr.alloc (.cells #[.int .i64 a, .int .i64 mm, .bool r1, .bool r2, .bool r3] 66)
        have by_ := Blk.new wr 66 #[.int .i64 a, .int .i64 mm, .bool r1, .bool r2, .bool r3]
        go_upto_region 7 with fail
        clear d0 d1 x0 x1 x2 x3 x4
        generalize wr.alloc (.cells #[.int .i64 a, .int .i64 mm, .bool r1, .bool r2, .bool r3] 66) = w2 at *
        obtain ⟨d0, d1⟩ := bxx.c2
        obtain ⟨e0, e1, e2, e3, e4⟩ := by_.c5
        by_cases c1 : a < z
        · have HR : Hid (p = false) := by (show _ = _); rw [HC.out, decide_eq_true c1]; rfl
          go_wp2_with fail
          go_ret
          exact ⟨ret_b HR.out, bthen hb hbx⟩
        have v1 : decide (a < z) = false := decide_eq_false c1
        by_cases c2' : (m : Int) < a
        · have HR : Hid (p = false) := by (show _ = _); rw [HC.out, decide_eq_true c2', v1]; rfl
          go_wp2_with fail
          go_ret
          exact ⟨ret_b HR.out, bthen hb hbx⟩
        have v2 : decide ((m : Int) < a) = false := decide_eq_false c2'
        by_cases c3 : mm < 1
        · have HR : Hid (p = false) := by (show _ = _); rw [HC.out, v1, v2, decide_eq_true c3]; rfl
          go_wp2_with fail
          go_ret
          exact ⟨ret_b HR.out, bthen hb hbx⟩
        have v3 : decide (mm < 1) = false := decide_eq_false c3
        by_cases c4 : (m : Int) - a < mm
        · have HR : Hid (p = false) := by (show _ = _); rw [HC.out, v1, v2, v3, decide_eq_true c4]; rfl
          go_wp2_with fail
          go_ret
          exact ⟨ret_b HR.out, bthen hb hbx⟩
        have v4 : decide ((m : Int) - a < mm) = false := decide_eq_false c4
        have HR2 : Hid (p = ((!(fixed && r2)) && areasR m fixed (l.drop (k + 1)) (a + mm))) := by (show _ = _); rw [HC.out, v1, v2, v3, v4]; rfl
        clear HC
        have key : (fixed && r2) = true ∨ ((fixed = false ∨ (fixed = true ∧ r2 = false)) ∧ (fixed && r2) = false) := by cases fixed <;> cases r2 <;> simp
        rcases key with c5 | ⟨c5, c6⟩
        · have HR : Hid (p = false) := by (show _ = _); rw [HR2.out, c5]; rfl
          obtain ⟨rfl, rfl⟩ := Bool.and_eq_true_iff.1 c5
          clear c5
          go_wp2_with fail
          go_ret
          exact ⟨ret_b HR.out, bthen hb hbx⟩
        · have HR : Hid (p = areasR m fixed (l.drop (k + 1)) (a + mm)) := by (show _ = _); rw [HR2.out, c6]; rfl
          clear c6 HR2
          rcases c5 with rfl | ⟨rfl, rfl⟩
          · go_wp2_with fail
            go_roundw
            case rel => exact ⟨k + 1, a + mm, by omega, by omega, by omega, rfl, by go_num, hbx, HR.out⟩
            case measure => simp [intOf]; omega
          · go_wp2_with fail
            go_roundw
            case rel => exact ⟨k + 1, a + mm, by omega, by omega, by omega, rfl, by go_num, hbx, HR.out⟩
            case measure => simp [intOf]; omega
      · obtain rfl : k = n := by omega
        have HR : Hid (p = true) := by (show _ = _); rw [HPR.out, List.drop_of_length_le (by rw [HN.out]; omega)]; rfl
        go_wp2_with fail
        go_ret
        exact ⟨ret_b HR.out, bthen hb hbr⟩
  · have HR : Hid (p = false) := by (show _ = _); rw [HP.out, decide_eq_false hm]; rfl
    have v0 : decide ((65536 : Int) < (m : Int)) = true := decide_eq_true (by omega)
    obtain ⟨d0, d1⟩ := bx.c2
    go_wp2_with fail
    go_ret
    exact ⟨ret_b HR.out, hb⟩

set_option maxHeartbeats 1000000 in
theorem clone_w (A : Option Addr) (n c : Nat) (l : List Nat) (w : World) (hA : Rd w A (ws l)) (hn : l.length = n) (hbig : n ≤ 1000000000) :
    Calls Try.prog 92 #[.slice A n c] w fun e w' => ∃ A' c', e = .returned (.slice A' n c') ∧ Ow w' w.heap.size 34 A' c' (ws l) ∧ Below w.heap.size w w' := by
  have q1 : ∀ (w : World) (a : Option Addr) (n c n' c' : Nat), (binOp .eql 26 (.slice a n c) (.slice none n' c')).run Try.prog w = .ok (.bool a.isNone) w := fun w a n c n' c' => Lib.run_eql_slice_nil w _ _ a n c n' c' Try.underlying26
  have HN := Lib.hid hn
  clear hn
  rcases A with _ | ad
  · have hl : l = [] := by
      rcases hA with h | ⟨b, off, h, _⟩
      · cases l with
        | nil => rfl
        | cons a l => simp [ws] at h
      · cases h
    subst hl
    obtain rfl : n = 0 := HN.out.symm
    go_enter Try.func92, Try.ntmps92
    go_wp2_with fail
    go_ret
    exact ⟨none, 0, rfl, Ow.nil, Below.refl _ _⟩
  · have hb := (Below.refl _ w).alloc (Nat.le_refl _) (.cells #[] 34)
    have ho : Ow (w.alloc (.cells #[] 34)) w.heap.size 34 (some ⟨w.heap.size, 0, none⟩) 0 (ws []) := Ow.lit w w.heap.size 34 [] (Nat.le_refl _) (by simp [maxLen]) rfl rfl
    go_enter Try.func92, Try.ntmps92
    go_wp2_with (at_builtin; refine app_w rfl _ _ rfl w hb _ _ _ [] rfl ho rfl _ n c _ rfl (hA.below hb) HN.out (by omega) ?_)
    intro A7 c7 w7 o7 hb7 hg7
    go_wp2_with fail
    go_ret
    exact ⟨A7, c7, rfl, by simpa using o7, hb7⟩
end Go.Proofs.Ytechhidfgheejaa
