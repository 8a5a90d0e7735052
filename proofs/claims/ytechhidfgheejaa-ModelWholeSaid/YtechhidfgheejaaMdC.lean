/- The walks of table.readable and table.writable, of bits and of words (written by gen_mdc.py). -/
import Derived.Test.YtechhidfgheejaaMdB
import Derived.Shelf.Abstract
namespace Go.Proofs.Ytechhidfgheejaa
open Go.RowKit
set_option linter.unusedSimpArgs false
set_option linter.unusedVariables false
theorem want_rd_b (x : Ar) (w : World) : Calls Try.prog 124 #[x.v] w fun e w' => e = .returned (.bool x.rd) ∧ Below w.heap.size w w' := by
  unfold Ar.v
  have hb := (Below.refl _ w).alloc (Nat.le_refl _) (.cells #[.int .i64 x.at_, .int .i64 x.many, .bool x.rd, .bool x.wr, .bool x.whole] 66)
  go_enter Try.func124, Try.ntmps124
  go_wp2_with fail
  go_ret
  exact ⟨rfl, hb⟩
set_option maxHeartbeats 1000000 in
theorem want_wr_b (x : Ar) (t m : Nat) (bt bm : Nat) (w : World) (ht : w.cell? ⟨bt, 0, none⟩ = some (.int .i64 (t : Int))) (hm : w.cell? ⟨bm, 0, none⟩ = some (.int .i64 (m : Int))) :
    Calls Try.prog 125 #[x.v, .pointer (some ⟨bt, 0, none⟩), .pointer (some ⟨bm, 0, none⟩)] w fun e w' => e = .returned (.bool (wantW t m x)) ∧ Below w.heap.size w w' := by
  obtain ⟨a, n, r1, r2, r3⟩ := x
  have HW : Hid (wantW t m ⟨a, n, r1, r2, r3⟩ = (r2 && (!r3 || decide (a = (t : Int)) && decide (n = (m : Int))))) := rfl
  generalize wantW t m ⟨a, n, r1, r2, r3⟩ = p at *
  unfold Ar.v
  simp only
  have hb := (Below.refl _ w).alloc (Nat.le_refl _) (.cells #[.int .i64 a, .int .i64 n, .bool r1, .bool r2, .bool r3] 66)
  have bx := Blk.new w 66 #[.int .i64 a, .int .i64 n, .bool r1, .bool r2, .bool r3]
  have h1 := (hb.cell (World.block_lt_of_cell? w _ ht)).trans ht
  have h2 := (hb.cell (World.block_lt_of_cell? w _ hm)).trans hm
  clear ht hm
  go_enter Try.func125, Try.ntmps125
  go_upto_region 1 with fail
  generalize w.alloc (.cells #[.int .i64 a, .int .i64 n, .bool r1, .bool r2, .bool r3] 66) = w1 at *
  obtain ⟨d0, d1, d2, d3, d4⟩ := bx.c5
  cases r2 with
  | false =>
    have HP : Hid (p = false) := by (show _ = _); rw [HW.out]; rfl
    go_wp2_with fail
    go_ret
    exact ⟨ret_b HP.out, hb⟩
  | true =>
    cases r3 with
    | false =>
      have HP : Hid (p = true) := by (show _ = _); rw [HW.out]; rfl
      go_wp2_with fail
      go_ret
      exact ⟨ret_b HP.out, hb⟩
    | true =>
      by_cases e1 : a = (t : Int)
      · have v1 : (a == (t : Int)) = true := by simpa using e1
        by_cases e2 : n = (m : Int)
        · have HP : Hid (p = true) := by (show _ = _); rw [HW.out, decide_eq_true e1, decide_eq_true e2]; rfl
          have v2 : (n == (m : Int)) = true := by simpa using e2
          clear e1 e2
          go_wp2_with fail
          go_ret
          exact ⟨ret_b HP.out, hb⟩
        · have HP : Hid (p = false) := by (show _ = _); rw [HW.out, decide_eq_true e1, decide_eq_false e2]; rfl
          have v2 : (n == (m : Int)) = false := by simpa using e2
          clear e1 e2
          go_wp2_with fail
          go_ret
          exact ⟨ret_b HP.out, hb⟩
      · have HP : Hid (p = false) := by (show _ = _); rw [HW.out, decide_eq_false e1]; rfl
        have v1 : (a == (t : Int)) = false := by simpa using e1
        clear e1
        go_wp2_with fail
        go_ret
        exact ⟨ret_b HP.out, hb⟩
theorem enters_rd_b : ∀ args w, (callFunc 124 args).run Try.prog w = .ok (.enter 124 args) w := enters_of Try.func124 (by kernel_rfl) rfl
theorem enters_wr_b : ∀ args w, (callFunc 125 args).run Try.prog w = .ok (.enter 125 args) w := enters_of Try.func125 (by kernel_rfl) rfl
set_option maxRecDepth 100000 in
set_option maxHeartbeats 1000000 in
theorem md_readable_b (A : Option Addr) (n c : Nat) (l : List Ar) (B : Value) (t m : Nat) (w : World) (hA : Rd w A (ars l)) (hn : l.length = n) (hok : ∀ x ∈ l, x.ok) (ht : t ≤ 65535) (hm : m ≤ 100000) (hnb : n ≤ 1000000) (hB : ∃ A2 n2 c2, B = .slice A2 n2 c2) :
    Calls Try.prog 121 #[.agg #[.slice A n c, B], .int .i64 (t : Int), .int .i64 (m : Int)] w fun e w' => e = .returned (.bool (readableT l t m)) ∧ Below w.heap.size w w' := by
  obtain ⟨A2, n2, c2, rfl⟩ := hB
  have hb := (Below.refl _ w).alloc (Nat.le_refl _) (.cells #[.slice A n c, .slice A2 n2 c2] 96)
  have bx := Blk.new w 96 #[.slice A n c, .slice A2 n2 c2]
  have E := Lib.hid (md_each 124 #[] enters_rd_b (fun x => x.rd) A n c l t m (w.alloc (.cells #[.slice A n c, .slice A2 n2 c2] 96)) (hA.below hb) hn hok ht hm hnb (fun W x _ => want_rd_b x W))
  rw [show eachA l t m (fun x => x.rd) = readableT l t m from rfl] at E
  generalize readableT l t m = p at *
  clear hn hok
  go_enter Try.func121, Try.ntmps121
  go_upto_region 1 with fail
  generalize w.alloc (.cells #[.slice A n c, .slice A2 n2 c2] 96) = w1 at *
  obtain ⟨d0, d1⟩ := bx.c2
  go_wp2_with fail
  refine E.out.mono ?_
  rintro e w2 ⟨rfl, hs⟩
  go_wp2_with fail
  go_ret
  exact ⟨rfl, bthen hb hs⟩
set_option maxRecDepth 100000 in
set_option maxHeartbeats 1000000 in
theorem md_writable_b (A : Option Addr) (n c : Nat) (l : List Ar) (B : Value) (t m : Nat) (w : World) (hA : Rd w A (ars l)) (hn : l.length = n) (hok : ∀ x ∈ l, x.ok) (ht : t ≤ 65535) (hm : m ≤ 100000) (hnb : n ≤ 1000000) (hB : ∃ A2 n2 c2, B = .slice A2 n2 c2) :
    Calls Try.prog 122 #[.agg #[.slice A n c, B], .int .i64 (t : Int), .int .i64 (m : Int)] w fun e w' => e = .returned (.bool (writableT l t m)) ∧ Below w.heap.size w w' := by
  obtain ⟨A2, n2, c2, rfl⟩ := hB
  have hb := (((Below.refl _ w).alloc (Nat.le_refl _) (.cells #[.slice A n c, .slice A2 n2 c2] 96)).alloc (by simp) (.cells #[.int .i64 (t : Int)] 3)).alloc (by simp; omega) (.cells #[.int .i64 (m : Int)] 3)
  have bx := ((Blk.new w 96 #[.slice A n c, .slice A2 n2 c2]).alloc (.cells #[.int .i64 (t : Int)] 3)).alloc (.cells #[.int .i64 (m : Int)] 3)
  have bt := (Blk.newAt (w.alloc (.cells #[.slice A n c, .slice A2 n2 c2] 96)) 3 #[.int .i64 (t : Int)] (w.heap.size + 1) (World.size_alloc _ _)).alloc (.cells #[.int .i64 (m : Int)] 3)
  have bm := Blk.newAt ((w.alloc (.cells #[.slice A n c, .slice A2 n2 c2] 96)).alloc (.cells #[.int .i64 (t : Int)] 3)) 3 #[.int .i64 (m : Int)] (w.heap.size + 1 + 1) (by simp [World.size_alloc])
  have hmf : ∀ (fn : Fn) (first cap : Array Value) (w : World), (Instr.makeFunc fn first cap).run Try.prog w = .ok (.func fn first cap) w := fun _ _ _ _ => rfl
  go_enter Try.func122, Try.ntmps122
  go_upto_region 1 with fail
  obtain ⟨g, hg⟩ : ∃ g, w.heap.size = g := ⟨_, rfl⟩
  obtain ⟨g1, hg1⟩ : ∃ g, w.heap.size + 1 = g := ⟨_, rfl⟩
  rw [hg1] at bt bm ⊢
  obtain ⟨g2, hg2⟩ : ∃ g, g1 + 1 = g := ⟨_, rfl⟩
  rw [hg2] at bm ⊢
  rw [hg] at bx ⊢
  generalize ((w.alloc (.cells #[.slice A n c, .slice A2 n2 c2] 96)).alloc (.cells #[.int .i64 (t : Int)] 3)).alloc (.cells #[.int .i64 (m : Int)] 3) = w1 at *
  have E := Lib.hid (md_each 125 #[.pointer (some ⟨g1, 0, none⟩), .pointer (some ⟨g2, 0, none⟩)] enters_wr_b (wantW t m) A n c l t m w1 (hA.below hb) hn hok ht hm hnb (fun W x hW => want_wr_b x t m g1 g2 W ((bt.all hW).cell 0) ((bm.all hW).cell 0)))
  rw [show eachA l t m (wantW t m) = writableT l t m from rfl] at E
  obtain ⟨p, hp⟩ : ∃ p, writableT l t m = p := ⟨_, rfl⟩
  rw [hp] at E
  have HPP := Lib.hid hp
  clear hp
  clear hn hok hg hg1 hg2
  obtain ⟨d0, d1⟩ := bx.c2
  have d2 := bt.c1
  have d3 := bm.c1
  go_wp2_with fail
  refine E.out.mono ?_
  rintro e w2 ⟨rfl, hs⟩
  go_wp2_with fail
  go_ret
  exact ⟨ret_b HPP.out, bthen hb hs⟩
theorem want_rd_w (x : Ar) (w : World) : Calls Try.prog 129 #[x.v] w fun e w' => e = .returned (.bool x.rd) ∧ Below w.heap.size w w' := by
  unfold Ar.v
  have hb := (Below.refl _ w).alloc (Nat.le_refl _) (.cells #[.int .i64 x.at_, .int .i64 x.many, .bool x.rd, .bool x.wr, .bool x.whole] 66)
  go_enter Try.func129, Try.ntmps129
  go_wp2_with fail
  go_ret
  exact ⟨rfl, hb⟩
set_option maxHeartbeats 1000000 in
theorem want_wr_w (x : Ar) (t m : Nat) (bt bm : Nat) (w : World) (ht : w.cell? ⟨bt, 0, none⟩ = some (.int .i64 (t : Int))) (hm : w.cell? ⟨bm, 0, none⟩ = some (.int .i64 (m : Int))) :
    Calls Try.prog 130 #[x.v, .pointer (some ⟨bt, 0, none⟩), .pointer (some ⟨bm, 0, none⟩)] w fun e w' => e = .returned (.bool (wantW t m x)) ∧ Below w.heap.size w w' := by
  obtain ⟨a, n, r1, r2, r3⟩ := x
  have HW : Hid (wantW t m ⟨a, n, r1, r2, r3⟩ = (r2 && (!r3 || decide (a = (t : Int)) && decide (n = (m : Int))))) := rfl
  generalize wantW t m ⟨a, n, r1, r2, r3⟩ = p at *
  unfold Ar.v
  simp only
  have hb := (Below.refl _ w).alloc (Nat.le_refl _) (.cells #[.int .i64 a, .int .i64 n, .bool r1, .bool r2, .bool r3] 66)
  have bx := Blk.new w 66 #[.int .i64 a, .int .i64 n, .bool r1, .bool r2, .bool r3]
  have h1 := (hb.cell (World.block_lt_of_cell? w _ ht)).trans ht
  have h2 := (hb.cell (World.block_lt_of_cell? w _ hm)).trans hm
  clear ht hm
  go_enter Try.func130, Try.ntmps130
  go_upto_region 1 with fail
  generalize w.alloc (.cells #[.int .i64 a, .int .i64 n, .bool r1, .bool r2, .bool r3] 66) = w1 at *
  obtain ⟨d0, d1, d2, d3, d4⟩ := bx.c5
  cases r2 with
  | false =>
    have HP : Hid (p = false) := by (show _ = _); rw [HW.out]; rfl
    go_wp2_with fail
    go_ret
    exact ⟨ret_b HP.out, hb⟩
  | true =>
    cases r3 with
    | false =>
      have HP : Hid (p = true) := by (show _ = _); rw [HW.out]; rfl
      go_wp2_with fail
      go_ret
      exact ⟨ret_b HP.out, hb⟩
    | true =>
      by_cases e1 : a = (t : Int)
      · have v1 : (a == (t : Int)) = true := by simpa using e1
        by_cases e2 : n = (m : Int)
        · have HP : Hid (p = true) := by (show _ = _); rw [HW.out, decide_eq_true e1, decide_eq_true e2]; rfl
          have v2 : (n == (m : Int)) = true := by simpa using e2
          clear e1 e2
          go_wp2_with fail
          go_ret
          exact ⟨ret_b HP.out, hb⟩
        · have HP : Hid (p = false) := by (show _ = _); rw [HW.out, decide_eq_true e1, decide_eq_false e2]; rfl
          have v2 : (n == (m : Int)) = false := by simpa using e2
          clear e1 e2
          go_wp2_with fail
          go_ret
          exact ⟨ret_b HP.out, hb⟩
      · have HP : Hid (p = false) := by (show _ = _); rw [HW.out, decide_eq_false e1]; rfl
        have v1 : (a == (t : Int)) = false := by simpa using e1
        clear e1
        go_wp2_with fail
        go_ret
        exact ⟨ret_b HP.out, hb⟩
theorem enters_rd_w : ∀ args w, (callFunc 129 args).run Try.prog w = .ok (.enter 129 args) w := enters_of Try.func129 (by kernel_rfl) rfl
theorem enters_wr_w : ∀ args w, (callFunc 130 args).run Try.prog w = .ok (.enter 130 args) w := enters_of Try.func130 (by kernel_rfl) rfl
set_option maxRecDepth 100000 in
set_option maxHeartbeats 1000000 in
theorem md_readable_w (A : Option Addr) (n c : Nat) (l : List Ar) (B : Value) (t m : Nat) (w : World) (hA : Rd w A (ars l)) (hn : l.length = n) (hok : ∀ x ∈ l, x.ok) (ht : t ≤ 65535) (hm : m ≤ 100000) (hnb : n ≤ 1000000) (hB : ∃ A2 n2 c2, B = .slice A2 n2 c2) :
    Calls Try.prog 127 #[.agg #[.slice A n c, B], .int .i64 (t : Int), .int .i64 (m : Int)] w fun e w' => e = .returned (.bool (readableT l t m)) ∧ Below w.heap.size w w' := by
  obtain ⟨A2, n2, c2, rfl⟩ := hB
  have hb := (Below.refl _ w).alloc (Nat.le_refl _) (.cells #[.slice A n c, .slice A2 n2 c2] 98)
  have bx := Blk.new w 98 #[.slice A n c, .slice A2 n2 c2]
  have E := Lib.hid (md_each 129 #[] enters_rd_w (fun x => x.rd) A n c l t m (w.alloc (.cells #[.slice A n c, .slice A2 n2 c2] 98)) (hA.below hb) hn hok ht hm hnb (fun W x _ => want_rd_w x W))
  rw [show eachA l t m (fun x => x.rd) = readableT l t m from rfl] at E
  generalize readableT l t m = p at *
  clear hn hok
  go_enter Try.func127, Try.ntmps127
  go_upto_region 1 with fail
  generalize w.alloc (.cells #[.slice A n c, .slice A2 n2 c2] 98) = w1 at *
  obtain ⟨d0, d1⟩ := bx.c2
  go_wp2_with fail
  refine E.out.mono ?_
  rintro e w2 ⟨rfl, hs⟩
  go_wp2_with fail
  go_ret
  exact ⟨rfl, bthen hb hs⟩
set_option maxRecDepth 100000 in
set_option maxHeartbeats 1000000 in
theorem md_writable_w (A : Option Addr) (n c : Nat) (l : List Ar) (B : Value) (t m : Nat) (w : World) (hA : Rd w A (ars l)) (hn : l.length = n) (hok : ∀ x ∈ l, x.ok) (ht : t ≤ 65535) (hm : m ≤ 100000) (hnb : n ≤ 1000000) (hB : ∃ A2 n2 c2, B = .slice A2 n2 c2) :
    Calls Try.prog 128 #[.agg #[.slice A n c, B], .int .i64 (t : Int), .int .i64 (m : Int)] w fun e w' => e = .returned (.bool (writableT l t m)) ∧ Below w.heap.size w w' := by
  obtain ⟨A2, n2, c2, rfl⟩ := hB
  have hb := (((Below.refl _ w).alloc (Nat.le_refl _) (.cells #[.slice A n c, .slice A2 n2 c2] 98)).alloc (by simp) (.cells #[.int .i64 (t : Int)] 3)).alloc (by simp; omega) (.cells #[.int .i64 (m : Int)] 3)
  have bx := ((Blk.new w 98 #[.slice A n c, .slice A2 n2 c2]).alloc (.cells #[.int .i64 (t : Int)] 3)).alloc (.cells #[.int .i64 (m : Int)] 3)
  have bt := (Blk.newAt (w.alloc (.cells #[.slice A n c, .slice A2 n2 c2] 98)) 3 #[.int .i64 (t : Int)] (w.heap.size + 1) (World.size_alloc _ _)).alloc (.cells #[.int .i64 (m : Int)] 3)
  have bm := Blk.newAt ((w.alloc (.cells #[.slice A n c, .slice A2 n2 c2] 98)).alloc (.cells #[.int .i64 (t : Int)] 3)) 3 #[.int .i64 (m : Int)] (w.heap.size + 1 + 1) (by simp [World.size_alloc])
  have hmf : ∀ (fn : Fn) (first cap : Array Value) (w : World), (Instr.makeFunc fn first cap).run Try.prog w = .ok (.func fn first cap) w := fun _ _ _ _ => rfl
  go_enter Try.func128, Try.ntmps128
  go_upto_region 1 with fail
  obtain ⟨g, hg⟩ : ∃ g, w.heap.size = g := ⟨_, rfl⟩
  obtain ⟨g1, hg1⟩ : ∃ g, w.heap.size + 1 = g := ⟨_, rfl⟩
  rw [hg1] at bt bm ⊢
  obtain ⟨g2, hg2⟩ : ∃ g, g1 + 1 = g := ⟨_, rfl⟩
  rw [hg2] at bm ⊢
  rw [hg] at bx ⊢
  generalize ((w.alloc (.cells #[.slice A n c, .slice A2 n2 c2] 98)).alloc (.cells #[.int .i64 (t : Int)] 3)).alloc (.cells #[.int .i64 (m : Int)] 3) = w1 at *
  have E := Lib.hid (md_each 130 #[.pointer (some ⟨g1, 0, none⟩), .pointer (some ⟨g2, 0, none⟩)] enters_wr_w (wantW t m) A n c l t m w1 (hA.below hb) hn hok ht hm hnb (fun W x hW => want_wr_w x t m g1 g2 W ((bt.all hW).cell 0) ((bm.all hW).cell 0)))
  rw [show eachA l t m (wantW t m) = writableT l t m from rfl] at E
  obtain ⟨p, hp⟩ : ∃ p, writableT l t m = p := ⟨_, rfl⟩
  rw [hp] at E
  have HPP := Lib.hid hp
  clear hp
  clear hn hok hg hg1 hg2
  obtain ⟨d0, d1⟩ := bx.c2
  have d2 := bt.c1
  have d3 := bm.c1
  go_wp2_with fail
  refine E.out.mono ?_
  rintro e w2 ⟨rfl, hs⟩
  go_wp2_with fail
  go_ret
  exact ⟨ret_b HPP.out, bthen hb hs⟩
end Go.Proofs.Ytechhidfgheejaa
