/- The walks of the reference's queue (saucierref26). -/
import Derived.Test.YtheepgfafjinoaaQueueV
namespace Go.Proofs.Ytheepgfafjinoaa
open Go.RowKit
set_option linter.unusedSimpArgs false
set_option linter.unusedVariables false

/-- a box of three cells and a result's cells behind it -/
structure Box3 (w : World) (N : Nat) (a b c : Value) : Prop where
  h0 : w.cell? ⟨N, 0, none⟩ = some a
  h1 : w.cell? ⟨N, 1, none⟩ = some b
  h2 : w.cell? ⟨N, 2, none⟩ = some c
  f0 : w.frozen? ⟨N, 0, none⟩ = false
  f1 : w.frozen? ⟨N, 1, none⟩ = false
  f2 : w.frozen? ⟨N, 2, none⟩ = false
theorem Box3.lt {w : World} {N : Nat} {a b c : Value} (h : Box3 w N a b c) : N < w.heap.size := World.block_lt_of_cell? w _ h.h0
theorem Box3.below {w w' : World} {N B : Nat} {a b c : Value} (h : Box3 w N a b c) (hb : Below B w w') (hN : N < B) : Box3 w' N a b c :=
  ⟨(hb.cell (p := ⟨N, 0, none⟩) hN).trans h.h0, (hb.cell (p := ⟨N, 1, none⟩) hN).trans h.h1, (hb.cell (p := ⟨N, 2, none⟩) hN).trans h.h2,
   (hb.frozen (p := ⟨N, 0, none⟩) hN).trans h.f0, (hb.frozen (p := ⟨N, 1, none⟩) hN).trans h.f1, (hb.frozen (p := ⟨N, 2, none⟩) hN).trans h.f2⟩
theorem Box3.new (w : World) (t : TypeId) (a b c : Value) : Box3 (w.alloc (.cells #[a, b, c] t)) w.heap.size a b c := by
  constructor <;> simp

set_option maxHeartbeats 1000000 in
theorem r26_Put_arg (A : Option Addr) (n c rm mo tx : Nat) (w : World) (ht : tx ≤ mo) :
    Calls Try.prog 41 #[.agg #[.int .i64 (rm : Int), .slice A n c, .int .u32 (mo : Int)], .int .u32 (tx : Int)] w fun e w' =>
      e = .returned (.tuple #[.agg #[.int .i64 (rm : Int), .slice A n c, .int .u32 (mo : Int)], .int .i64 2]) ∧ Below w.heap.size w w' := by
  have h1 : decide ((tx : Int) ≤ (mo : Int)) = true := by simp; omega
  go_enter Try.func41, Try.ntmps41
  go_wp2_with fail
  refine bodyPost_ret (v := .tuple #[.agg #[.int .i64 (rm : Int), .slice A n c, .int .u32 (mo : Int)], .int .i64 2]) (by simp [results, Try.results41, go_sem]) rfl ⟨rfl, ?_⟩
  exact ((Below.refl _ _).alloc (Nat.le_refl _) _).alloc (by simp) _

set_option maxHeartbeats 1000000 in
theorem r26_Put_full (A : Option Addr) (n c rm mo tx : Nat) (w : World) (ht : mo < tx) (hf : rm ≤ n) :
    Calls Try.prog 41 #[.agg #[.int .i64 (rm : Int), .slice A n c, .int .u32 (mo : Int)], .int .u32 (tx : Int)] w fun e w' =>
      e = .returned (.tuple #[.agg #[.int .i64 (rm : Int), .slice A n c, .int .u32 (mo : Int)], .int .i64 5]) ∧ Below w.heap.size w w' := by
  have h1 : decide ((tx : Int) ≤ (mo : Int)) = false := by simp; omega
  go_enter Try.func41, Try.ntmps41
  go_wp2_with fail
  refine bodyPost_ret (v := .tuple #[.agg #[.int .i64 (rm : Int), .slice A n c, .int .u32 (mo : Int)], .int .i64 5]) (by simp [results, Try.results41, go_sem]) rfl ⟨rfl, ?_⟩
  exact ((Below.refl _ _).alloc (Nat.le_refl _) _).alloc (by simp) _

set_option maxHeartbeats 2000000 in
theorem r26_Put_ok (A : Option Addr) (n c rm mo tx : Nat) (L : List Nat) (w : World) (hA : Rd w A (ds L)) (hn : L.length = n) (ht : mo < tx) (hf : n < rm) (hbig : n ≤ 1000000) :
    Calls Try.prog 41 #[.agg #[.int .i64 (rm : Int), .slice A n c, .int .u32 (mo : Int)], .int .u32 (tx : Int)] w fun e w' =>
      ∃ A' c', e = .returned (.tuple #[.agg #[.int .i64 (rm : Int), .slice A' (n + 1) c', .int .u32 (tx : Int)], .int .i64 0]) ∧ Ow w' w.heap.size 57 A' c' (ds (L ++ [tx])) ∧ Below w.heap.size w w' := by
  have h1 : decide ((tx : Int) ≤ (mo : Int)) = false := by simp; omega
  have h2 : decide (rm ≤ n) = false := by simp; omega
  have h3 : decide (tx ≤ mo) = false := by simp; omega
  have HN := Lib.hid hn
  clear hn
  go_enter Try.func41, Try.ntmps41
  go_wp2_with fail
  obtain ⟨N, hN⟩ : ∃ N, w.heap.size = N := ⟨_, rfl⟩
  have bx := (Box3.new w 59 (.int .i64 (rm : Int)) (.slice A n c) (.int .u32 (mo : Int))).below ((Below.refl _ _).alloc (Nat.le_refl _) (.cells #[.int .i64 0, .slice none 0 0, .int .u32 0] 59)) (by simp)
  have by_ := Box3.new (w.alloc (.cells #[.int .i64 (rm : Int), .slice A n c, .int .u32 (mo : Int)] 59)) 59 (.int .i64 0) (.slice none 0 0) (.int .u32 0)
  have hb2 := ((Below.refl _ w).alloc (Nat.le_refl _) (.cells #[.int .i64 (rm : Int), .slice A n c, .int .u32 (mo : Int)] 59)).alloc (by simp) (.cells #[.int .i64 0, .slice none 0 0, .int .u32 0] 59)
  have hs2 : ((w.alloc (.cells #[.int .i64 (rm : Int), .slice A n c, .int .u32 (mo : Int)] 59)).alloc (.cells #[.int .i64 0, .slice none 0 0, .int .u32 0] 59)).heap.size = w.heap.size + 2 := by simp
  rw [show (w.alloc (.cells #[.int .i64 (rm : Int), .slice A n c, .int .u32 (mo : Int)] 59)).heap.size = w.heap.size + 1 from by simp] at by_
  have hA2 := hA.below hb2
  generalize (w.alloc (.cells #[.int .i64 (rm : Int), .slice A n c, .int .u32 (mo : Int)] 59)).alloc (.cells #[.int .i64 0, .slice none 0 0, .int .u32 0] 59) = w2 at *
  rw [hN] at bx by_ hs2 ⊢
  have hN1 : N < w2.heap.size := by omega
  have hN2 : N + 1 < w2.heap.size := by omega
  have hwN : w.heap.size ≤ N := by omega
  have HS2 := Lib.hid hs2
  clear hN hs2 hA
  go_loopw [6, 7] (fun v i wr => ∃ j : Nat, j ≤ n ∧ i = .int .i64 j ∧ Below w2.heap.size w2 wr ∧ ∃ A6 c6, v = .slice A6 j c6 ∧ Ow wr w2.heap.size 57 A6 c6 (ds (L.take j))) (fun _ i _ => n - (intOf i).toNat)
  case atStart => exact ⟨0, by omega, rfl, Below.refl _ _, none, 0, rfl, Ow.nil⟩
  case round =>
    obtain ⟨j, hj, rfl, hbr, A6, c6, rfl, hor⟩ := hrel
    have bxr := bx.below hbr hN1
    have c1 := bxr.h1
    by_cases hlt : j < n
    · obtain ⟨b, off, x, rfl, hx, hcell⟩ := (hA2.below hbr).dword (k := j) (by rw [HN.out]; exact hlt)
      have HT := Lib.hid (take_snoc hx)
      have HL : Hid ((L.take j).length = j) := by (show _ = _); rw [List.length_take, HN.out]; omega
      have HX : Hid (ds [x] = [.int .u32 (x : Int)]) := rfl
      clear hx
      go_wp2_with (at_builtin; refine app_d rfl _ _ rfl w2 (hbr.alloc hbr.size _) _ _ _ _ rfl (hor.alloc _) HL.out _ 1 1 [x] rfl (Rd.lit _ _ _ HX.out) rfl (by omega) ?_; intro A7 c7 w7 ho7 hb7 hg7)
      go_roundw
      case rel => exact ⟨j + 1, by omega, by go_num, hb7, A7, c7, rfl, by rw [HT.out]; exact ho7⟩
      case measure => simp [intOf]; omega
    · obtain rfl : j = n := by omega
      have HL : Hid ((L.take j).length = j) := by (show _ = _); rw [List.length_take, HN.out]; omega
      have HX : Hid (ds [tx] = [.int .u32 (tx : Int)]) := rfl
      have HT : Hid (L.take j = L) := by (show _ = _); rw [List.take_of_length_le (by rw [HN.out]; exact Nat.le_refl _)]
      clear c1
      have c1 := bxr.h1
      go_wp2_with (at_builtin; refine app_d rfl _ _ rfl w2 (hbr.alloc hbr.size _) _ _ _ _ rfl (hor.alloc _) HL.out _ 1 1 [tx] rfl (Rd.lit _ _ _ HX.out) rfl (by omega) ?_; intro A7 c7 w7 ho7 hb7 hg7; obtain ⟨d0, d1, d2, g0, g1, g2⟩ := bx.below hb7 hN1; obtain ⟨d3, d4, d5, g3, g4, g5⟩ := by_.below hb7 hN2)
      refine bodyPost_ret (v := .tuple #[.agg #[.int .i64 (rm : Int), .slice A7 (j + 1) c7, .int .u32 (tx : Int)], .int .i64 0]) (by simp [results, Try.results41, go_sem, d0, d1, d2, d3, d4, d5]) rfl ⟨A7, c7, rfl, ?_, ?_⟩
      · rw [HT.out] at ho7
        exact (((((ho7.far hN1 _ _).far hN1 _ _).far hN2 _ _).far hN2 _ _).far hN2 _ _).base hb2.size
      · have hb8 := bthen hb2 hb7
        exact ((((hb8.setCell (p := ⟨N, 1, none⟩) hwN _).setCell (p := ⟨N, 2, none⟩) hwN _).setCell (p := ⟨N + 1, 0, none⟩) (Nat.le_succ_of_le hwN) _).setCell (p := ⟨N + 1, 1, none⟩) (Nat.le_succ_of_le hwN) _).setCell (p := ⟨N + 1, 2, none⟩) (Nat.le_succ_of_le hwN) _

theorem filter_snoc (L : List Nat) (tx x : Nat) : (L ++ [x]).filter (fun y => decide (y ≠ tx)) = L.filter (fun y => decide (y ≠ tx)) ++ if x = tx then [] else [x] := by
  rw [List.filter_append]
  by_cases h : x = tx <;> simp [h]
/-- all but tx -/
def without (L : List Nat) (tx : Nat) : List Nat := L.filter (fun y => decide (y ≠ tx))
theorem without_le (L : List Nat) (tx : Nat) : (without L tx).length ≤ L.length := List.length_filter_le _ _

set_option maxHeartbeats 2000000 in
theorem r26_Drop (A : Option Addr) (n c rm mo tx : Nat) (L : List Nat) (w : World) (hA : Rd w A (ds L)) (hn : L.length = n) (hbig : n ≤ 1000000) :
    Calls Try.prog 39 #[.agg #[.int .i64 (rm : Int), .slice A n c, .int .u32 (mo : Int)], .int .u32 (tx : Int)] w fun e w' =>
      ∃ A' c', e = .returned (.tuple #[.agg #[.int .i64 (rm : Int), .slice A' (without L tx).length c', .int .u32 (mo : Int)], .bool (decide ((without L tx).length < n))]) ∧ Ow w' w.heap.size 57 A' c' (ds (without L tx)) ∧ Below w.heap.size w w' := by
  have HN := Lib.hid hn
  clear hn
  go_enter Try.func39, Try.ntmps39
  go_wp2_with fail
  obtain ⟨N, hN⟩ : ∃ N, w.heap.size = N := ⟨_, rfl⟩
  have bx := (Box3.new w 59 (.int .i64 (rm : Int)) (.slice A n c) (.int .u32 (mo : Int))).below ((Below.refl _ _).alloc (Nat.le_refl _) (.cells #[.int .i64 0, .slice none 0 0, .int .u32 0] 59)) (by simp)
  have by_ := Box3.new (w.alloc (.cells #[.int .i64 (rm : Int), .slice A n c, .int .u32 (mo : Int)] 59)) 59 (.int .i64 0) (.slice none 0 0) (.int .u32 0)
  have hb2 := ((Below.refl _ w).alloc (Nat.le_refl _) (.cells #[.int .i64 (rm : Int), .slice A n c, .int .u32 (mo : Int)] 59)).alloc (by simp) (.cells #[.int .i64 0, .slice none 0 0, .int .u32 0] 59)
  have hs2 : ((w.alloc (.cells #[.int .i64 (rm : Int), .slice A n c, .int .u32 (mo : Int)] 59)).alloc (.cells #[.int .i64 0, .slice none 0 0, .int .u32 0] 59)).heap.size = w.heap.size + 2 := by simp
  rw [show (w.alloc (.cells #[.int .i64 (rm : Int), .slice A n c, .int .u32 (mo : Int)] 59)).heap.size = w.heap.size + 1 from by simp] at by_
  have hA2 := hA.below hb2
  generalize (w.alloc (.cells #[.int .i64 (rm : Int), .slice A n c, .int .u32 (mo : Int)] 59)).alloc (.cells #[.int .i64 0, .slice none 0 0, .int .u32 0] 59) = w2 at *
  rw [hN] at bx by_ hs2 ⊢
  have hN1 : N < w2.heap.size := by omega
  have hN2 : N + 1 < w2.heap.size := by omega
  have hwN : w.heap.size ≤ N := by omega
  clear hN hs2 hA
  go_loopw [6, 7] (fun v i wr => ∃ j : Nat, j ≤ n ∧ i = .int .i64 j ∧ Below w2.heap.size w2 wr ∧ ∃ A6 m6 c6, v = .slice A6 m6 c6 ∧ (without (L.take j) tx).length = m6 ∧ Ow wr w2.heap.size 57 A6 c6 (ds (without (L.take j) tx))) (fun _ i _ => n - (intOf i).toNat)
  case atStart => exact ⟨0, by omega, rfl, Below.refl _ _, none, 0, 0, rfl, rfl, Ow.nil⟩
  case round =>
    obtain ⟨j, hj, rfl, hbr, A6, m6, c6, rfl, hm6, hor⟩ := hrel
    have HM6 := Lib.hid hm6
    have hm6n : m6 ≤ 1000000 := by
      have h1 := without_le (L.take j) tx
      have h2 : (L.take j).length ≤ j := by rw [List.length_take]; omega
      omega
    clear hm6
    have bxr := bx.below hbr hN1
    have c1 := bxr.h1
    by_cases hlt : j < n
    · obtain ⟨b, off, x, rfl, hx, hcell⟩ := (hA2.below hbr).dword (k := j) (by rw [HN.out]; exact hlt)
      have HT := Lib.hid (take_snoc hx)
      have HX : Hid (ds [x] = [.int .u32 (x : Int)]) := rfl
      clear hx
      by_cases hxt : x = tx
      · have b3 : ((x : Int) != (tx : Int)) = false := by simp only [bne_eq_false_iff_eq]; omega
        have HF : Hid (without (L.take (j + 1)) tx = without (L.take j) tx) := by (show _ = _); unfold without; rw [HT.out, filter_snoc, if_pos hxt, List.append_nil]
        clear hxt
        go_wp2_with fail
        go_roundw
        case rel => exact ⟨j + 1, by omega, by go_num, hbr, A6, m6, c6, rfl, by rw [HF.out]; exact HM6.out, by rw [HF.out]; exact hor⟩
        case measure => simp [intOf]; omega
      · have b3 : ((x : Int) != (tx : Int)) = true := by simp only [bne_iff_ne]; omega
        have HF : Hid (without (L.take (j + 1)) tx = without (L.take j) tx ++ [x]) := by (show _ = _); unfold without; rw [HT.out, filter_snoc, if_neg hxt]
        clear hxt
        go_wp2_with (at_builtin; refine app_d rfl _ _ rfl w2 (hbr.alloc hbr.size _) _ _ _ _ rfl (hor.alloc _) HM6.out _ 1 1 [x] rfl (Rd.lit _ _ _ HX.out) rfl (by omega) ?_; intro A7 c7 w7 ho7 hb7 hg7)
        go_roundw
        case rel => exact ⟨j + 1, by omega, by go_num, hb7, A7, m6 + 1, c7, rfl, by rw [HF.out, List.length_append, HM6.out]; rfl, by rw [HF.out]; exact ho7⟩
        case measure => simp [intOf]; omega
    · obtain rfl : j = n := by omega
      have HT : Hid (L.take j = L) := by (show _ = _); rw [List.take_of_length_le (by rw [HN.out]; exact Nat.le_refl _)]
      obtain ⟨d0, d1, d2, g0, g1, g2⟩ := bxr
      obtain ⟨d3, d4, d5, g3, g4, g5⟩ := by_.below hbr hN2
      clear c1
      go_wp2_with fail
      refine bodyPost_ret (v := .tuple #[.agg #[.int .i64 (rm : Int), .slice A6 m6 c6, .int .u32 (mo : Int)], .bool (decide (m6 < j))]) (by simp [results, Try.results39, go_sem, d0, d1, d2, d3, d4, d5]) rfl ⟨A6, c6, ?_, ?_, ?_⟩
      · have := HM6.out
        rw [HT.out] at this
        rw [this]
      · rw [HT.out] at hor
        exact ((((hor.far hN1 _ _).far hN2 _ _).far hN2 _ _).far hN2 _ _).base hb2.size
      · have hb8 := bthen hb2 hbr
        exact (((hb8.setCell (p := ⟨N, 1, none⟩) hwN _).setCell (p := ⟨N + 1, 0, none⟩) (Nat.le_succ_of_le hwN) _).setCell (p := ⟨N + 1, 1, none⟩) (Nat.le_succ_of_le hwN) _).setCell (p := ⟨N + 1, 2, none⟩) (Nat.le_succ_of_le hwN) _
end Go.Proofs.Ytheepgfafjinoaa
