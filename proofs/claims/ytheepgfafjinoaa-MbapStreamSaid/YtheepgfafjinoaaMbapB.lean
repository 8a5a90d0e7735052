/- The walk of mbap.first. -/
import Derived.Test.YtheepgfafjinoaaMbapA
import Derived.Test.YtheepgfafjinoaaBlk
namespace Go.Proofs.Ytheepgfafjinoaa
open Go.RowKit
set_option linter.unusedSimpArgs false
set_option linter.unusedVariables false

/-- a frame's value -/
def frV (tx unit : Nat) (A : Option Addr) (n c : Nat) : Value := .agg #[.int .u16 (tx : Int), .int .u8 (unit : Int), .slice A n c]
theorem u16_or8l (x y : Nat) (hx : x < 256) (hy : y < 256) : bits .or .u16 ((x : Int) * 256) (y : Int) = ((x * 256 + y : Nat) : Int) := by
  have h := u16_or_nat (256 * x) y (by omega) (by omega)
  have h2 : 256 * x ||| y = 256 * x + y := by
    rw [show 256 * x = 2 ^ 8 * x from rfl, ← Nat.two_pow_add_eq_or_of_lt (i := 8) hy]
  rw [h2] at h
  have e1 : (x : Int) * 256 = ((256 * x : Nat) : Int) := by omega
  have e2 : ((x * 256 + y : Nat) : Int) = ((256 * x + y : Nat) : Int) := by omega
  rw [e1, e2]
  exact h
theorem Rd.byteAt {w : World} {b off : Nat} {l : List Nat} (h : Rd w (some ⟨b, off, none⟩) (bs l)) (k : Nat) (hk : k < l.length) : w.cell? ⟨b, off + k, none⟩ = some (.int .u8 (l.getD k 0 : Nat)) := by
  obtain ⟨b', off', x, hA, hx, hc⟩ := h.byte hk
  injection hA with hA
  injection hA with h1 h2
  subst h1 h2
  rw [List.getD_eq_getElem?_getD, hx]
  exact hc

set_option maxHeartbeats 1000000 in
theorem mb_first_no (A : Option Addr) (n c : Nat) (l : List Nat) (w : World) (hA : Rd w A (bs l)) (hn : l.length = n) (hl : Bs l) (hm : n ≤ 1000000000) (hno : hasF l = false) :
    Calls Try.prog 49 #[.slice A n c] w fun e w' => e = .returned (.tuple #[frV 0 0 none 0 0, .int .i64 0]) ∧ Below w.heap.size w w' := by
  by_cases h7 : n ≤ 7
  · clear hn
    go_enter Try.func49, Try.ntmps49
    go_wp2_with fail
    refine bodyPost_ret (v := .tuple #[frV 0 0 none 0 0, .int .i64 0]) (by simp [results, Try.results49, go_sem, frV]) rfl ⟨rfl, ?_⟩
    exact (Below.refl _ _).alloc (Nat.le_refl _) _
  · by_cases hb : begF l = true
    · have hh := begF_len hb (by omega)
      have hlt : n < lenF l := by
        rcases Nat.lt_or_ge n (lenF l) with h | h
        · exact h
        · exfalso
          unfold hasF at hno
          rw [hb, decide_eq_true (by omega), decide_eq_true (by omega)] at hno
          cases hno
      obtain ⟨b, off, x, rfl, hx, hcell⟩ := hA.byte (k := 5) (by omega)
      have hxl : lenF l = 6 + x := by unfold lenF; rw [List.getD_eq_getElem?_getD, hx]; rfl
      have hxn : n < 6 + x := by omega
      have hxb := hl.get hx
      have HB := Lib.hid hb
      have HN := Lib.hid hn
      have hcell' := (World.cell?_alloc_lt w (.cells #[.int .u16 0, .int .u8 0, .slice none 0 0] 37) ⟨b, off + 5, none⟩ (World.block_lt_of_cell? w _ hcell)).trans hcell
      clear hx hxl hh hlt hno hb hn
      go_enter Try.func49, Try.ntmps49
      go_wp2_with fail
      refine (mb_begins _ n c l _ (hA.alloc _) HN.out hl hm).mono ?_
      rintro e w1 ⟨rfl, rfl⟩
      rw [HB.out]
      go_wp2_with fail
      refine bodyPost_ret (v := .tuple #[frV 0 0 none 0 0, .int .i64 0]) (by simp [results, Try.results49, go_sem, frV]) rfl ⟨rfl, ?_⟩
      exact (Below.refl _ _).alloc (Nat.le_refl _) _
    · have HB : Hid (begF l = false) := by (show _ = _); simpa using hb
      have HN := Lib.hid hn
      clear hno hb hn
      go_enter Try.func49, Try.ntmps49
      go_wp2_with fail
      refine (mb_begins _ n c l _ (hA.alloc _) HN.out hl hm).mono ?_
      rintro e w1 ⟨rfl, rfl⟩
      rw [HB.out]
      go_wp2_with fail
      refine bodyPost_ret (v := .tuple #[frV 0 0 none 0 0, .int .i64 0]) (by simp [results, Try.results49, go_sem, frV]) rfl ⟨rfl, ?_⟩
      exact (Below.refl _ _).alloc (Nat.le_refl _) _

set_option maxHeartbeats 1000000 in
theorem mb_first_yes (A : Option Addr) (n c : Nat) (l : List Nat) (w : World) (hA : Rd w A (bs l)) (hn : l.length = n) (hl : Bs l) (hm : n ≤ 1000000000) (hc : n ≤ c) (hyes : hasF l = true) :
    Calls Try.prog 49 #[.slice A n c] w fun e w' => ∃ A' c', e = .returned (.tuple #[frV (fstF l).tx (fstF l).unit A' (lenF l - 7) c', .int .i64 (lenF l : Nat)]) ∧ Ow w' w.heap.size 5 A' c' (bs (fstF l).pdu) ∧ Below w.heap.size w w' := by
  have hh := hasF_len hyes
  have hpl := fstF_pdu hyes
  obtain ⟨m, hm7⟩ : ∃ m, lenF l = m := ⟨_, rfl⟩
  obtain ⟨b, off, x5, rfl, hx5, c5⟩ := hA.byte (k := 5) (by omega)
  have c0 := hA.byteAt 0 (by omega)
  have c1 := hA.byteAt 1 (by omega)
  have c6 := hA.byteAt 6 (by omega)
  obtain ⟨x0, e0⟩ : ∃ x0, l.getD 0 0 = x0 := ⟨_, rfl⟩
  obtain ⟨x1, e1⟩ : ∃ x1, l.getD 1 0 = x1 := ⟨_, rfl⟩
  obtain ⟨x6, e6⟩ : ∃ x6, l.getD 6 0 = x6 := ⟨_, rfl⟩
  have b0 := getD_lt hl 0
  have b1 := getD_lt hl 1
  rw [e0] at c0 b0
  rw [e1] at c1 b1
  rw [e6] at c6
  have HF : Hid (fstF l = ⟨x0 * 256 + x1, x6, (l.take m).drop 7⟩) := by (show _ = _); unfold fstF; rw [e0, e1, e6, hm7]
  have hm5 : m = 6 + x5 := by rw [← hm7]; unfold lenF; rw [List.getD_eq_getElem?_getD, hx5]; rfl
  subst hm5
  have hA' : Rd w (some ⟨b, off + 7, none⟩) (bs ((l.take (6 + x5)).drop 7)) := by rw [bs_drop]; exact (hA.btake (6 + x5)).shift 7
  have hm8 : 2 ≤ x5 := by omega
  have hmn : 6 + x5 ≤ n := by omega
  have HN := Lib.hid hn
  have HM := Lib.hid hm7
  have HB := Lib.hid hh.2.2.2
  have hblk : b < w.heap.size := World.block_lt_of_cell? w _ c0
  have hxb := hl.get hx5
  clear hn hm7 hh hyes hx5 e0 e1 e6 hpl
  go_enter Try.func49, Try.ntmps49
  go_wp2_with fail
  refine (mb_begins _ n c l _ (hA.alloc _) HN.out hl hm).mono ?_
  rintro e w1 ⟨rfl, rfl⟩
  rw [HB.out]
  obtain ⟨N, hN⟩ : ∃ N, w.heap.size = N := ⟨_, rfl⟩
  have hwN : w.heap.size ≤ N := by omega
  have bx := Blk.newAt w 37 #[.int .u16 0, .int .u8 0, .slice none 0 0] N hN
  have hb1 := (Below.refl _ w).alloc (Nat.le_refl _) (.cells #[.int .u16 0, .int .u8 0, .slice none 0 0] 37)
  have hs1 : (w.alloc (.cells #[.int .u16 0, .int .u8 0, .slice none 0 0] 37)).heap.size = N + 1 := by simp [hN]
  rw [hN]
  generalize w.alloc (.cells #[.int .u16 0, .int .u8 0, .slice none 0 0] 37) = w1 at *
  have HS1 := Lib.hid hs1
  clear hs1 hN
  have d5 := (hb1.cell (p := ⟨b, off + 5, none⟩) hblk).trans c5
  have hsub : 6 + (x5 : Int) - 7 = ((x5 - 1 : Nat) : Int) := by omega
  go_wp2_with (first
    | (with_reducible refine cpy_b rfl (.tmp 28) (.tmp 31) rfl w hb2 _ _ _ _ rfl ho2 (by simp) _ _ _ ((l.take (6 + x5)).drop 7) rfl hA2 (by simp; rw [HN.out]; omega) ?_; intro w3 ho3 hb3 hsz3 hg3)
    | (at_make; refine mkn_b rfl _ _ rfl w hb1 _ _ _ _ (x5 - 1) rfl rfl rfl rfl (by omega) ?_; intro w2 ho2 hb2 hg2 hsz2; have hA2 := hA'.below hb2))
  have bx3 := (bx.grown hg2 (by simp)).grown hg3 (by simp [Value.ownBlock]; have := HS1.out; omega)
  have k0 := (hb3.cell (p := ⟨b, off, none⟩) hblk).trans c0
  have k1 := (hb3.cell (p := ⟨b, off + 1, none⟩) hblk).trans c1
  have k6 := (hb3.cell (p := ⟨b, off + 6, none⟩) hblk).trans c6
  have d0 := bx3.cell 0
  have d1 := bx3.cell 1
  have d2 := bx3.cell 2
  have q0 := bx3.frozen 0
  have q1 := bx3.frozen 1
  have q2 := bx3.frozen 2
  simp only [List.getElem?_toArray, List.getElem?_cons_zero, List.getElem?_cons_succ] at d0 d1 d2
  have g1 : IntKind.u16.wrap (x0 : Int) = (x0 : Int) := by rw [IntKind.wrap_u16]; omega
  have g2 : IntKind.u16.wrap (x1 : Int) = (x1 : Int) := by rw [IntKind.wrap_u16]; omega
  have g3 : IntKind.u16.wrap ((x0 : Int) * 256) = (x0 : Int) * 256 := by rw [IntKind.wrap_u16]; omega
  have e1 := u16_or8l x0 x1 b0 b1
  obtain ⟨t, ht⟩ : ∃ t, x0 * 256 + x1 = t := ⟨_, rfl⟩
  rw [ht] at e1
  have HTX := Lib.hid ht
  have f1 : (1 : Int) < (n : Int) := by omega
  have f0 : (0 : Int) < (n : Int) := by omega
  have f6 : (6 : Int) < (n : Int) := by omega
  clear ht d5 c0 c1 c5 c6 hsub
  have hbN : b ≠ N := by omega
  have hNb : N ≠ b := by omega
  have hn0 : 0 < n := by omega
  go_region_held3 (fun w' => w'.cell? ⟨b, off, none⟩ = some (.int .u8 (x0 : Int)) ∧ w'.cell? ⟨b, off + 1, none⟩ = some (.int .u8 (x1 : Int)) ∧ w'.cell? ⟨b, off + 6, none⟩ = some (.int .u8 (x6 : Int))) (go_keep) (fail)
  clear e1 g1 g2 g3 f0 f1 f6
  go_wp2_with fail
  have eT : (fstF l).tx = t := by rw [HF.out]; exact HTX.out
  have eU : (fstF l).unit = x6 := by rw [HF.out]
  have eP : (fstF l).pdu = (l.take (6 + x5)).drop 7 := by rw [HF.out]
  have hlen : ((l.take (6 + x5)).drop 7).length = x5 - 1 := by simp; rw [HN.out]; omega
  have e7 : 6 + x5 - 7 = x5 - 1 := by omega
  rw [HM.out, eT, eU, eP, e7]
  refine bodyPost_ret (v := .tuple #[frV t x6 (some ⟨w1.heap.size, 0, none⟩) (x5 - 1) (x5 - 1), .int .i64 (6 + (x5 : Int))]) (by simp [results, Try.results49, go_sem, frV, d0, d1, d2]) rfl ⟨some ⟨w1.heap.size, 0, none⟩, x5 - 1, ?_, ?_, ?_⟩
  · have : ((6 + x5 : Nat) : Int) = 6 + (x5 : Int) := by omega
    rw [this]
  · have e9 : ((l.take (6 + x5)).drop 7).take (x5 - 1) ++ (List.replicate (x5 - 1) 0).drop (6 + x5 - 7) = (l.take (6 + x5)).drop 7 := by
      rw [List.take_of_length_le (i := x5 - 1) (by omega), List.drop_of_length_le (i := 6 + x5 - 7) (by simp; omega), List.append_nil]
    rw [e9] at ho3
    exact ((ho3.setBlk bx3 (by decide) 0 _).setBlk (bx3.set_ 0 _) (by decide) 1 _).setBlk ((bx3.set_ 0 _).set_ 1 _) (by decide) 2 _
  · exact (((hb3.setCell (p := ⟨N, 0, none⟩) hwN _).setCell (p := ⟨N, 1, none⟩) hwN _).setCell (p := ⟨N, 2, none⟩) hwN _).drew
end Go.Proofs.Ytheepgfafjinoaa
