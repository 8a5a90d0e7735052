/- Replies: reply.Right, reply.Bytes, reply.Parse (written by gen_rpe.py). -/
import Derived.Test.YtechhidfgheejaaRpD
namespace Go.Proofs.Ytechhidfgheejaa
open Go.RowKit
set_option linter.unusedSimpArgs false
set_option linter.unusedVariables false
theorem meth_right (k : Kd) (W : World) : (method 273 k.ty k.v "saucier/reply.right").run Try.prog W = .ok (k.fright, k.v) W := by
  cases k <;> kernel_rfl
theorem entr_right (k : Kd) (args : Array Value) (W : World) : (callFunc k.fright args).run Try.prog W = .ok (.enter k.fright args) W := by
  cases k <;> kernel_rfl
theorem meth_write (k : Kd) (W : World) : (method 273 k.ty k.v "saucier/reply.write").run Try.prog W = .ok (k.fwrite, k.v) W := by
  cases k <;> kernel_rfl
theorem entr_write (k : Kd) (args : Array Value) (W : World) : (callFunc k.fwrite args).run Try.prog W = .ok (.enter k.fwrite args) W := by
  cases k <;> kernel_rfl
theorem meth_read (k : Kd) (W : World) : (method 273 k.ty k.v "saucier/reply.read").run Try.prog W = .ok (k.fread, k.v) W := by
  cases k <;> kernel_rfl
theorem entr_read (k : Kd) (args : Array Value) (W : World) : (callFunc k.fread args).run Try.prog W = .ok (.enter k.fread args) W := by
  cases k <;> kernel_rfl
theorem readK_ok {k : Kd} {l : List Nat} (hl : Bs l) : (readK k l).ok := by
  have h0 := getD_lt hl 0
  have h1 := getD_lt hl 1
  have p0 := pw_lt hl 0
  have p1 := pw_lt hl 1
  have hz : Rp.zero.ok := ⟨by decide, by decide, (by intro x hx; cases hx), by decide, by decide⟩
  have hnil : Ws [] := by intro x hx; cases hx
  cases k with
  | exc => exact ⟨by simp only [readK, wrongR]; omega, by simpa only [readK, wrongR] using h1, hnil, by simp [readK, wrongR], by simp [readK, wrongR]⟩
  | bl => exact ⟨h0, by simp [readK], hnil, by simp [readK], by simp [readK]⟩
  | wl => exact ⟨h0, by simp [readK], pairs_Ws (hl.drop 2), by simp [readK], by simp [readK]⟩
  | ob =>
    simp only [readK]
    split
    · exact hz
    · exact ⟨h0, by simp, hnil, p0, by simp⟩
  | ow =>
    simp only [readK]
    split
    · exact hz
    · exact ⟨h0, by simp, by intro x hx; simp at hx; rw [hx]; exact p1, p0, by simp⟩
  | ct m =>
    simp only [readK]
    split
    · exact hz
    · exact ⟨h0, by simp, hnil, p0, p1⟩
theorem readK_len (k : Kd) (l : List Nat) : (readK k l).words.length ≤ l.length + 1 ∧ (readK k l).bits.length ≤ 8 * l.length + 1 := by
  cases k with
  | exc => simp [readK, wrongR]
  | bl => simp only [readK, unpk_length, List.length_drop, List.length_nil]; omega
  | wl => simp only [readK, pairs_length, List.length_drop, List.length_nil]; omega
  | ob => simp only [readK]; split <;> simp [Rp.zero]
  | ow => simp only [readK]; split <;> simp [Rp.zero]
  | ct m => simp only [readK]; split <;> simp [Rp.zero]
theorem writeK_Bs {k : Kd} {r : Rp} (hok : r.ok) (hr : rightK k r = true) : Bs (writeK k r) := by
  have hf := hok.fn
  have hx := hok.ex
  cases k with
  | exc => simp only [writeK]; intro y hy; simp at hy; omega
  | bl =>
    simp only [rightK, Bool.and_eq_true, decide_eq_true_eq] at hr
    have := pk_length r.bits
    refine Bs.append ?_ (pk_Bs _)
    intro y hy; simp at hy; omega
  | wl =>
    simp only [rightK, Bool.and_eq_true, decide_eq_true_eq] at hr
    refine Bs.append ?_ (nums_Bs hok.words)
    intro y hy; simp at hy; omega
  | ob =>
    refine Bs.append ?_ (nums_Bs ?_)
    · intro y hy; simp at hy; omega
    · intro y hy; have := hok.at_; simp at hy; rcases hy with h | h <;> subst h
      · omega
      · split <;> omega
  | ow =>
    simp only [rightK, Bool.and_eq_true, decide_eq_true_eq] at hr
    obtain ⟨x, hx1⟩ := List.length_eq_one_iff.1 hr.1
    have hxb : x < 65536 := hok.words x (by rw [hx1]; simp)
    refine Bs.append ?_ (nums_Bs ?_)
    · intro y hy; simp at hy; omega
    · rw [hx1]; intro y hy; have := hok.at_; simp at hy; omega
  | ct m =>
    refine Bs.append ?_ (nums_Bs ?_)
    · intro y hy; simp at hy; omega
    · intro y hy; have := hok.at_; have := hok.many; simp at hy; omega
theorem bytesR_Bs {r : Rp} (hok : r.ok) (hr : rightR r = true) : Bs (bytesR r) := by
  obtain ⟨k, hk, h⟩ := rightR_some hr
  rw [bytesR_of hk h]; exact writeK_Bs hok h
set_option maxRecDepth 100000 in
set_option maxHeartbeats 2000000 in
theorem reply_Right (r : Rp) (A : Option Addr) (c : Nat) (B : Option Addr) (d : Nat) (w : World) (hR : RpR w r A B) (hok : r.ok) (hw : r.words.length ≤ 1000000) (hk : r.bits.length ≤ 1000000) :
    Calls Try.prog 43 #[r.v A c B d] w fun e w' => e = .returned (.bool (rightR r)) ∧ Below w.heap.size w w' := by
  have E1 := Lib.hid (fun W => reply_kindOf r A c B d W hok)
  obtain ⟨k, hkr⟩ : ∃ k, kindR r = k := ⟨_, rfl⟩
  rw [hkr] at E1
  have HKR := Lib.hid hkr
  clear hkr
  have hkk := hk
  unfold Rp.v rpV at E1 ⊢
  have hb := (Below.refl w.heap.size w).alloc (Nat.le_refl _) (.cells #[.int .u8 (r.fn : Int), .int .u8 (r.ex : Int), .slice B r.bits.length d, .slice A r.words.length c, .int .u16 (r.at_ : Int), .int .u16 (r.many : Int)] 36)
  have bx := Blk.new w 36 #[.int .u8 (r.fn : Int), .int .u8 (r.ex : Int), .slice B r.bits.length d, .slice A r.words.length c, .int .u16 (r.at_ : Int), .int .u16 (r.many : Int)]
  go_enter Try.func43, Try.ntmps43
  go_upto_region 1 with fail
  generalize w.alloc (.cells #[.int .u8 (r.fn : Int), .int .u8 (r.ex : Int), .slice B r.bits.length d, .slice A r.words.length c, .int .u16 (r.at_ : Int), .int .u16 (r.many : Int)] 36) = w1 at *
  obtain ⟨g, hg⟩ : ∃ g, w.heap.size = g := ⟨_, rfl⟩
  rw [hg] at bx ⊢
  clear hg
  obtain ⟨d0, d1, d2, d3, d4, d5⟩ := bx.c6
  cases k with
  | none =>
    unfold tellK kdI at E1
    go_wp2_with fail
    refine (E1.out _).mono ?_
    rintro e w2 ⟨rfl, hs⟩
    go_wp2_with fail
    go_ret
    exact ⟨ret_bool (by unfold rightR; rw [HKR.out]), bthen hb hs⟩
  | some k =>
    unfold tellK kdI at E1
    simp only [Option.isSome_some] at E1
    have M1 := meth_right k
    have M2 := entr_right k
    have HV : Hid (rightR r = rightK k r) := rightR_of HKR.out
    have E2 := Lib.hid (fun W h => right_any k (kindR_ok HKR.out) r A c B d W h hok hw hk)
    unfold Rp.v rpV at E2
    go_wp2_with fail
    refine (E1.out _).mono ?_
    rintro e w2 ⟨rfl, hs⟩
    replace hb := bthen hb hs
    replace bx := bx.all hs
    clear hs d0 d1 d2 d3 d4 d5
    obtain ⟨d0, d1, d2, d3, d4, d5⟩ := bx.c6
    go_wp2_with fail
    refine (E2.out _ (hR.below hb)).mono ?_
    rintro e w3 ⟨rfl, hs⟩
    go_wp2_with fail
    go_ret
    exact ⟨ret_bool (by rw [HV.out]), bthen hb hs⟩

set_option maxRecDepth 100000 in
set_option maxHeartbeats 2000000 in
theorem reply_Bytes (r : Rp) (A : Option Addr) (c : Nat) (B : Option Addr) (d : Nat) (w : World) (hR : RpR w r A B) (hok : r.ok) (hw : r.words.length ≤ 1000000) (hk : r.bits.length ≤ 1000000) :
    Calls Try.prog 40 #[r.v A c B d] w fun e w' => ∃ A' c', e = .returned (.tuple #[.slice A' (bytesR r).length c', .int .i64 (errR r : Nat)]) ∧ Ow w' w.heap.size 5 A' c' (bs (bytesR r)) ∧ Below w.heap.size w w' := by
  have E1 := Lib.hid (fun W => reply_kindOf r A c B d W hok)
  obtain ⟨k, hkr⟩ : ∃ k, kindR r = k := ⟨_, rfl⟩
  rw [hkr] at E1
  have HKR := Lib.hid hkr
  clear hkr
  unfold Rp.v rpV at E1 ⊢
  have hb := (Below.refl w.heap.size w).alloc (Nat.le_refl _) (.cells #[.int .u8 (r.fn : Int), .int .u8 (r.ex : Int), .slice B r.bits.length d, .slice A r.words.length c, .int .u16 (r.at_ : Int), .int .u16 (r.many : Int)] 36)
  have bx := Blk.new w 36 #[.int .u8 (r.fn : Int), .int .u8 (r.ex : Int), .slice B r.bits.length d, .slice A r.words.length c, .int .u16 (r.at_ : Int), .int .u16 (r.many : Int)]
  go_enter Try.func40, Try.ntmps40
  go_upto_region 1 with fail
  generalize w.alloc (.cells #[.int .u8 (r.fn : Int), .int .u8 (r.ex : Int), .slice B r.bits.length d, .slice A r.words.length c, .int .u16 (r.at_ : Int), .int .u16 (r.many : Int)] 36) = w1 at *
  obtain ⟨g, hg⟩ : ∃ g, w.heap.size = g := ⟨_, rfl⟩
  rw [hg] at bx ⊢
  clear hg
  obtain ⟨d0, d1, d2, d3, d4, d5⟩ := bx.c6
  cases k with
  | none =>
    have H1 : Hid (bytesR r = []) := by (show _ = _); unfold bytesR; rw [HKR.out]
    have H2 : Hid (errR r = 13) := by (show _ = _); unfold errR rightR; rw [HKR.out]; rfl
    unfold tellK kdI at E1
    go_wp2_with fail
    refine (E1.out _).mono ?_
    rintro e w2 ⟨rfl, hs⟩
    go_wp2_with fail
    go_ret2
    exact ⟨none, 0, by rw [H1.out, H2.out]; rfl, by rw [H1.out]; exact Ow.nil, bthen hb hs⟩
  | some k =>
    unfold tellK kdI at E1
    simp only [Option.isSome_some] at E1
    have M1 := meth_right k
    have M2 := entr_right k
    have M3 := meth_write k
    have M4 := entr_write k
    have HV : Hid (rightR r = rightK k r) := rightR_of HKR.out
    have E2 := Lib.hid (fun W h => right_any k (kindR_ok HKR.out) r A c B d W h hok hw hk)
    have E3 := Lib.hid (fun W h => write_any k (kindR_ok HKR.out) r A c B d W h hok)
    unfold Rp.v rpV at E2 E3
    have HB : Hid (rightK k r = true → bytesR r = writeK k r) := fun h => bytesR_of HKR.out h
    obtain ⟨y, hy⟩ : ∃ y, rightK k r = y := ⟨_, rfl⟩
    rw [hy] at E2
    have HY := Lib.hid hy
    clear hy
    go_wp2_with fail
    refine (E1.out _).mono ?_
    rintro e w2 ⟨rfl, hs⟩
    replace hb := bthen hb hs
    replace bx := bx.all hs
    clear hs d0 d1 d2 d3 d4 d5
    obtain ⟨d0, d1, d2, d3, d4, d5⟩ := bx.c6
    go_wp2_with fail
    refine (E2.out _ (hR.below hb)).mono ?_
    rintro e w3 ⟨rfl, hs⟩
    replace hb := bthen hb hs
    replace bx := bx.all hs
    clear hs d0 d1 d2 d3 d4 d5
    obtain ⟨d0, d1, d2, d3, d4, d5⟩ := bx.c6
    cases y with
    | false =>
      have h0 : rightR r = false := by rw [HV.out]; exact HY.out
      have H1 : Hid (bytesR r = []) := bytesR_not h0
      have H2 : Hid (errR r = 13) := by (show _ = _); unfold errR; rw [if_neg (by simp [h0])]
      clear h0
      go_wp2_with fail
      go_ret2
      exact ⟨none, 0, by rw [H1.out, H2.out]; rfl, by rw [H1.out]; exact Ow.nil, hb⟩
    | true =>
      have h0 : rightR r = true := by rw [HV.out]; exact HY.out
      have H2 : Hid (errR r = 0) := by (show _ = _); unfold errR; rw [if_pos h0]
      have H1 : Hid (bytesR r = writeK k r) := HB.out HY.out
      clear h0
      go_wp2_with fail
      refine (E3.out _ (hR.below hb) HY.out).mono ?_
      rintro e w4 ⟨A4, n4, c4, rfl, HL, -, o4, hs⟩
      go_wp2_with fail
      go_ret2
      exact ⟨A4, c4, by rw [H1.out, H2.out, HL.out]; rfl, by rw [H1.out]; exact o4.base hb.size, bthen hb hs⟩

/-- what is told of bytes: a reply in memory of its own, or none -/
def ToldP (w : World) (r : Option Rp) (e : Ending) (w' : World) : Prop :=
  match r with
  | none => e = .returned (.tuple #[Rp.zero.v none 0 none 0, .int .i64 13]) ∧ Below w.heap.size w w'
  | some r => ∃ A c B d, e = .returned (.tuple #[r.v A c B d, .int .i64 0]) ∧ RdN w.heap.size w' A (ws r.words) ∧ RdN w.heap.size w' B (os r.bits) ∧ Below w.heap.size w w'
set_option maxRecDepth 100000 in
set_option maxHeartbeats 4000000 in
theorem reply_Parse (A : Option Addr) (n c : Nat) (l : List Nat) (w : World) (hA : Rd w A (bs l)) (hn : l.length = n) (hl : Bs l) (hnc : n ≤ c) (hbig : n ≤ 1000000000) :
    Calls Try.prog 14 #[.slice A n c] w fun e w' => ToldP w (parseR l) e w' := by
  have HW : Hid (parseR l = if l.length < 2 ∨ 253 < l.length then none else (kindL (l.getD 0 0)).bind fun k => if rightK k (readK k l) && sameB (writeK k (readK k l)) l then some (readK k l) else none) := rfl
  generalize parseR l = p at *
  have HN := Lib.hid hn
  have hb := (Below.refl w.heap.size w).alloc (Nat.le_refl _) (.cells #[.int .u8 0, .int .u8 0, .slice none 0 0, .slice none 0 0, .int .u16 0, .int .u16 0] 36)
  have bz := Blk.new w 36 #[.int .u8 0, .int .u8 0, .slice none 0 0, .slice none 0 0, .int .u16 0, .int .u16 0]
  obtain ⟨g, hg⟩ : ∃ g, w.heap.size = g := ⟨_, rfl⟩
  have hwg : w.heap.size ≤ g := by omega
  clear hn
  go_enter Try.func14, Try.ntmps14
  go_upto_region 1 with fail
  rw [hg] at bz
  (try rw [hg])
  clear hg
  generalize w.alloc (.cells #[.int .u8 0, .int .u8 0, .slice none 0 0, .slice none 0 0, .int .u16 0, .int .u16 0] 36) = w1 at *
  by_cases h2 : n < 2 ∨ 253 < n
  · have HR : Hid (p = none) := by (show _ = _); rw [HW.out, HN.out, if_pos h2]
    obtain ⟨z0, z1, z2, z3, z4, z5⟩ := bz.c6
    have q0 := bz.frozen 0
    have q1 := bz.frozen 1
    have q2 := bz.frozen 2
    have q3 := bz.frozen 3
    have q4 := bz.frozen 4
    have q5 := bz.frozen 5
    have hc : decide ((n : Int) < 2) = true ∨ (decide ((n : Int) < 2) = false ∧ decide ((253 : Int) < (n : Int)) = true) := by
      by_cases h : n < 2
      · left; exact decide_eq_true (by omega)
      · right; exact ⟨decide_eq_false (by omega), decide_eq_true (by omega)⟩
    clear h2
    rcases hc with v1 | ⟨v1, v2⟩
    all_goals
      go_wp2_with fail
      refine bodyPost_ret (v := .tuple #[.agg #[.int .u8 0, .int .u8 0, .slice none 0 0, .slice none 0 0, .int .u16 0, .int .u16 0], .int .i64 13]) (by simp [results, Try.results14, go_sem, z0, z1, z2, z3, z4, z5]) rfl ?_
      rw [HR.out]
      exact ⟨rfl, bset6 hb hwg _ _ _ _ _ _⟩
  have v1 : decide ((n : Int) < 2) = false := decide_eq_false (by omega)
  have v2 : decide ((253 : Int) < (n : Int)) = false := decide_eq_false (by omega)
  have hn2 : 2 ≤ n := by omega
  have hn3 : n ≤ 253 := by omega
  obtain ⟨bb, off, f, rfl, hx, cx⟩ := hA.byte (k := 0) (by rw [HN.out]; omega)
  rw [Nat.add_zero] at cx
  have hblk : bb < w.heap.size := World.block_lt_of_cell? w _ cx
  have hf := hl.get hx
  have HX : Hid (l.getD 0 0 = f) := getD_of hx
  have hn0 : 0 < n := by omega
  have cx1 := (hb.cell (p := ⟨bb, off, none⟩) hblk).trans cx
  have hA1 := hA.below hb
  have HW2 : Hid (p = (kindL f).bind fun k => if rightK k (readK k l) && sameB (writeK k (readK k l)) l then some (readK k l) else none) := by (show _ = _); rw [HW.out, HN.out, if_neg h2, HX.out]
  clear HW h2 hx
  have EF := Lib.hid (fun W => reply_find f W hf)
  obtain ⟨fk, hfk⟩ : ∃ k, findK f = k := ⟨_, rfl⟩
  rw [hfk] at EF
  have HFK := Lib.hid hfk
  clear hfk
  have hgw1 : g < w1.heap.size := bz.lt
  have hw01 : w.heap.size ≤ w1.heap.size := hb.size
  by_cases h128 : f < 128
  · have v3 : decide ((f : Int) < 128) = true := decide_eq_true (by omega)
    have HKF : Hid (kindL f = findK f) := by (show _ = _); unfold kindL; rw [if_pos h128]
    clear h128
    cases fk with
    | none =>
      unfold tellK kdI at EF
      have HR : Hid (p = none) := by (show _ = _); rw [HW2.out, HKF.out, HFK.out]; rfl
      obtain ⟨z0, z1, z2, z3, z4, z5⟩ := bz.c6
      have q0 := bz.frozen 0
      have q1 := bz.frozen 1
      have q2 := bz.frozen 2
      have q3 := bz.frozen 3
      have q4 := bz.frozen 4
      have q5 := bz.frozen 5
      go_wp2_with fail
      refine (EF.out _).mono ?_
      rintro e w2 ⟨rfl, rfl⟩
      go_wp2_with fail
      refine bodyPost_ret (v := .tuple #[.agg #[.int .u8 0, .int .u8 0, .slice none 0 0, .slice none 0 0, .int .u16 0, .int .u16 0], .int .i64 13]) (by simp [results, Try.results14, go_sem, z0, z1, z2, z3, z4, z5]) rfl ?_
      rw [HR.out]
      exact ⟨rfl, bset6 hb hwg _ _ _ _ _ _⟩
    | some k =>
      unfold tellK kdI at EF
      simp only [Option.isSome_some] at EF
      have HKL : Hid (kindL f = some k) := by (show _ = _); rw [HKF.out, HFK.out]
      have HKO : Hid k.ok := findK_ok HFK.out
      have hko := HKO.out
      have M1 := meth_right k
      have M2 := entr_right k
      have M3 := meth_write k
      have M4 := entr_write k
      have M5 := meth_read k
      have M6 := entr_read k
      have E5 := Lib.hid (fun W h => read_any k hko (some ⟨bb, off, none⟩) n c l W h HN.out hl hnc hn2 (by omega))
      have hrok := readK_ok (k := k) hl
      have hrl := readK_len k l
      rw [HN.out] at hrl
      obtain ⟨r, hr⟩ : ∃ r, readK k l = r := ⟨_, rfl⟩
      have HR1 : Hid (p = if rightK k r && sameB (writeK k r) l then some r else none) := by (show _ = _); rw [HW2.out, HKL.out, Option.bind_some, hr]
      rw [hr] at E5 hrok hrl
      clear hr HW2 HKO
      obtain ⟨hrl1, hrl2⟩ := hrl
      go_wp2_with fail
      refine (EF.out _).mono ?_
      rintro e wq ⟨rfl, rfl⟩
      go_wp2_with fail
      refine (E5.out _ hA1).mono ?_
      rintro e w2 ⟨Ax, cx', Bx, dx, he, rx, ry, hs⟩
      simp only [Rp.v, rpV] at he
      subst he
      replace hb := bthen hb hs
      replace bz := bz.all hs
      have hww : w.heap.size ≤ w1.heap.size := by omega
      have hg1 : g < w1.heap.size := hgw1
      clear hs cx1 hA1
      have E2 := Lib.hid (fun W h => right_any k hko r Ax cx' Bx dx W h hrok (by omega) (by omega))
      have E3 := Lib.hid (fun W h => write_any k hko r Ax cx' Bx dx W h hrok)
      unfold Rp.v rpV at E2 E3
      have HWB : Hid (rightK k r = true → Bs (writeK k r)) := fun h => writeK_Bs hrok h
      obtain ⟨y, hy⟩ : ∃ y, rightK k r = y := ⟨_, rfl⟩
      rw [hy] at E2
      have HY := Lib.hid hy
      clear hy
      have bx := Blk.new w2 36 #[.int .u8 (r.fn : Int), .int .u8 (r.ex : Int), .slice Bx r.bits.length dx, .slice Ax r.words.length cx', .int .u16 (r.at_ : Int), .int .u16 (r.many : Int)]
      have hs := (Below.refl w2.heap.size w2).alloc (Nat.le_refl _) (.cells #[.int .u8 (r.fn : Int), .int .u8 (r.ex : Int), .slice Bx r.bits.length dx, .slice Ax r.words.length cx', .int .u16 (r.at_ : Int), .int .u16 (r.many : Int)] 36)
      go_upto_region 10 with fail
      generalize w2.alloc (.cells #[.int .u8 (r.fn : Int), .int .u8 (r.ex : Int), .slice Bx r.bits.length dx, .slice Ax r.words.length cx', .int .u16 (r.at_ : Int), .int .u16 (r.many : Int)] 36) = w3 at *
      obtain ⟨g3, hg3⟩ : ∃ g, w2.heap.size = g := ⟨_, rfl⟩
      rw [hg3] at bx ⊢
      clear hg3
      replace hb := bthen hb hs
      replace bz := bz.all hs
      replace rx := rx.below hs
      replace ry := ry.below hs
      clear hs
      obtain ⟨d0, d1, d2, d3, d4, d5⟩ := bx.c6
      go_wp2_with fail
      refine (E2.out _ ⟨rx.rd, ry.rd⟩).mono ?_
      rintro e w4 ⟨rfl, hs⟩
      replace hb := bthen hb hs
      replace bz := bz.all hs
      replace bx := bx.all hs
      replace rx := rx.below hs
      replace ry := ry.below hs
      clear hs d0 d1 d2 d3 d4 d5
      obtain ⟨d0, d1, d2, d3, d4, d5⟩ := bx.c6
      cases y with
      | false =>
        have HR : Hid (p = none) := by (show _ = _); rw [HR1.out, HY.out]; rfl
        obtain ⟨z0, z1, z2, z3, z4, z5⟩ := bz.c6
        have q0 := bz.frozen 0
        have q1 := bz.frozen 1
        have q2 := bz.frozen 2
        have q3 := bz.frozen 3
        have q4 := bz.frozen 4
        have q5 := bz.frozen 5
        go_wp2_with fail
        refine bodyPost_ret (v := .tuple #[.agg #[.int .u8 0, .int .u8 0, .slice none 0 0, .slice none 0 0, .int .u16 0, .int .u16 0], .int .i64 13]) (by simp [results, Try.results14, go_sem, z0, z1, z2, z3, z4, z5]) rfl ?_
        rw [HR.out]
        exact ⟨rfl, bset6 hb hwg _ _ _ _ _ _⟩
      | true =>
        go_wp2_with fail
        refine (E3.out _ ⟨rx.rd, ry.rd⟩ HY.out).mono ?_
        rintro e w5 ⟨A5, n5, c5, rfl, HL5, hn5, o5, hs⟩
        replace hb := bthen hb hs
        replace bz := bz.all hs
        replace bx := bx.all hs
        replace rx := rx.below hs
        replace ry := ry.below hs
        clear hs d0 d1 d2 d3 d4 d5
        obtain ⟨d0, d1, d2, d3, d4, d5⟩ := bx.c6
        have E6 := Lib.hid (bytes_Equal A5 (some ⟨bb, off, none⟩) n5 c5 n c (writeK k r) l w5 o5.rd (hA.below hb) (HWB.out HY.out) hl HL5.out HN.out)
        obtain ⟨y2, hy2⟩ : ∃ y, sameB (writeK k r) l = y := ⟨_, rfl⟩
        rw [hy2] at E6
        have HY2 := Lib.hid hy2
        clear hy2
        go_wp2_with fail
        refine E6.out.mono ?_
        rintro e w6 ⟨rfl, rfl⟩
        obtain ⟨z0, z1, z2, z3, z4, z5⟩ := bz.c6
        have q0 := bz.frozen 0
        have q1 := bz.frozen 1
        have q2 := bz.frozen 2
        have q3 := bz.frozen 3
        have q4 := bz.frozen 4
        have q5 := bz.frozen 5
        cases y2 with
        | false =>
          have HR : Hid (p = none) := by (show _ = _); rw [HR1.out, HY.out, HY2.out]; rfl
          go_wp2_with fail
          refine bodyPost_ret (v := .tuple #[.agg #[.int .u8 0, .int .u8 0, .slice none 0 0, .slice none 0 0, .int .u16 0, .int .u16 0], .int .i64 13]) (by simp [results, Try.results14, go_sem, z0, z1, z2, z3, z4, z5]) rfl ?_
          rw [HR.out]
          exact ⟨rfl, bset6 hb hwg _ _ _ _ _ _⟩
        | true =>
          have HR : Hid (p = some r) := by (show _ = _); rw [HR1.out, HY.out, HY2.out]; rfl
          go_wp2_with fail
          refine bodyPost_ret (v := .tuple #[.agg #[.int .u8 (r.fn : Int), .int .u8 (r.ex : Int), .slice Bx r.bits.length dx, .slice Ax r.words.length cx', .int .u16 (r.at_ : Int), .int .u16 (r.many : Int)], .int .i64 0]) (by simp [results, Try.results14, go_sem, z0, z1, z2, z3, z4, z5]) rfl ?_
          rw [HR.out]
          exact ⟨Ax, cx', Bx, dx, rfl, RdN.set6 ⟨rx, hww⟩ hg1, RdN.set6 ⟨ry, hww⟩ hg1, bset6 hb hwg _ _ _ _ _ _⟩
  · have v3 : decide ((f : Int) < 128) = false := decide_eq_false (by omega)
    have HKL : Hid (kindL f = some .exc) := by (show _ = _); unfold kindL; rw [if_neg h128]
    clear h128
    obtain ⟨k, hk⟩ : ∃ k, Kd.exc = k := ⟨_, rfl⟩
    have hkI : Value.iface 84 (.agg #[]) = Value.iface k.ty k.v := by rw [← hk]; rfl
    have HKO : Hid k.ok := by rw [← hk]; trivial
    rw [hk] at HKL
    clear hk
    go_upto_region 9 with fail
    try rw [hkI]
    clear hkI
    have hko := HKO.out
    have M1 := meth_right k
    have M2 := entr_right k
    have M3 := meth_write k
    have M4 := entr_write k
    have M5 := meth_read k
    have M6 := entr_read k
    have E5 := Lib.hid (fun W h => read_any k hko (some ⟨bb, off, none⟩) n c l W h HN.out hl hnc hn2 (by omega))
    have hrok := readK_ok (k := k) hl
    have hrl := readK_len k l
    rw [HN.out] at hrl
    obtain ⟨r, hr⟩ : ∃ r, readK k l = r := ⟨_, rfl⟩
    have HR1 : Hid (p = if rightK k r && sameB (writeK k r) l then some r else none) := by (show _ = _); rw [HW2.out, HKL.out, Option.bind_some, hr]
    rw [hr] at E5 hrok hrl
    clear hr HW2 HKO
    obtain ⟨hrl1, hrl2⟩ := hrl
    go_wp2_with fail
    refine (E5.out _ hA1).mono ?_
    rintro e w2 ⟨Ax, cx', Bx, dx, he, rx, ry, hs⟩
    simp only [Rp.v, rpV] at he
    subst he
    replace hb := bthen hb hs
    replace bz := bz.all hs
    have hww : w.heap.size ≤ w1.heap.size := by omega
    have hg1 : g < w1.heap.size := hgw1
    clear hs cx1 hA1
    have E2 := Lib.hid (fun W h => right_any k hko r Ax cx' Bx dx W h hrok (by omega) (by omega))
    have E3 := Lib.hid (fun W h => write_any k hko r Ax cx' Bx dx W h hrok)
    unfold Rp.v rpV at E2 E3
    have HWB : Hid (rightK k r = true → Bs (writeK k r)) := fun h => writeK_Bs hrok h
    obtain ⟨y, hy⟩ : ∃ y, rightK k r = y := ⟨_, rfl⟩
    rw [hy] at E2
    have HY := Lib.hid hy
    clear hy
    have bx := Blk.new w2 36 #[.int .u8 (r.fn : Int), .int .u8 (r.ex : Int), .slice Bx r.bits.length dx, .slice Ax r.words.length cx', .int .u16 (r.at_ : Int), .int .u16 (r.many : Int)]
    have hs := (Below.refl w2.heap.size w2).alloc (Nat.le_refl _) (.cells #[.int .u8 (r.fn : Int), .int .u8 (r.ex : Int), .slice Bx r.bits.length dx, .slice Ax r.words.length cx', .int .u16 (r.at_ : Int), .int .u16 (r.many : Int)] 36)
    go_upto_region 10 with fail
    generalize w2.alloc (.cells #[.int .u8 (r.fn : Int), .int .u8 (r.ex : Int), .slice Bx r.bits.length dx, .slice Ax r.words.length cx', .int .u16 (r.at_ : Int), .int .u16 (r.many : Int)] 36) = w3 at *
    obtain ⟨g3, hg3⟩ : ∃ g, w2.heap.size = g := ⟨_, rfl⟩
    rw [hg3] at bx ⊢
    clear hg3
    replace hb := bthen hb hs
    replace bz := bz.all hs
    replace rx := rx.below hs
    replace ry := ry.below hs
    clear hs
    obtain ⟨d0, d1, d2, d3, d4, d5⟩ := bx.c6
    go_wp2_with fail
    refine (E2.out _ ⟨rx.rd, ry.rd⟩).mono ?_
    rintro e w4 ⟨rfl, hs⟩
    replace hb := bthen hb hs
    replace bz := bz.all hs
    replace bx := bx.all hs
    replace rx := rx.below hs
    replace ry := ry.below hs
    clear hs d0 d1 d2 d3 d4 d5
    obtain ⟨d0, d1, d2, d3, d4, d5⟩ := bx.c6
    cases y with
    | false =>
      have HR : Hid (p = none) := by (show _ = _); rw [HR1.out, HY.out]; rfl
      obtain ⟨z0, z1, z2, z3, z4, z5⟩ := bz.c6
      have q0 := bz.frozen 0
      have q1 := bz.frozen 1
      have q2 := bz.frozen 2
      have q3 := bz.frozen 3
      have q4 := bz.frozen 4
      have q5 := bz.frozen 5
      go_wp2_with fail
      refine bodyPost_ret (v := .tuple #[.agg #[.int .u8 0, .int .u8 0, .slice none 0 0, .slice none 0 0, .int .u16 0, .int .u16 0], .int .i64 13]) (by simp [results, Try.results14, go_sem, z0, z1, z2, z3, z4, z5]) rfl ?_
      rw [HR.out]
      exact ⟨rfl, bset6 hb hwg _ _ _ _ _ _⟩
    | true =>
      go_wp2_with fail
      refine (E3.out _ ⟨rx.rd, ry.rd⟩ HY.out).mono ?_
      rintro e w5 ⟨A5, n5, c5, rfl, HL5, hn5, o5, hs⟩
      replace hb := bthen hb hs
      replace bz := bz.all hs
      replace bx := bx.all hs
      replace rx := rx.below hs
      replace ry := ry.below hs
      clear hs d0 d1 d2 d3 d4 d5
      obtain ⟨d0, d1, d2, d3, d4, d5⟩ := bx.c6
      have E6 := Lib.hid (bytes_Equal A5 (some ⟨bb, off, none⟩) n5 c5 n c (writeK k r) l w5 o5.rd (hA.below hb) (HWB.out HY.out) hl HL5.out HN.out)
      obtain ⟨y2, hy2⟩ : ∃ y, sameB (writeK k r) l = y := ⟨_, rfl⟩
      rw [hy2] at E6
      have HY2 := Lib.hid hy2
      clear hy2
      go_wp2_with fail
      refine E6.out.mono ?_
      rintro e w6 ⟨rfl, rfl⟩
      obtain ⟨z0, z1, z2, z3, z4, z5⟩ := bz.c6
      have q0 := bz.frozen 0
      have q1 := bz.frozen 1
      have q2 := bz.frozen 2
      have q3 := bz.frozen 3
      have q4 := bz.frozen 4
      have q5 := bz.frozen 5
      cases y2 with
      | false =>
        have HR : Hid (p = none) := by (show _ = _); rw [HR1.out, HY.out, HY2.out]; rfl
        go_wp2_with fail
        refine bodyPost_ret (v := .tuple #[.agg #[.int .u8 0, .int .u8 0, .slice none 0 0, .slice none 0 0, .int .u16 0, .int .u16 0], .int .i64 13]) (by simp [results, Try.results14, go_sem, z0, z1, z2, z3, z4, z5]) rfl ?_
        rw [HR.out]
        exact ⟨rfl, bset6 hb hwg _ _ _ _ _ _⟩
      | true =>
        have HR : Hid (p = some r) := by (show _ = _); rw [HR1.out, HY.out, HY2.out]; rfl
        go_wp2_with fail
        refine bodyPost_ret (v := .tuple #[.agg #[.int .u8 (r.fn : Int), .int .u8 (r.ex : Int), .slice Bx r.bits.length dx, .slice Ax r.words.length cx', .int .u16 (r.at_ : Int), .int .u16 (r.many : Int)], .int .i64 0]) (by simp [results, Try.results14, go_sem, z0, z1, z2, z3, z4, z5]) rfl ?_
        rw [HR.out]
        exact ⟨Ax, cx', Bx, dx, rfl, RdN.set6 ⟨rx, hww⟩ hg1, RdN.set6 ⟨ry, hww⟩ hg1, bset6 hb hwg _ _ _ _ _ _⟩
end Go.Proofs.Ytechhidfgheejaa
