/- The examples of chapter 3: said, awake (written by gen_rpawake.py). -/
import Derived.Test.YtechhidfgheejaaRpF
namespace Go.Proofs.Ytechhidfgheejaa
open Go.RowKit
set_option linter.unusedSimpArgs false
set_option linter.unusedVariables false

theorem Blk.rd {w : World} {g : Nat} {t : TypeId} {cs : Array Value} {xs : List Value} (h : Blk w g t cs) (hx : xs = cs.toList) : Rd w (some ⟨g, 0, none⟩) xs :=
  .inr ⟨g, 0, rfl, fun j u hu => by rw [Nat.zero_add, h.cell]; subst hx; simpa using hu⟩
set_option maxRecDepth 100000 in
set_option maxHeartbeats 2000000 in
theorem law03_said (a : Rp) (A : Option Addr) (c : Nat) (B : Option Addr) (d : Nat) (A2 : Option Addr) (n c2 : Nat) (l : List Nat) (w : World) (hR : RpR w a A B) (hs : a.ok ∧ a.words.length ≤ 1000000 ∧ a.bits.length ≤ 1000000) (hA : Rd w A2 (bs l)) (hn : l.length = n) (hl : Bs l) (hnc : n ≤ c2) (hbig : n ≤ 1000000)
    (hp : parseR l = some a) (hbt : bytesR a = l) (hrt : rightR a = true) :
    Calls Try.prog 82 #[a.v A c B d, .slice A2 n c2] w fun e w' => e = .returned (.bool true) ∧ Below w.heap.size w w' := by
  have HN := Lib.hid hn
  have e0 : errR a = 0 := by unfold errR; rw [if_pos hrt]
  have E1 := Lib.hid (fun W (h : RpR W a A B) => reply_Bytes a A c B d W h hs.1 hs.2.1 hs.2.2)
  have E2 := Lib.hid (fun W (h : Rd W A2 (bs l)) => reply_Parse A2 n c2 l W h hn hl hnc (by omega))
  rw [hbt, e0, hn] at E1
  rw [hp] at E2
  have E3 := Lib.hid (fun W (A' : Option Addr) (c' : Nat) (h1 : Rd W A' (bs l)) (h2 : Rd W A2 (bs l)) => low_Same A' A2 n c' n c2 l l W h1 h2 hl hl hn hn)
  rw [sameB_self] at E3
  have E4 := Lib.hid (fun W (Ax : Option Addr) (cx : Nat) (Bx : Option Addr) (dx : Nat) (h1 : RpR W a A B) (h2 : RpR W a Ax Bx) => reply_Same a a A c B d Ax cx Bx dx W h1 h2 hs.2.1 hs.2.2)
  have hself : sameR a a = true := sameR_iff.2 rfl
  rw [hself] at E4
  have hb1 := (Below.refl _ w).alloc (Nat.le_refl _) (.cells #[.int .u8 (a.fn : Int), .int .u8 (a.ex : Int), .slice B a.bits.length d, .slice A a.words.length c, .int .u16 (a.at_ : Int), .int .u16 (a.many : Int)] 36)
  have bx1 := Blk.new w 36 #[.int .u8 (a.fn : Int), .int .u8 (a.ex : Int), .slice B a.bits.length d, .slice A a.words.length c, .int .u16 (a.at_ : Int), .int .u16 (a.many : Int)]
  simp only [Rp.v, rpV] at E1 E4 ⊢
  clear hself e0 hbt hp hn hrt
  obtain ⟨g, hg⟩ : ∃ g, w.heap.size = g := ⟨_, rfl⟩
  have HG := Lib.hid hg
  go_enter Try.func82, Try.ntmps82
  go_upto_region 1 with fail
  rw [hg] at bx1
  (try rw [hg])
  clear hg
  generalize w.alloc (.cells #[.int .u8 (a.fn : Int), .int .u8 (a.ex : Int), .slice B a.bits.length d, .slice A a.words.length c, .int .u16 (a.at_ : Int), .int .u16 (a.many : Int)] 36) = w1 at *
  obtain ⟨d0, d1, d2, d3, d4, d5⟩ := bx1.c6
  go_wp2_with fail
  refine (E1.out _ (hR.below hb1)).mono ?_
  rintro e w2 ⟨A2', c2', rfl, o2, hb2⟩
  have hb2' := bthen hb1 hb2
  have bx2 := bx1.all hb2
  clear d0 d1 d2 d3 d4 d5
  go_wp2_with fail
  refine (E2.out _ (hA.below hb2')).mono ?_
  rintro e w3 ⟨Ax, cx, Bx, dx, he, rw3, rb3, hb3⟩
  simp only [Rp.v, rpV] at he
  subst he
  have hb3' := bthen hb2' hb3
  have bx3 := bx2.all hb3
  have o3 := o2.below hb3
  have hb4 := hb3'.alloc hb3'.size (.cells #[.int .u8 (a.fn : Int), .int .u8 (a.ex : Int), .slice Bx a.bits.length dx, .slice Ax a.words.length cx, .int .u16 (a.at_ : Int), .int .u16 (a.many : Int)] 36)
  have bx4 := bx3.alloc (.cells #[.int .u8 (a.fn : Int), .int .u8 (a.ex : Int), .slice Bx a.bits.length dx, .slice Ax a.words.length cx, .int .u16 (a.at_ : Int), .int .u16 (a.many : Int)] 36)
  have by4 := Blk.new w3 36 #[.int .u8 (a.fn : Int), .int .u8 (a.ex : Int), .slice Bx a.bits.length dx, .slice Ax a.words.length cx, .int .u16 (a.at_ : Int), .int .u16 (a.many : Int)]
  have o4 := o3.alloc (.cells #[.int .u8 (a.fn : Int), .int .u8 (a.ex : Int), .slice Bx a.bits.length dx, .slice Ax a.words.length cx, .int .u16 (a.at_ : Int), .int .u16 (a.many : Int)] 36)
  have rw4 := rw3.rd.alloc (.cells #[.int .u8 (a.fn : Int), .int .u8 (a.ex : Int), .slice Bx a.bits.length dx, .slice Ax a.words.length cx, .int .u16 (a.at_ : Int), .int .u16 (a.many : Int)] 36)
  have rb4 := rb3.rd.alloc (.cells #[.int .u8 (a.fn : Int), .int .u8 (a.ex : Int), .slice Bx a.bits.length dx, .slice Ax a.words.length cx, .int .u16 (a.at_ : Int), .int .u16 (a.many : Int)] 36)
  go_upto_region 3 with fail
  generalize w3.alloc (.cells #[.int .u8 (a.fn : Int), .int .u8 (a.ex : Int), .slice Bx a.bits.length dx, .slice Ax a.words.length cx, .int .u16 (a.at_ : Int), .int .u16 (a.many : Int)] 36) = w4 at *
  obtain ⟨g2, hg2⟩ : ∃ g, w3.heap.size = g := ⟨_, rfl⟩
  rw [hg2] at by4 ⊢
  clear hg2
  obtain ⟨d0, d1, d2, d3, d4, d5⟩ := bx4.c6
  obtain ⟨e0, e1, e2, e3, e4, e5⟩ := by4.c6
  go_wp2_with fail
  refine (E3.out w4 A2' c2' o4.rd (hA.below hb4)).mono ?_
  rintro e w5 ⟨rfl, rfl⟩
  go_wp2_with fail
  refine (E4.out w4 Ax cx Bx dx (hR.below hb4) ⟨rw4, rb4⟩).mono ?_
  rintro e w6 ⟨rfl, hb6⟩
  go_wp2_with fail
  go_ret
  exact ⟨rfl, bthen hb4 hb6⟩
theorem rp1 : parseR [3, 4, 0, 1, 1, 2] = some ⟨3, 0, [], [1, 258], 0, 0⟩ := by decide +kernel
theorem rp2 : parseR [131, 2] = some ⟨3, 2, [], [], 0, 0⟩ := by decide +kernel
theorem rp3 : parseR [15, 0, 19, 0, 10] = some ⟨15, 0, [], [], 19, 10⟩ := by decide +kernel
theorem rf1 : fitsA ⟨1, 0, 10, 0, [], []⟩ ⟨1, 0, [false, false, false, false, false, false, false, false, false, true, false, false, false, false, false, false], [], 0, 0⟩ = true := by decide +kernel
theorem rf2 : fitsA ⟨1, 0, 10, 0, [], []⟩ ⟨1, 0, [false, false, false, false, false, false, false, false, false, true, true, false, false, false, false, false], [], 0, 0⟩ = false := by decide +kernel

set_option maxRecDepth 100000 in
set_option maxHeartbeats 4000000 in
theorem reply_awake (w0 : World) : Calls Try.prog 39 #[] w0 fun e w' => e = .returned (.bool true) ∧ Below w0.heap.size w0 w' := by
  have hmk : ∀ W : World, (Instr.makeSlice 25 (.int .i64 16) (.int .i64 16)).run Try.prog W = .ok (.slice (some ⟨W.heap.size, 0, none⟩) 16 16) (W.alloc (.cells #[.bool false, .bool false, .bool false, .bool false, .bool false, .bool false, .bool false, .bool false, .bool false, .bool false, .bool false, .bool false, .bool false, .bool false, .bool false, .bool false] 4)) := fun _ => by kernel_rfl
  have hb := ((Below.refl w0.heap.size w0).alloc (Nat.le_refl _) (.cells #[.bool false, .bool false, .bool false, .bool false, .bool false, .bool false, .bool false, .bool false, .bool false, .bool true, .bool false, .bool false, .bool false, .bool false, .bool false, .bool false] 4)).alloc (by simp [World.size_alloc]) (.cells #[.int .u8 1, .int .u16 0, .int .u16 10, .int .u16 0, .slice none 0 0, .slice none 0 0] 41)
  have b1 := (Blk.new w0 4 #[.bool false, .bool false, .bool false, .bool false, .bool false, .bool false, .bool false, .bool false, .bool false, .bool true, .bool false, .bool false, .bool false, .bool false, .bool false, .bool false]).alloc (.cells #[.int .u8 1, .int .u16 0, .int .u16 10, .int .u16 0, .slice none 0 0, .slice none 0 0] 41)
  have b2 := Blk.newAt (w0.alloc (.cells #[.bool false, .bool false, .bool false, .bool false, .bool false, .bool false, .bool false, .bool false, .bool false, .bool true, .bool false, .bool false, .bool false, .bool false, .bool false, .bool false] 4)) 41 #[.int .u8 1, .int .u16 0, .int .u16 10, .int .u16 0, .slice none 0 0, .slice none 0 0] (w0.heap.size + 1) (World.size_alloc _ _)
  go_enter Try.func39, Try.ntmps39
  go_upto_region 4 with fail
  generalize (w0.alloc (.cells #[.bool false, .bool false, .bool false, .bool false, .bool false, .bool false, .bool false, .bool false, .bool false, .bool true, .bool false, .bool false, .bool false, .bool false, .bool false, .bool false] 4)).alloc (.cells #[.int .u8 1, .int .u16 0, .int .u16 10, .int .u16 0, .slice none 0 0, .slice none 0 0] 41) = w1 at *
  obtain ⟨g2, hg2⟩ : ∃ g, w0.heap.size + 1 = g := ⟨_, rfl⟩
  rw [hg2] at b2 ⊢
  obtain ⟨g1, hg1⟩ : ∃ g, w0.heap.size = g := ⟨_, rfl⟩
  rw [hg1] at b1 ⊢
  have hg12 : g2 ≠ g1 := by omega
  have hwg1 : w0.heap.size ≤ g1 := by omega
  clear hg1 hg2 hmk
  have FT := Lib.hid (fun W (r : Rp) (h : Rd W (some ⟨g1, 0, none⟩) (os r.bits)) (hr : r.ok) (hw : r.words = []) (hb : r.bits.length ≤ 1000000) (hd : r.bits.length ≤ 16) => reply_Fits ⟨1, 0, 10, 0, [], []⟩ none 0 none 0 r none 0 (some ⟨g1, 0, none⟩) 16 W ⟨Rd.nil, Rd.nil⟩ ⟨by decide, by decide, by decide, by decide, by decide⟩ (by decide) (by decide) ⟨(by rw [hw]; exact Rd.nil), h⟩ hr (by rw [hw]; decide) hb (fun _ => hd))
  have F1 := Lib.hid (FT.out w1 ⟨1, 0, [false, false, false, false, false, false, false, false, false, true, false, false, false, false, false, false], [], 0, 0⟩ (b1.rd rfl) ⟨by decide, by decide, by decide, by decide, by decide⟩ rfl (by decide) (by decide))
  rw [rf1] at F1
  simp only [Ak.v, akV, Rp.v, rpV, List.length_cons, List.length_nil, Nat.zero_add, Nat.reduceAdd] at F1
  obtain ⟨d0, d1, d2, d3, d4, d5⟩ := b2.c6
  go_wp2_with fail
  refine F1.out.mono ?_
  rintro e w2 ⟨rfl, hs⟩
  replace hb := bthen hb hs
  replace b1 := b1.all hs
  replace b2 := b2.all hs
  clear hs d0 d1 d2 d3 d4 d5
  have k0 := b1.cell 10
  have z0 := b1.frozen 10
  simp only [List.getElem?_toArray, List.getElem?_cons_succ, List.getElem?_cons_zero] at k0
  have b1' := b1.set_ 10 (.bool true)
  have b2' := b2.far (p := ⟨g1, 10, none⟩) hg12 (.bool true)
  have hb' := bset1 hb hwg1 10 (.bool true)
  go_upto_region 6 with fail
  generalize w2.setCell ⟨g1, 10, none⟩ (.bool true) = w3 at *
  clear k0 z0 b1 b2 hb F1
  have F2 := Lib.hid (FT.out w3 ⟨1, 0, [false, false, false, false, false, false, false, false, false, true, true, false, false, false, false, false], [], 0, 0⟩ (b1'.rd rfl) ⟨by decide, by decide, by decide, by decide, by decide⟩ rfl (by decide) (by decide))
  rw [rf2] at F2
  simp only [Ak.v, akV, Rp.v, rpV, List.length_cons, List.length_nil, Nat.zero_add, Nat.reduceAdd] at F2
  obtain ⟨d0, d1, d2, d3, d4, d5⟩ := b2'.c6
  go_wp2_with fail
  refine F2.out.mono ?_
  rintro e w4 ⟨rfl, hs⟩
  have h0 := bthen hb' hs
  clear hs d0 d1 d2 d3 d4 d5 b1' b2' hb' F2 FT
  have S0 := Lib.hid (law03_said ⟨3, 0, [], [1, 258], 0, 0⟩ (some ⟨w4.heap.size, 0, none⟩) 2 none 0 (some ⟨w4.heap.size + 1, 0, none⟩) 6 6 [3, 4, 0, 1, 1, 2] ((w4.alloc (.cells #[.int .u16 1, .int .u16 258] 34)).alloc (.cells #[.int .u8 3, .int .u8 4, .int .u8 0, .int .u8 1, .int .u8 1, .int .u8 2] 5)) ⟨(Rd.lit w4 34 [.int .u16 1, .int .u16 258] rfl).alloc _, Rd.nil⟩ ⟨⟨by decide, by decide, by decide, by decide, by decide⟩, by decide, by decide⟩ (Rd.litAt (w4.alloc (.cells #[.int .u16 1, .int .u16 258] 34)) 5 [.int .u8 3, .int .u8 4, .int .u8 0, .int .u8 1, .int .u8 1, .int .u8 2] (w4.heap.size + 1) (World.size_alloc _ _) rfl) rfl (by decide) (Nat.le_refl _) (by decide) rp1 (by decide +kernel) (by decide +kernel))
  simp only [Rp.v, rpV] at S0
  go_wp2_with fail
  refine S0.out.mono ?_
  rintro e w5 ⟨rfl, hs⟩
  have h1 := bthen ((h0.alloc (h0.size) (.cells #[.int .u16 1, .int .u16 258] 34)).alloc (by have := h0.size; simp only [World.size_alloc]; omega) (.cells #[.int .u8 3, .int .u8 4, .int .u8 0, .int .u8 1, .int .u8 1, .int .u8 2] 5)) hs
  clear S0 hs h0
  go_wp2_with fail
  refine (reply_Wrong 3 2 _ (by decide) (by decide)).mono ?_
  rintro e w6 ⟨rfl, hs⟩
  have h2 := bthen h1 hs
  clear hs h1
  have S1 := Lib.hid (law03_said ⟨3, 2, [], [], 0, 0⟩ none 0 none 0 (some ⟨w6.heap.size, 0, none⟩) 2 2 [131, 2] (w6.alloc (.cells #[.int .u8 131, .int .u8 2] 5)) ⟨Rd.nil, Rd.nil⟩ ⟨⟨by decide, by decide, by decide, by decide, by decide⟩, by decide, by decide⟩ (Rd.litAt w6 5 [.int .u8 131, .int .u8 2] w6.heap.size rfl rfl) rfl (by decide) (Nat.le_refl _) (by decide) rp2 (by decide +kernel) (by decide +kernel))
  rw [show (wrongR 3 2).v none 0 none 0 = Rp.v ⟨3, 2, [], [], 0, 0⟩ none 0 none 0 from rfl]
  simp only [Rp.v, rpV] at S1 ⊢
  go_wp2_with fail
  refine S1.out.mono ?_
  rintro e w7 ⟨rfl, hs⟩
  have h3 := bthen (h2.alloc (h2.size) (.cells #[.int .u8 131, .int .u8 2] 5)) hs
  clear S1 hs h2
  have S2 := Lib.hid (law03_said ⟨15, 0, [], [], 19, 10⟩ none 0 none 0 (some ⟨w7.heap.size, 0, none⟩) 5 5 [15, 0, 19, 0, 10] (w7.alloc (.cells #[.int .u8 15, .int .u8 0, .int .u8 19, .int .u8 0, .int .u8 10] 5)) ⟨Rd.nil, Rd.nil⟩ ⟨⟨by decide, by decide, by decide, by decide, by decide⟩, by decide, by decide⟩ (Rd.litAt w7 5 [.int .u8 15, .int .u8 0, .int .u8 19, .int .u8 0, .int .u8 10] w7.heap.size rfl rfl) rfl (by decide) (Nat.le_refl _) (by decide) rp3 (by decide +kernel) (by decide +kernel))
  simp only [Rp.v, rpV] at S2
  go_wp2_with fail
  refine S2.out.mono ?_
  rintro e w8 ⟨rfl, hs⟩
  have h4 := bthen (h3.alloc (h3.size) (.cells #[.int .u8 15, .int .u8 0, .int .u8 19, .int .u8 0, .int .u8 10] 5)) hs
  go_wp2_with fail
  go_ret
  exact ⟨rfl, h4⟩
  end Go.Proofs.Ytechhidfgheejaa
