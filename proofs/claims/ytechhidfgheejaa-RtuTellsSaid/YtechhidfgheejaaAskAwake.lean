/- The examples of chapter 2: said, wrong, awake. -/
import Derived.Test.YtechhidfgheejaaAskH
namespace Go.Proofs.Ytechhidfgheejaa
open Go.RowKit
set_option linter.unusedSimpArgs false
set_option linter.unusedVariables false

theorem Rd.litAt (w : World) (t : TypeId) (cs : List Value) (g : Nat) {xs : List Value} (hg : w.heap.size = g) (hx : xs = cs) : Rd (w.alloc (.cells cs.toArray t)) (some ⟨g, 0, none⟩) xs := by
  subst hg; exact Rd.lit w t cs hx

set_option maxRecDepth 100000 in
set_option maxHeartbeats 2000000 in
theorem law02_said (a : Ak) (A : Option Addr) (c : Nat) (B : Option Addr) (d : Nat) (A2 : Option Addr) (n c2 : Nat) (l : List Nat) (w : World) (hR : AkR w a A B) (hs : a.small) (hA : Rd w A2 (bs l)) (hn : l.length = n) (hl : Bs l) (hnc : n ≤ c2) (hbig : n ≤ 1000000)
    (hp : parseA l = some a) (hbt : bytesN a = l) (hrt : rightA a = true) :
    Calls Try.prog 72 #[a.v A c B d, .slice A2 n c2] w fun e w' => e = .returned (.bool true) ∧ Below w.heap.size w w' := by
  have HN := Lib.hid hn
  have e0 : errN a = 0 := by unfold errN; rw [if_pos hrt]
  have E1 := Lib.hid (fun W (h : AkR W a A B) => ask_Bytes a A c B d W h hs.ok (by have := hs.words; omega) (by have := hs.bits; omega))
  have E2 := Lib.hid (fun W (h : Rd W A2 (bs l)) => ask_Parse A2 n c2 l W h hn hl hnc (by omega))
  rw [hbt, e0, hn] at E1
  rw [hp] at E2
  have E3 := Lib.hid (fun W (A' : Option Addr) (c' : Nat) (h1 : Rd W A' (bs l)) (h2 : Rd W A2 (bs l)) => low_Same A' A2 n c' n c2 l l W h1 h2 hl hl hn hn)
  rw [sameB_self] at E3
  have E4 := Lib.hid (fun W (Ax : Option Addr) (cx : Nat) (Bx : Option Addr) (dx : Nat) (h1 : AkR W a A B) (h2 : AkR W a Ax Bx) => ask_Same a a A c B d Ax cx Bx dx W h1 h2 (by have := hs.words; omega) (by have := hs.bits; omega))
  have hself : sameA a a = true := sameA_iff.2 rfl
  rw [hself] at E4
  have hb1 := (Below.refl _ w).alloc (Nat.le_refl _) (.cells #[.int .u8 (a.fn : Int), .int .u16 (a.at_ : Int), .int .u16 (a.many : Int), .int .u16 (a.to_ : Int), .slice A a.words.length c, .slice B a.bits.length d] 41)
  have bx1 := Blk.new w 41 #[.int .u8 (a.fn : Int), .int .u16 (a.at_ : Int), .int .u16 (a.many : Int), .int .u16 (a.to_ : Int), .slice A a.words.length c, .slice B a.bits.length d]
  simp only [Ak.v, akV] at E1 E4 ⊢
  clear hself e0 hbt hp hn hrt
  obtain ⟨g, hg⟩ : ∃ g, w.heap.size = g := ⟨_, rfl⟩
  have HG := Lib.hid hg
  go_enter Try.func72, Try.ntmps72
  go_upto_region 1 with fail
  rw [hg] at bx1
  (try rw [hg])
  clear hg
  generalize w.alloc (.cells #[.int .u8 (a.fn : Int), .int .u16 (a.at_ : Int), .int .u16 (a.many : Int), .int .u16 (a.to_ : Int), .slice A a.words.length c, .slice B a.bits.length d] 41) = w1 at *
  obtain ⟨d0, d1, d2, d3, d4, d5⟩ := bx1.c6
  go_wp2_with fail
  refine (E1.out _ (hR.below hb1)).mono ?_
  rintro e w2 ⟨A2', c2', rfl, o2, hb2⟩
  have hb2' := bthen hb1 hb2
  have bx2 := bx1.all hb2
  clear d0 d1 d2 d3 d4 d5
  go_wp2_with fail
  refine (E2.out _ (hA.below hb2')).mono ?_
  rintro e w3 ⟨Ax, cx, Bx, dx, he, rw3, rb3, hb3⟩
  simp only [Ak.v, akV] at he
  subst he
  have hb3' := bthen hb2' hb3
  have bx3 := bx2.all hb3
  have o3 := o2.below hb3
  have hb4 := hb3'.alloc hb3'.size (.cells #[.int .u8 (a.fn : Int), .int .u16 (a.at_ : Int), .int .u16 (a.many : Int), .int .u16 (a.to_ : Int), .slice Ax a.words.length cx, .slice Bx a.bits.length dx] 41)
  have bx4 := bx3.alloc (.cells #[.int .u8 (a.fn : Int), .int .u16 (a.at_ : Int), .int .u16 (a.many : Int), .int .u16 (a.to_ : Int), .slice Ax a.words.length cx, .slice Bx a.bits.length dx] 41)
  have by4 := Blk.new w3 41 #[.int .u8 (a.fn : Int), .int .u16 (a.at_ : Int), .int .u16 (a.many : Int), .int .u16 (a.to_ : Int), .slice Ax a.words.length cx, .slice Bx a.bits.length dx]
  have o4 := o3.alloc (.cells #[.int .u8 (a.fn : Int), .int .u16 (a.at_ : Int), .int .u16 (a.many : Int), .int .u16 (a.to_ : Int), .slice Ax a.words.length cx, .slice Bx a.bits.length dx] 41)
  have rw4 := rw3.rd.alloc (.cells #[.int .u8 (a.fn : Int), .int .u16 (a.at_ : Int), .int .u16 (a.many : Int), .int .u16 (a.to_ : Int), .slice Ax a.words.length cx, .slice Bx a.bits.length dx] 41)
  have rb4 := rb3.rd.alloc (.cells #[.int .u8 (a.fn : Int), .int .u16 (a.at_ : Int), .int .u16 (a.many : Int), .int .u16 (a.to_ : Int), .slice Ax a.words.length cx, .slice Bx a.bits.length dx] 41)
  go_upto_region 3 with fail
  generalize w3.alloc (.cells #[.int .u8 (a.fn : Int), .int .u16 (a.at_ : Int), .int .u16 (a.many : Int), .int .u16 (a.to_ : Int), .slice Ax a.words.length cx, .slice Bx a.bits.length dx] 41) = w4 at *
  obtain ⟨g2, hg2⟩ : ∃ g, w3.heap.size = g := ⟨_, rfl⟩
  rw [hg2] at by4 ⊢
  clear hg2
  obtain ⟨d0, d1, d2, d3, d4, d5⟩ := bx4.c6
  obtain ⟨e0, e1, e2, e3, e4, e5⟩ := by4.c6
  go_wp2_with fail
  refine (E3.out w4 A2' c2' o4.rd (hA.below hb4)).mono ?_
  rintro e w5 ⟨rfl, rfl⟩
  go_wp2_with fail
  refine (E4.out w4 Ax cx Bx dx (hR.below hb4) ⟨rw4, rb4⟩).mono ?_
  rintro e w6 ⟨rfl, hb6⟩
  go_wp2_with fail
  go_ret
  exact ⟨rfl, bthen hb4 hb6⟩

set_option maxRecDepth 100000 in
set_option maxHeartbeats 2000000 in
theorem law02_wrong (x : Nat) (A2 : Option Addr) (n c2 : Nat) (l : List Nat) (w : World) (hA : Rd w A2 (bs l)) (hn : l.length = n) (hl : Bs l) (hnc : n ≤ c2) (hbig : n ≤ 1000000) (hx : (lookA l).2 = x) :
    Calls Try.prog 73 #[.int .u8 (x : Int), .slice A2 n c2] w fun e w' => e = .returned (.bool true) ∧ Below w.heap.size w w' := by
  have E2 := Lib.hid (ask_Look A2 n c2 l w hA hn hl hnc (by omega))
  rw [hx] at E2
  clear hx hn
  go_enter Try.func73, Try.ntmps73
  go_wp2_with fail
  refine E2.out.mono ?_
  rintro e w3 ⟨Ax, cx, Bx, dx, he, rw3, rb3, hb3⟩
  simp only [Ak.v, akV] at he
  subst he
  have hb4 := hb3.alloc hb3.size (.cells #[.int .u8 ((lookA l).1.fn : Int), .int .u16 ((lookA l).1.at_ : Int), .int .u16 ((lookA l).1.many : Int), .int .u16 ((lookA l).1.to_ : Int), .slice Ax (lookA l).1.words.length cx, .slice Bx (lookA l).1.bits.length dx] 41)
  go_wp2_with fail
  go_ret
  exact ⟨ret_bool (by simp), hb4⟩

theorem p1 : parseA [3, 0, 107, 0, 3] = some ⟨3, 107, 3, 0, [], []⟩ := by decide
theorem p2 : parseA [15, 0, 19, 0, 4, 1, 13] = some ⟨15, 19, 4, 0, [], [true, false, true, true]⟩ := by decide
theorem p3 : parseA [5, 0, 172, 255, 0] = some ⟨5, 172, 0, 0, [], [true]⟩ := by decide
theorem k1 : (lookA [5, 0, 172, 255, 1]).2 = 3 := by decide
theorem k2 : (lookA [3, 0, 0, 0, 126]).2 = 3 := by decide
theorem k3 : (lookA [7]).2 = 1 := by decide
theorem k4 : (lookA []).2 = 1 := by decide

set_option maxRecDepth 100000 in
set_option maxHeartbeats 2000000 in
theorem ask_awake (w0 : World) : Calls Try.prog 21 #[] w0 fun e w' => e = .returned (.bool true) ∧ Below w0.heap.size w0 w' := by
  have h0 : Below w0.heap.size w0 w0 := Below.refl _ _
  go_enter Try.func21, Try.ntmps21
  have S0 : Calls Try.prog 72 #[.agg #[.int .u8 3, .int .u16 107, .int .u16 3, .int .u16 0, .slice none 0 0, .slice none 0 0], .slice (some ⟨w0.heap.size, 0, none⟩) 5 5] (w0.alloc (.cells #[.int .u8 3, .int .u8 0, .int .u8 107, .int .u8 0, .int .u8 3] 5)) fun e w' => e = .returned (.bool true) ∧ Below (w0.alloc (.cells #[.int .u8 3, .int .u8 0, .int .u8 107, .int .u8 0, .int .u8 3] 5)).heap.size (w0.alloc (.cells #[.int .u8 3, .int .u8 0, .int .u8 107, .int .u8 0, .int .u8 3] 5)) w' :=
    law02_said ⟨3, 107, 3, 0, [], []⟩ none 0 none 0 (some ⟨w0.heap.size, 0, none⟩) 5 5 [3, 0, 107, 0, 3] (w0.alloc (.cells #[.int .u8 3, .int .u8 0, .int .u8 107, .int .u8 0, .int .u8 3] 5)) ⟨Rd.nil, Rd.nil⟩ ⟨⟨by decide, by decide, by decide, by decide, by decide⟩, by decide, by decide⟩ (Rd.litAt w0 5 [.int .u8 3, .int .u8 0, .int .u8 107, .int .u8 0, .int .u8 3] w0.heap.size rfl rfl) rfl (by decide) (Nat.le_refl _) (by decide) p1 rfl rfl
  go_wp2_with fail
  refine S0.mono ?_
  rintro e w1 ⟨rfl, hb1⟩
  have h1 := bthen (h0.alloc (h0.size) (.cells #[.int .u8 3, .int .u8 0, .int .u8 107, .int .u8 0, .int .u8 3] 5)) hb1
  clear S0 hb1
  have S1 : Calls Try.prog 72 #[.agg #[.int .u8 15, .int .u16 19, .int .u16 4, .int .u16 0, .slice none 0 0, .slice (some ⟨w1.heap.size, 0, none⟩) 4 4], .slice (some ⟨w1.heap.size + 1, 0, none⟩) 7 7] ((w1.alloc (.cells #[.bool true, .bool false, .bool true, .bool true] 4)).alloc (.cells #[.int .u8 15, .int .u8 0, .int .u8 19, .int .u8 0, .int .u8 4, .int .u8 1, .int .u8 13] 5)) fun e w' => e = .returned (.bool true) ∧ Below ((w1.alloc (.cells #[.bool true, .bool false, .bool true, .bool true] 4)).alloc (.cells #[.int .u8 15, .int .u8 0, .int .u8 19, .int .u8 0, .int .u8 4, .int .u8 1, .int .u8 13] 5)).heap.size ((w1.alloc (.cells #[.bool true, .bool false, .bool true, .bool true] 4)).alloc (.cells #[.int .u8 15, .int .u8 0, .int .u8 19, .int .u8 0, .int .u8 4, .int .u8 1, .int .u8 13] 5)) w' :=
    law02_said ⟨15, 19, 4, 0, [], [true, false, true, true]⟩ none 0 (some ⟨w1.heap.size, 0, none⟩) 4 (some ⟨w1.heap.size + 1, 0, none⟩) 7 7 [15, 0, 19, 0, 4, 1, 13] ((w1.alloc (.cells #[.bool true, .bool false, .bool true, .bool true] 4)).alloc (.cells #[.int .u8 15, .int .u8 0, .int .u8 19, .int .u8 0, .int .u8 4, .int .u8 1, .int .u8 13] 5)) ⟨Rd.nil, ((Rd.lit w1 4 [.bool true, .bool false, .bool true, .bool true] rfl).alloc _)⟩ ⟨⟨by decide, by decide, by decide, by decide, by decide⟩, by decide, by decide⟩ (Rd.litAt (w1.alloc (.cells #[.bool true, .bool false, .bool true, .bool true] 4)) 5 [.int .u8 15, .int .u8 0, .int .u8 19, .int .u8 0, .int .u8 4, .int .u8 1, .int .u8 13] (w1.heap.size + 1) (World.size_alloc _ _) rfl) rfl (by decide) (Nat.le_refl _) (by decide) p2 rfl rfl
  go_wp2_with fail
  refine S1.mono ?_
  rintro e w2 ⟨rfl, hb2⟩
  have h2 := bthen ((h1.alloc (h1.size) (.cells #[.bool true, .bool false, .bool true, .bool true] 4)).alloc (by have := h1.size; simp only [World.size_alloc]; omega) (.cells #[.int .u8 15, .int .u8 0, .int .u8 19, .int .u8 0, .int .u8 4, .int .u8 1, .int .u8 13] 5)) hb2
  clear S1 hb2
  have S2 : Calls Try.prog 72 #[.agg #[.int .u8 5, .int .u16 172, .int .u16 0, .int .u16 0, .slice none 0 0, .slice (some ⟨w2.heap.size, 0, none⟩) 1 1], .slice (some ⟨w2.heap.size + 1, 0, none⟩) 5 5] ((w2.alloc (.cells #[.bool true] 4)).alloc (.cells #[.int .u8 5, .int .u8 0, .int .u8 172, .int .u8 255, .int .u8 0] 5)) fun e w' => e = .returned (.bool true) ∧ Below ((w2.alloc (.cells #[.bool true] 4)).alloc (.cells #[.int .u8 5, .int .u8 0, .int .u8 172, .int .u8 255, .int .u8 0] 5)).heap.size ((w2.alloc (.cells #[.bool true] 4)).alloc (.cells #[.int .u8 5, .int .u8 0, .int .u8 172, .int .u8 255, .int .u8 0] 5)) w' :=
    law02_said ⟨5, 172, 0, 0, [], [true]⟩ none 0 (some ⟨w2.heap.size, 0, none⟩) 1 (some ⟨w2.heap.size + 1, 0, none⟩) 5 5 [5, 0, 172, 255, 0] ((w2.alloc (.cells #[.bool true] 4)).alloc (.cells #[.int .u8 5, .int .u8 0, .int .u8 172, .int .u8 255, .int .u8 0] 5)) ⟨Rd.nil, ((Rd.lit w2 4 [.bool true] rfl).alloc _)⟩ ⟨⟨by decide, by decide, by decide, by decide, by decide⟩, by decide, by decide⟩ (Rd.litAt (w2.alloc (.cells #[.bool true] 4)) 5 [.int .u8 5, .int .u8 0, .int .u8 172, .int .u8 255, .int .u8 0] (w2.heap.size + 1) (World.size_alloc _ _) rfl) rfl (by decide) (Nat.le_refl _) (by decide) p3 rfl rfl
  go_wp2_with fail
  refine S2.mono ?_
  rintro e w3 ⟨rfl, hb3⟩
  have h3 := bthen ((h2.alloc (h2.size) (.cells #[.bool true] 4)).alloc (by have := h2.size; simp only [World.size_alloc]; omega) (.cells #[.int .u8 5, .int .u8 0, .int .u8 172, .int .u8 255, .int .u8 0] 5)) hb3
  clear S2 hb3
  have S3 : Calls Try.prog 73 #[.int .u8 3, .slice (some ⟨w3.heap.size, 0, none⟩) 5 5] (w3.alloc (.cells #[.int .u8 5, .int .u8 0, .int .u8 172, .int .u8 255, .int .u8 1] 5)) fun e w' => e = .returned (.bool true) ∧ Below (w3.alloc (.cells #[.int .u8 5, .int .u8 0, .int .u8 172, .int .u8 255, .int .u8 1] 5)).heap.size (w3.alloc (.cells #[.int .u8 5, .int .u8 0, .int .u8 172, .int .u8 255, .int .u8 1] 5)) w' :=
    law02_wrong 3 (some ⟨w3.heap.size, 0, none⟩) 5 5 [5, 0, 172, 255, 1] (w3.alloc (.cells #[.int .u8 5, .int .u8 0, .int .u8 172, .int .u8 255, .int .u8 1] 5)) (Rd.lit w3 5 [.int .u8 5, .int .u8 0, .int .u8 172, .int .u8 255, .int .u8 1] rfl) rfl (by decide) (Nat.le_refl _) (by decide) k1
  go_wp2_with fail
  refine S3.mono ?_
  rintro e w4 ⟨rfl, hb4⟩
  have h4 := bthen (h3.alloc (h3.size) (.cells #[.int .u8 5, .int .u8 0, .int .u8 172, .int .u8 255, .int .u8 1] 5)) hb4
  clear S3 hb4
  have S4 : Calls Try.prog 73 #[.int .u8 3, .slice (some ⟨w4.heap.size, 0, none⟩) 5 5] (w4.alloc (.cells #[.int .u8 3, .int .u8 0, .int .u8 0, .int .u8 0, .int .u8 126] 5)) fun e w' => e = .returned (.bool true) ∧ Below (w4.alloc (.cells #[.int .u8 3, .int .u8 0, .int .u8 0, .int .u8 0, .int .u8 126] 5)).heap.size (w4.alloc (.cells #[.int .u8 3, .int .u8 0, .int .u8 0, .int .u8 0, .int .u8 126] 5)) w' :=
    law02_wrong 3 (some ⟨w4.heap.size, 0, none⟩) 5 5 [3, 0, 0, 0, 126] (w4.alloc (.cells #[.int .u8 3, .int .u8 0, .int .u8 0, .int .u8 0, .int .u8 126] 5)) (Rd.lit w4 5 [.int .u8 3, .int .u8 0, .int .u8 0, .int .u8 0, .int .u8 126] rfl) rfl (by decide) (Nat.le_refl _) (by decide) k2
  go_wp2_with fail
  refine S4.mono ?_
  rintro e w5 ⟨rfl, hb5⟩
  have h5 := bthen (h4.alloc (h4.size) (.cells #[.int .u8 3, .int .u8 0, .int .u8 0, .int .u8 0, .int .u8 126] 5)) hb5
  clear S4 hb5
  have S5 : Calls Try.prog 73 #[.int .u8 1, .slice (some ⟨w5.heap.size, 0, none⟩) 1 1] (w5.alloc (.cells #[.int .u8 7] 5)) fun e w' => e = .returned (.bool true) ∧ Below (w5.alloc (.cells #[.int .u8 7] 5)).heap.size (w5.alloc (.cells #[.int .u8 7] 5)) w' :=
    law02_wrong 1 (some ⟨w5.heap.size, 0, none⟩) 1 1 [7] (w5.alloc (.cells #[.int .u8 7] 5)) (Rd.lit w5 5 [.int .u8 7] rfl) rfl (by decide) (Nat.le_refl _) (by decide) k3
  go_wp2_with fail
  refine S5.mono ?_
  rintro e w6 ⟨rfl, hb6⟩
  have h6 := bthen (h5.alloc (h5.size) (.cells #[.int .u8 7] 5)) hb6
  clear S5 hb6
  have S6 : Calls Try.prog 73 #[.int .u8 1, .slice none 0 0] w6 fun e w' => e = .returned (.bool true) ∧ Below w6.heap.size w6 w' :=
    law02_wrong 1 none 0 0 [] w6 Rd.nil rfl (by decide) (Nat.le_refl _) (by decide) k4
  go_wp2_with fail
  refine S6.mono ?_
  rintro e w7 ⟨rfl, hb7⟩
  have h7 := bthen h6 hb7
  clear S6 hb7
  go_wp2_with fail
  go_ret
  exact ⟨rfl, h7⟩
end Go.Proofs.Ytechhidfgheejaa
