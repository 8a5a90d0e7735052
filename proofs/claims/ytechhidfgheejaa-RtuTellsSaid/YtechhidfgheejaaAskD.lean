/- The walk of ask.Same, and of bytes.Equal. -/
import Derived.Test.YtechhidfgheejaaAskC
import Derived.Test.YtechhidfgheejaaEq
import Derived.Test.YtechhidfgheejaaLow
import Derived.Test.YtechhidfgheejaaBlk
namespace Go.Proofs.Ytechhidfgheejaa
open Go.RowKit
set_option linter.unusedSimpArgs false
set_option linter.unusedVariables false

def Ak.v (a : Ak) (A : Option Addr) (c : Nat) (B : Option Addr) (d : Nat) : Value := akV a.fn a.at_ a.many a.to_ A a.words.length c B a.bits.length d
/-- a request's rows lie there -/
structure AkR (w : World) (a : Ak) (A B : Option Addr) : Prop where
  words : Rd w A (ws a.words)
  bits : Rd w B (os a.bits)
theorem AkR.below {w w' : World} {a : Ak} {A B : Option Addr} (h : AkR w a A B) (hb : Below w.heap.size w w') : AkR w' a A B := ⟨h.words.below hb, h.bits.below hb⟩
def sameA (a b : Ak) : Bool := decide (a.fn = b.fn) && decide (a.at_ = b.at_) && decide (a.many = b.many) && decide (a.to_ = b.to_) && sameB a.words b.words && sameO a.bits b.bits
theorem sameA_iff {a b : Ak} : sameA a b = true ↔ a = b := by
  obtain ⟨a0, a1, a2, a3, a4, a5⟩ := a
  obtain ⟨b0, b1, b2, b3, b4, b5⟩ := b
  simp only [sameA, Bool.and_eq_true, decide_eq_true_eq, sameB_iff, sameO_iff, Ak.mk.injEq]
  constructor
  · rintro ⟨⟨⟨⟨⟨h0, h1⟩, h2⟩, h3⟩, h4⟩, h5⟩; exact ⟨h0, h1, h2, h3, h4, h5⟩
  · rintro ⟨h0, h1, h2, h3, h4, h5⟩; exact ⟨⟨⟨⟨⟨h0, h1⟩, h2⟩, h3⟩, h4⟩, h5⟩
theorem sameA_eq (a b : Ak) : sameA a b = decide (a = b) := by rw [Bool.eq_iff_iff, sameA_iff]; simp
theorem int_eqb (x y : Nat) : ((x : Int) == (y : Int)) = decide (x = y) := by
  by_cases h : x = y
  · simp [h]
  · have : ¬ ((x : Int) = (y : Int)) := by omega
    simp [h, this]

set_option maxHeartbeats 400000 in
theorem bytes_Equal (A B : Option Addr) (n c m d : Nat) (l k : List Nat) (w : World) (hA : Rd w A (bs l)) (hB : Rd w B (bs k)) (hl : Bs l) (hk : Bs k) (hn : l.length = n) (hm : k.length = m) :
    Calls Try.prog 62 #[.slice A n c, .slice B m d] w fun e w' => e = .returned (.bool (sameB l k)) ∧ w = w' := by
  have c1 := conv_bytes w A n c l hA hn
  have c2 := conv_bytes w B m d k hB hm
  clear hn hm
  go_enter Try.func62, Try.ntmps62
  go_wp2
  go_ret
  exact ⟨by rw [← strN_same l k hl hk]; rfl, rfl⟩

set_option maxHeartbeats 2000000 in
theorem ask_Same (a b : Ak) (A : Option Addr) (c : Nat) (B : Option Addr) (d : Nat) (A' : Option Addr) (c' : Nat) (B' : Option Addr) (d' : Nat) (w : World) (ha : AkR w a A B) (hb : AkR w b A' B') (hw : a.words.length ≤ 1000000) (hk : a.bits.length ≤ 1000000) :
    Calls Try.prog 26 #[a.v A c B d, b.v A' c' B' d'] w fun e w' => e = .returned (.bool (sameA a b)) ∧ Below w.heap.size w w' := by
  obtain ⟨a0, a1, a2, a3, a4, a5⟩ := a
  obtain ⟨b0, b1, b2, b3, b4, b5⟩ := b
  have HR : Hid (sameA ⟨a0, a1, a2, a3, a4, a5⟩ ⟨b0, b1, b2, b3, b4, b5⟩ = (decide (a0 = b0) && decide (a1 = b1) && decide (a2 = b2) && decide (a3 = b3) && sameB a4 b4 && sameO a5 b5)) := rfl
  unfold Ak.v akV
  simp only at hw hk ⊢
  obtain ⟨n, hn⟩ : ∃ n, a4.length = n := ⟨_, rfl⟩
  obtain ⟨m, hm⟩ : ∃ m, a5.length = m := ⟨_, rfl⟩
  obtain ⟨n', hn'⟩ : ∃ n, b4.length = n := ⟨_, rfl⟩
  obtain ⟨m', hm'⟩ : ∃ m, b5.length = m := ⟨_, rfl⟩
  rw [hn] at hw ⊢
  rw [hm] at hk ⊢
  rw [hn', hm']
  obtain ⟨x0, hx0⟩ : ∃ b, decide (a0 = b0) = b := ⟨_, rfl⟩
  obtain ⟨x1, hx1⟩ : ∃ b, decide (a1 = b1) = b := ⟨_, rfl⟩
  obtain ⟨x2, hx2⟩ : ∃ b, decide (a2 = b2) = b := ⟨_, rfl⟩
  obtain ⟨x3, hx3⟩ : ∃ b, decide (a3 = b3) = b := ⟨_, rfl⟩
  have t0 := int_eqb a0 b0
  have t1 := int_eqb a1 b1
  have t2 := int_eqb a2 b2
  have t3 := int_eqb a3 b3
  rw [hx0] at t0
  rw [hx1] at t1
  rw [hx2] at t2
  rw [hx3] at t3
  rw [hx0, hx1, hx2, hx3] at HR
  clear hx0 hx1 hx2 hx3
  have E1 := Lib.hid (fun W (h1 : Rd W A (ws a4)) (h2 : Rd W A' (ws b4)) => equal_w A A' n c n' c' a4 b4 W h1 h2 hn hn' (by omega))
  have E2 := Lib.hid (fun W (h1 : Rd W B (os a5)) (h2 : Rd W B' (os b5)) => equal_o B B' m d m' d' a5 b5 W h1 h2 hm hm' (by omega))
  clear hn hm hn' hm'
  go_enter Try.func26, Try.ntmps26
  go_upto_region 1 with fail
  have hb1 := ((Below.refl _ w).alloc (Nat.le_refl _) (.cells #[.int .u8 (a0 : Int), .int .u16 (a1 : Int), .int .u16 (a2 : Int), .int .u16 (a3 : Int), .slice A n c, .slice B m d] 41)).alloc (by simp [World.size_alloc]) (.cells #[.int .u8 (b0 : Int), .int .u16 (b1 : Int), .int .u16 (b2 : Int), .int .u16 (b3 : Int), .slice A' n' c', .slice B' m' d'] 41)
  have bx := (Blk.new w 41 #[.int .u8 (a0 : Int), .int .u16 (a1 : Int), .int .u16 (a2 : Int), .int .u16 (a3 : Int), .slice A n c, .slice B m d]).alloc (.cells #[.int .u8 (b0 : Int), .int .u16 (b1 : Int), .int .u16 (b2 : Int), .int .u16 (b3 : Int), .slice A' n' c', .slice B' m' d'] 41)
  have by_ := Blk.newAt (w.alloc (.cells #[.int .u8 (a0 : Int), .int .u16 (a1 : Int), .int .u16 (a2 : Int), .int .u16 (a3 : Int), .slice A n c, .slice B m d] 41)) 41 #[.int .u8 (b0 : Int), .int .u16 (b1 : Int), .int .u16 (b2 : Int), .int .u16 (b3 : Int), .slice A' n' c', .slice B' m' d'] (w.heap.size + 1) (World.size_alloc _ _)
  generalize ((w.alloc (.cells #[.int .u8 (a0 : Int), .int .u16 (a1 : Int), .int .u16 (a2 : Int), .int .u16 (a3 : Int), .slice A n c, .slice B m d] 41)).alloc (.cells #[.int .u8 (b0 : Int), .int .u16 (b1 : Int), .int .u16 (b2 : Int), .int .u16 (b3 : Int), .slice A' n' c', .slice B' m' d'] 41)) = w1 at *
  have ha1 := ha.below hb1
  have hb1' := hb.below hb1
  obtain ⟨p0, p1, p2, p3, p4, p5⟩ := bx.c6
  obtain ⟨q0, q1, q2, q3, q4, q5⟩ := by_.c6
  cases x0 with
  | false =>
    go_wp2_with fail
    go_ret
    exact ⟨ret_bool (by rw [HR.out]; rfl), hb1⟩
  | true =>
  cases x1 with
  | false =>
    go_wp2_with fail
    go_ret
    exact ⟨ret_bool (by rw [HR.out]; rfl), hb1⟩
  | true =>
  cases x2 with
  | false =>
    go_wp2_with fail
    go_ret
    exact ⟨ret_bool (by rw [HR.out]; rfl), hb1⟩
  | true =>
  cases x3 with
  | false =>
    go_wp2_with fail
    go_ret
    exact ⟨ret_bool (by rw [HR.out]; rfl), hb1⟩
  | true =>
  have HR2 : Hid (sameA ⟨a0, a1, a2, a3, a4, a5⟩ ⟨b0, b1, b2, b3, b4, b5⟩ = (sameB a4 b4 && sameO a5 b5)) := by (show _ = _); rw [HR.out]; rfl
  obtain ⟨x4, hx4⟩ : ∃ b, sameB a4 b4 = b := ⟨_, rfl⟩
  obtain ⟨x5, hx5⟩ : ∃ b, sameO a5 b5 = b := ⟨_, rfl⟩
  rw [hx4] at E1
  rw [hx5] at E2
  rw [hx4, hx5] at HR2
  clear hx4 hx5 HR
  go_wp2_with fail
  refine (E1.out _ ha1.words hb1'.words).mono ?_
  rintro e w2 ⟨rfl, dn, rfl⟩
  have hb2 := below_drewN hb1 dn
  have bx2 := bx.drewN dn
  have by2 := by_.drewN dn
  have ha2 := ha.below hb2
  have hb2' := hb.below hb2
  generalize w1.drewN dn = w2 at *
  clear hb1 ha1 hb1' bx by_ p0 p1 p2 p3 p4 p5 q0 q1 q2 q3 q4 q5
  obtain ⟨p0, p1, p2, p3, p4, p5⟩ := bx2.c6
  obtain ⟨q0, q1, q2, q3, q4, q5⟩ := by2.c6
  cases x4 with
  | false =>
    go_wp2_with fail
    go_ret
    exact ⟨ret_bool (by rw [HR2.out]; rfl), hb2⟩
  | true =>
    go_wp2_with fail
    refine (E2.out _ ha2.bits hb2'.bits).mono ?_
    rintro e w3 ⟨rfl, dm, rfl⟩
    go_wp2_with fail
    go_ret
    exact ⟨ret_bool (by rw [HR2.out]; rfl), below_drewN hb2 dm⟩
end Go.Proofs.Ytechhidfgheejaa
