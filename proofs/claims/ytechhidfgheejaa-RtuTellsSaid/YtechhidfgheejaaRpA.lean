/- Replies as values; the walks of reply.Same and reply.Wrong. -/
import Derived.Test.YtechhidfgheejaaRpPlain
import Derived.Test.YtechhidfgheejaaMore
namespace Go.Proofs.Ytechhidfgheejaa
open Go.RowKit
set_option linter.unusedSimpArgs false
set_option linter.unusedVariables false

def rpV (f x : Nat) (B : Option Addr) (k d : Nat) (A : Option Addr) (n c : Nat) (t m : Nat) : Value := .agg #[.int .u8 (f : Int), .int .u8 (x : Int), .slice B k d, .slice A n c, .int .u16 (t : Int), .int .u16 (m : Int)]
def Rp.v (r : Rp) (A : Option Addr) (c : Nat) (B : Option Addr) (d : Nat) : Value := rpV r.fn r.ex B r.bits.length d A r.words.length c r.at_ r.many
/-- a reply's rows lie there -/
structure RpR (w : World) (r : Rp) (A B : Option Addr) : Prop where
  words : Rd w A (ws r.words)
  bits : Rd w B (os r.bits)
theorem RpR.below {w w' : World} {a : Rp} {A B : Option Addr} (h : RpR w a A B) (hb : Below w.heap.size w w') : RpR w' a A B := ⟨h.words.below hb, h.bits.below hb⟩

set_option maxHeartbeats 2000000 in
theorem reply_Same (a b : Rp) (A : Option Addr) (c : Nat) (B : Option Addr) (d : Nat) (A' : Option Addr) (c' : Nat) (B' : Option Addr) (d' : Nat) (w : World) (ha : RpR w a A B) (hb : RpR w b A' B') (hw : a.words.length ≤ 1000000) (hk : a.bits.length ≤ 1000000) :
    Calls Try.prog 17 #[a.v A c B d, b.v A' c' B' d'] w fun e w' => e = .returned (.bool (sameR a b)) ∧ Below w.heap.size w w' := by
  obtain ⟨a0, a1, a5, a4, a2, a3⟩ := a
  obtain ⟨b0, b1, b5, b4, b2, b3⟩ := b
  have HR : Hid (sameR ⟨a0, a1, a5, a4, a2, a3⟩ ⟨b0, b1, b5, b4, b2, b3⟩ = (decide (a0 = b0) && decide (a1 = b1) && decide (a2 = b2) && decide (a3 = b3) && sameO a5 b5 && sameB a4 b4)) := rfl
  unfold Rp.v rpV
  simp only at hw hk ⊢
  obtain ⟨n, hn⟩ : ∃ n, a4.length = n := ⟨_, rfl⟩
  obtain ⟨m, hm⟩ : ∃ m, a5.length = m := ⟨_, rfl⟩
  obtain ⟨n', hn'⟩ : ∃ n, b4.length = n := ⟨_, rfl⟩
  obtain ⟨m', hm'⟩ : ∃ m, b5.length = m := ⟨_, rfl⟩
  rw [hn] at hw ⊢
  rw [hm] at hk ⊢
  rw [hn', hm']
  obtain ⟨x0, hx0⟩ : ∃ b, decide (a0 = b0) = b := ⟨_, rfl⟩
  obtain ⟨x1, hx1⟩ : ∃ b, decide (a1 = b1) = b := ⟨_, rfl⟩
  obtain ⟨x2, hx2⟩ : ∃ b, decide (a2 = b2) = b := ⟨_, rfl⟩
  obtain ⟨x3, hx3⟩ : ∃ b, decide (a3 = b3) = b := ⟨_, rfl⟩
  have t0 := int_eqb a0 b0
  have t1 := int_eqb a1 b1
  have t2 := int_eqb a2 b2
  have t3 := int_eqb a3 b3
  rw [hx0] at t0
  rw [hx1] at t1
  rw [hx2] at t2
  rw [hx3] at t3
  rw [hx0, hx1, hx2, hx3] at HR
  clear hx0 hx1 hx2 hx3
  have E1 := Lib.hid (fun W (h1 : Rd W A (ws a4)) (h2 : Rd W A' (ws b4)) => equal_w A A' n c n' c' a4 b4 W h1 h2 hn hn' (by omega))
  have E2 := Lib.hid (fun W (h1 : Rd W B (os a5)) (h2 : Rd W B' (os b5)) => equal_o B B' m d m' d' a5 b5 W h1 h2 hm hm' (by omega))
  clear hn hm hn' hm'
  go_enter Try.func17, Try.ntmps17
  go_upto_region 1 with fail
  have hb1 := ((Below.refl _ w).alloc (Nat.le_refl _) (.cells #[.int .u8 (a0 : Int), .int .u8 (a1 : Int), .slice B m d, .slice A n c, .int .u16 (a2 : Int), .int .u16 (a3 : Int)] 36)).alloc (by simp [World.size_alloc]) (.cells #[.int .u8 (b0 : Int), .int .u8 (b1 : Int), .slice B' m' d', .slice A' n' c', .int .u16 (b2 : Int), .int .u16 (b3 : Int)] 36)
  have bx := (Blk.new w 36 #[.int .u8 (a0 : Int), .int .u8 (a1 : Int), .slice B m d, .slice A n c, .int .u16 (a2 : Int), .int .u16 (a3 : Int)]).alloc (.cells #[.int .u8 (b0 : Int), .int .u8 (b1 : Int), .slice B' m' d', .slice A' n' c', .int .u16 (b2 : Int), .int .u16 (b3 : Int)] 36)
  have by_ := Blk.newAt (w.alloc (.cells #[.int .u8 (a0 : Int), .int .u8 (a1 : Int), .slice B m d, .slice A n c, .int .u16 (a2 : Int), .int .u16 (a3 : Int)] 36)) 36 #[.int .u8 (b0 : Int), .int .u8 (b1 : Int), .slice B' m' d', .slice A' n' c', .int .u16 (b2 : Int), .int .u16 (b3 : Int)] (w.heap.size + 1) (World.size_alloc _ _)
  generalize ((w.alloc (.cells #[.int .u8 (a0 : Int), .int .u8 (a1 : Int), .slice B m d, .slice A n c, .int .u16 (a2 : Int), .int .u16 (a3 : Int)] 36)).alloc (.cells #[.int .u8 (b0 : Int), .int .u8 (b1 : Int), .slice B' m' d', .slice A' n' c', .int .u16 (b2 : Int), .int .u16 (b3 : Int)] 36)) = w1 at *
  have ha1 := ha.below hb1
  have hb1' := hb.below hb1
  obtain ⟨p0, p1, p2, p3, p4, p5⟩ := bx.c6
  obtain ⟨q0, q1, q2, q3, q4, q5⟩ := by_.c6
  cases x0 with
  | false =>
    go_wp2_with fail
    go_ret
    exact ⟨ret_bool (by rw [HR.out]; rfl), hb1⟩
  | true =>
  cases x1 with
  | false =>
    go_wp2_with fail
    go_ret
    exact ⟨ret_bool (by rw [HR.out]; rfl), hb1⟩
  | true =>
  cases x2 with
  | false =>
    go_wp2_with fail
    go_ret
    exact ⟨ret_bool (by rw [HR.out]; rfl), hb1⟩
  | true =>
  cases x3 with
  | false =>
    go_wp2_with fail
    go_ret
    exact ⟨ret_bool (by rw [HR.out]; rfl), hb1⟩
  | true =>
  have HR2 : Hid (sameR ⟨a0, a1, a5, a4, a2, a3⟩ ⟨b0, b1, b5, b4, b2, b3⟩ = (sameO a5 b5 && sameB a4 b4)) := by (show _ = _); rw [HR.out]; rfl
  obtain ⟨x4, hx4⟩ : ∃ b, sameB a4 b4 = b := ⟨_, rfl⟩
  obtain ⟨x5, hx5⟩ : ∃ b, sameO a5 b5 = b := ⟨_, rfl⟩
  rw [hx4] at E1
  rw [hx5] at E2
  rw [hx4, hx5] at HR2
  clear hx4 hx5 HR
  go_wp2_with fail
  refine (E2.out _ ha1.bits hb1'.bits).mono ?_
  rintro e w2 ⟨rfl, dn, rfl⟩
  have hb2 := below_drewN hb1 dn
  have bx2 := bx.drewN dn
  have by2 := by_.drewN dn
  have ha2 := ha.below hb2
  have hb2' := hb.below hb2
  generalize w1.drewN dn = w2 at *
  clear hb1 ha1 hb1' bx by_ p0 p1 p2 p3 p4 p5 q0 q1 q2 q3 q4 q5
  obtain ⟨p0, p1, p2, p3, p4, p5⟩ := bx2.c6
  obtain ⟨q0, q1, q2, q3, q4, q5⟩ := by2.c6
  cases x5 with
  | false =>
    go_wp2_with fail
    go_ret
    exact ⟨ret_bool (by rw [HR2.out]; rfl), hb2⟩
  | true =>
    go_wp2_with fail
    refine (E1.out _ ha2.words hb2'.words).mono ?_
    rintro e w3 ⟨rfl, dm, rfl⟩
    go_wp2_with fail
    go_ret
    exact ⟨ret_bool (by rw [HR2.out]; rfl), below_drewN hb2 dm⟩

set_option maxHeartbeats 1000000 in
theorem reply_Wrong (f x : Nat) (w : World) (hf : f < 256) (hx : x < 256) :
    Calls Try.prog 18 #[.int .u8 (f : Int), .int .u8 (x : Int)] w fun e w' => e = .returned ((wrongR f x).v none 0 none 0) ∧ Below w.heap.size w w' := by
  obtain ⟨g, hg⟩ : ∃ g, f % 128 = g := ⟨_, rfl⟩
  have hgi : (f : Int) % 128 = (g : Int) := by omega
  rw [show (wrongR f x).v none 0 none 0 = .agg #[.int .u8 (g : Int), .int .u8 (x : Int), .slice none 0 0, .slice none 0 0, .int .u16 0, .int .u16 0] from by rw [← hg]; rfl]
  clear hg
  have hb0 := (Below.refl _ w).alloc (Nat.le_refl _) (.cells #[.int .u8 0, .int .u8 0, .slice none 0 0, .slice none 0 0, .int .u16 0, .int .u16 0] 36)
  have bz := Blk.new w 36 #[.int .u8 0, .int .u8 0, .slice none 0 0, .slice none 0 0, .int .u16 0, .int .u16 0]
  obtain ⟨g1, hg1⟩ : ∃ g, w.heap.size = g := ⟨_, rfl⟩
  have hwg : w.heap.size ≤ g1 := by omega
  go_enter Try.func18, Try.ntmps18
  go_upto_region 1 with fail
  rw [hg1] at bz
  (try rw [hg1])
  clear hg1
  generalize w.alloc (.cells #[.int .u8 0, .int .u8 0, .slice none 0 0, .slice none 0 0, .int .u16 0, .int .u16 0] 36) = w1 at *
  obtain ⟨z0, z1, z2, z3, z4, z5⟩ := bz.c6
  have q0 := bz.frozen 0
  have q1 := bz.frozen 1
  have q2 := bz.frozen 2
  have q3 := bz.frozen 3
  have q4 := bz.frozen 4
  have q5 := bz.frozen 5
  go_wp2_with fail
  refine bodyPost_ret (v := .agg #[.int .u8 (g : Int), .int .u8 (x : Int), .slice none 0 0, .slice none 0 0, .int .u16 0, .int .u16 0]) (by simp [results, Try.results18, go_sem, z0, z1, z2, z3, z4, z5]) rfl ?_
  exact ⟨rfl, bset6 hb0 hwg _ _ _ _ _ _⟩
end Go.Proofs.Ytechhidfgheejaa
