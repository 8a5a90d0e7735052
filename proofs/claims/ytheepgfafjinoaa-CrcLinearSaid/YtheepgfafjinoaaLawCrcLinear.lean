/- saucierlaw01.CrcLinear returns true: of three rows changed together, the sum is that of their sums. -/
import Derived.Test.YtheepgfafjinoaaLawCrcTells
import Derived.BigRegion
import Derived.Deep.RegionHeld3
import Derived.Deep.DeepCutAuto
import Derived.WalkLawsBesides
namespace Go.Proofs.Ytheepgfafjinoaa
open Go.RowKit
set_option linter.unusedSimpArgs false
set_option linter.unusedVariables false

theorem run_min_int4 {P : Program} (w : World) (ts : Array TypeId) (t : TypeId) (x y z u : Int) (m : Int) (h : m ≤ x ∧ m ≤ y ∧ m ≤ z ∧ m ≤ u ∧ (m = x ∨ m = y ∨ m = z ∨ m = u)) :
    (Builtin.min_ ts t #[.int .i64 x, .int .i64 y, .int .i64 z, .int .i64 u]).run P w = .ok (.int .i64 m) w := by
  simp [Builtin.min_, Builtin.min2]
  split <;> split <;> split <;> omega
theorem u8_xor3 (x y z : Nat) (hx : x < 256) (hy : y < 256) (hz : z < 256) : bits .xor .u8 (bits .xor .u8 (x : Int) (y : Int)) (z : Int) = ((x ^^^ y ^^^ z : Nat) : Int) := by
  rw [u8_xor_nat x y hx hy, u8_xor_nat _ z (Nat.xor_lt_two_pow (n := 8) hx hy) hz]

theorem u16_xor3 (x y z : Nat) (hx : x < 65536) (hy : y < 65536) (hz : z < 65536) : bits .xor .u16 (bits .xor .u16 (x : Int) (y : Int)) (z : Int) = ((x ^^^ y ^^^ z : Nat) : Int) := by
  rw [u16_xor_nat x y hx hy, u16_xor_nat _ z (Crc.xor_lt16 hx hy) hz]
theorem xor3_Bs : ∀ (a b c : List Nat), Bs a → Bs b → Bs c → Bs (Crc.xor3 a b c)
  | x :: a, y :: b, z :: c, h1, h2, h3 => by
    intro u hu
    simp only [Crc.xor3, List.mem_cons] at hu
    rcases hu with rfl | hu
    · exact Nat.xor_lt_two_pow (n := 8) (Nat.xor_lt_two_pow (n := 8) (h1 x (by simp)) (h2 y (by simp))) (h3 z (by simp))
    · exact xor3_Bs a b c (fun v hv => h1 v (by simp [hv])) (fun v hv => h2 v (by simp [hv])) (fun v hv => h3 v (by simp [hv])) u hu
  | [], _, _, _, _, _ => by intro u hu; simp [Crc.xor3] at hu
  | _ :: _, [], _, _, _, _ => by intro u hu; simp [Crc.xor3] at hu
  | _ :: _, _ :: _, [], _, _, _ => by intro u hu; simp [Crc.xor3] at hu
/-- what is held while the sums are asked for -/
structure LinS (w : World) (g : Nat) (X : List Nat) (w' : World) : Prop where
  b : Below w.heap.size w w'
  r : Rd w' (some ⟨g, 0, none⟩) (bs X)
theorem LinS.step {w w' w2 : World} {g : Nat} {X : List Nat} (h : LinS w g X w') (hb : Below w'.heap.size w' w2) : LinS w g X w2 := ⟨bthen h.1 hb, h.2.below hb⟩

set_option maxHeartbeats 1000000 in
theorem CrcLinear_walk (A : Option Addr) (n c : Nat) (l : List Nat) (A2 : Option Addr) (n2 c2 : Nat) (l2 : List Nat) (A3 : Option Addr) (n3 c3 : Nat) (l3 : List Nat) (w : World)
    (hA : Rd w A (bs l)) (hn : l.length = n) (hl : Bs l) (hc : n ≤ c) (hA2 : Rd w A2 (bs l2)) (hn2 : l2.length = n2) (hl2 : Bs l2) (hc2 : n2 ≤ c2) (hA3 : Rd w A3 (bs l3)) (hn3 : l3.length = n3) (hl3 : Bs l3) (hc3 : n3 ≤ c3) :
    Calls Try.prog 3 #[.slice A n c, .slice A2 n2 c2, .slice A3 n3 c3] w fun e w' => e = .returned (.bool true) ∧ Below w.heap.size w w' := by
  have HN := Lib.hid hn
  have HN2 := Lib.hid hn2
  have HN3 := Lib.hid hn3
  obtain ⟨m, hm⟩ : ∃ m : Nat, m = min (min n n2) (min n3 200) := ⟨_, rfl⟩
  have m1 : m ≤ n := by omega
  have m2 : m ≤ n2 := by omega
  have m3 : m ≤ n3 := by omega
  have m4 : m ≤ 200 := by omega
  have hmin := fun W => run_min_int4 (P := Try.prog) W #[3, 3, 3, 3] 3 n n2 n3 200 m (by omega)
  clear hm hn hn2 hn3
  go_enter Try.func3, Try.ntmps3
  go_wp2_with (at_make; refine mkn_b rfl _ _ rfl w (Below.refl _ _) _ _ _ _ m rfl rfl rfl rfl (by omega) ?_; intro w1 ho1 hb1 hg1 hsz1)
  clear hmin hg1
  have HSZ := Lib.hid hsz1
  clear hsz1
  obtain ⟨g, hg⟩ : ∃ g, w.heap.size = g := ⟨_, rfl⟩
  have hgw : w.heap.size ≤ g := by omega
  have HG := Lib.hid hg
  rw [hg]
  have ho : Ow w1 w.heap.size 5 (some ⟨g, 0, none⟩) m (bs (Crc.rowX l l2 l3 m 0)) := by rw [Crc.rowX_zero, ← HG.out]; exact ho1
  clear ho1 hg
  go_loopw [21] (fun i wr => ∃ j : Nat, j ≤ m ∧ i = .int .i64 j ∧ Below w.heap.size w wr ∧ Ow wr w.heap.size 5 (some ⟨g, 0, none⟩) m (bs (Crc.rowX l l2 l3 m j))) (fun i _ => m - (intOf i).toNat)
  case atStart => exact ⟨0, by omega, rfl, hb1, ho⟩
  case round =>
    obtain ⟨j, hj, rfl, hbr, hor⟩ := hrel
    by_cases hlt : j < m
    · obtain ⟨b1, o1, x, rfl, hx, cx⟩ := (hA.below hbr).byte (k := j) (by rw [HN.out]; omega)
      obtain ⟨b2, o2, y, rfl, hy, cy⟩ := (hA2.below hbr).byte (k := j) (by rw [HN2.out]; omega)
      obtain ⟨b3, o3, z, rfl, hz, cz⟩ := (hA3.below hbr).byte (k := j) (by rw [HN3.out]; omega)
      have hxb := hl.get hx
      have hyb := hl2.get hy
      have hzb := hl3.get hz
      have HT := Lib.hid (Crc.rowX_set l l2 l3 m j x y z hx hy hz hlt)
      have hlen := Crc.rowX_length l l2 l3 m j (by rw [HN.out]; exact m1) (by rw [HN2.out]; exact m2) (by rw [HN3.out]; exact m3) hj
      obtain ⟨⟨u, hu, cu⟩, fu, hgB, hgl⟩ := hor.at_ (j := j) (by rw [bs_length, hlen]; exact hlt)
      have e1 := u8_xor3 x y z hxb hyb hzb
      have jn : (j : Int) < (n : Int) := by omega
      have jn2 : (j : Int) < (n2 : Int) := by omega
      have jn3 : (j : Int) < (n3 : Int) := by omega
      have j0 : (0 : Int) ≤ (j : Int) := by omega
      clear hx hy hz hu hlen
      go_wp2_with fail
      go_region
      go_wp2_with fail
      go_roundw
      case rel => exact ⟨j + 1, by omega, by go_num, (hbr.setCell (p := ⟨g, j, none⟩) hgB _).drew, by have := (hor.stored j (.int .u8 ((x ^^^ y ^^^ z : Nat) : Int))).drew; rw [bs_set, HT.out] at this; exact this⟩
      case measure => simp [intOf]; omega
    · obtain rfl : j = m := by omega
      rw [Crc.rowX_full] at hor
      have hS0 : LinS w g (Crc.xor3 (l.take j) (l2.take j) (l3.take j)) wr.drew := ⟨hbr.drew, hor.rd.drew⟩
      have q1 : (l.take j).length = j := by rw [List.length_take, HN.out]; omega
      have q2 : (l2.take j).length = j := by rw [List.length_take, HN2.out]; omega
      have q3 : (l3.take j).length = j := by rw [List.length_take, HN3.out]; omega
      have Q := Lib.hid q1
      have Q2 := Lib.hid q2
      have Q3 := Lib.hid q3
      have QX : Hid ((Crc.xor3 (l.take j) (l2.take j) (l3.take j)).length = j) := by (show _ = _); rw [Crc.xor3_length _ _ _ (by omega) (by omega), q1]
      have BX : Bs (Crc.xor3 (l.take j) (l2.take j) (l3.take j)) := xor3_Bs _ _ _ (hl.take j) (hl2.take j) (hl3.take j)
      have s1 := Crc.sum_lt (hl.take j)
      have s2 := Crc.sum_lt (hl2.take j)
      have s3 := Crc.sum_lt (hl3.take j)
      have e1 := u16_xor3 _ _ _ s1 s2 s3
      have e2 : ((Crc.sum (Crc.xor3 (l.take j) (l2.take j) (l3.take j)) : Int) == ((Crc.sum (l.take j) ^^^ Crc.sum (l2.take j) ^^^ Crc.sum (l3.take j) : Nat) : Int)) = true := by
        rw [Crc.sum_xor3 _ _ _ (by omega) (by omega)]; simp
      have g1 : (j : Int) ≤ (c : Int) := by omega
      have g2 : (j : Int) ≤ (c2 : Int) := by omega
      have g3 : (j : Int) ≤ (c3 : Int) := by omega
      have j0 : (0 : Int) ≤ (j : Int) := by omega
      have hj2 : j ≤ 1000000000 := by omega
      clear q1 q2 q3 s1 s2 s3
      go_wp2_with fail
      go_region_held3 (fun w' => LinS w g (Crc.xor3 (l.take j) (l2.take j) (l3.take j)) w') (first | exact hS0 | exact hS.step hb5)
        (first
          | (go_at_call_of 15 (Value.slice (some ⟨g, 0, none⟩) j j); have hS := ‹LinS w g (Crc.xor3 (l.take j) (l2.take j) (l3.take j)) _›; refine (crc_Sum _ j _ (Crc.xor3 (l.take j) (l2.take j) (l3.take j)) _ (by exact hS.2) QX.out BX hj2).mono ?_; rintro e w5 ⟨rfl, hb5⟩)
          | (go_at_call_of 15 (Value.slice A j c); have hS := ‹LinS w g (Crc.xor3 (l.take j) (l2.take j) (l3.take j)) _›; refine (crc_Sum _ j _ (l.take j) _ (by exact (hA.below hS.1).btake j) Q.out (hl.take j) hj2).mono ?_; rintro e w5 ⟨rfl, hb5⟩)
          | (go_at_call_of 15 (Value.slice A2 j c2); have hS := ‹LinS w g (Crc.xor3 (l.take j) (l2.take j) (l3.take j)) _›; refine (crc_Sum _ j _ (l2.take j) _ (by exact (hA2.below hS.1).btake j) Q2.out (hl2.take j) hj2).mono ?_; rintro e w5 ⟨rfl, hb5⟩)
          | (go_at_call_of 15 (Value.slice A3 j c3); have hS := ‹LinS w g (Crc.xor3 (l.take j) (l2.take j) (l3.take j)) _›; refine (crc_Sum _ j _ (l3.take j) _ (by exact (hA3.below hS.1).btake j) Q3.out (hl3.take j) hj2).mono ?_; rintro e w5 ⟨rfl, hb5⟩)
          | (go_at_call 16; have hS := ‹LinS w g (Crc.xor3 (l.take j) (l2.take j) (l3.take j)) _›; refine (crc_awake _).mono ?_; rintro e w5 ⟨rfl, hb5⟩))
      go_wp2_with fail
      go_ret
      exact ⟨rfl, (hS.step hb5).b⟩
end Go.Proofs.Ytheepgfafjinoaa
