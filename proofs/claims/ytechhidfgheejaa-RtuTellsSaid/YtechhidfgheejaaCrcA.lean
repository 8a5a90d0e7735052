/- The walks of crc.Next and crc.Sum. With: The walks of crc's step and table. -/
import Derived.Test.YtechhidfgheejaaProg
import Derived.Test.YtechhidfgheejaaCrcMath
import Derived.WalkKit
import Derived.WalkLawsBesides
import Derived.WalkSpells
import Derived.Lib.Hide
import Derived.Deep.LoopGhost
import Derived.Deep.QuietTactic
import Derived.BigQuiet
import Derived.Test.YtechhidfgheejaaWords
import Derived.Deep.WholeRow
namespace Go.Proofs.Ytechhidfgheejaa
open Go.RowKit
set_option linter.unusedSimpArgs false
set_option linter.unusedVariables false

theorem u16_and15 (x : Nat) (hx : x < 65536) : bits .and .u16 (x : Int) 15 = ((x % 16 : Nat) : Int) := by
  have h := u16_and_nat x 15 hx (by omega)
  rw [show x &&& 15 = x % 16 from Nat.and_two_pow_sub_one_eq_mod x 4] at h
  exact h
theorem u16_nib (x : Nat) (hx : x < 65536) : bits .xor .u16 ((x : Int) / 16) ((Crc.sh4 (x % 16) : Nat) : Int) = ((Crc.sh4 x : Nat) : Int) := by
  have h := u16_xor_nat (x / 16) (Crc.sh4 (x % 16)) (by omega) (Crc.sh4_lt (by omega))
  rw [Crc.nib_eq, Int.natCast_ediv] at h
  exact h

set_option maxHeartbeats 400000 in
theorem crc_step (b off s c : Nat) (w : World) (hs : s < 65536) (hc : c < 256)
    (ht : ∀ i, i < 16 → w.cell? ⟨b, off + i, none⟩ = some (.int .u16 (Crc.sh4 i : Nat))) :
    Calls Try.prog 101 #[.pointer (some ⟨b, off, none⟩), .int .u16 s, .int .u8 c] w fun e w' => e = .returned (.int .u16 (Crc.nxt s c : Nat)) ∧ w = w' := by
  obtain ⟨x, hxe⟩ : ∃ x, x = s ^^^ c := ⟨_, rfl⟩
  have hx : x < 65536 := by rw [hxe]; exact Crc.xor_lt16 hs (by omega)
  obtain ⟨y, hye⟩ : ∃ y, y = Crc.sh4 x := ⟨_, rfl⟩
  have hy : y < 65536 := by rw [hye]; exact Crc.sh4_lt hx
  have e1 : bits .xor .u16 (s : Int) (c : Int) = (x : Int) := by rw [hxe]; exact u16_xor_nat s c hs (by omega)
  have e2 := u16_and15 x hx
  have e3 := u16_nib x hx
  have e4 := u16_and15 y hy
  have e5 := u16_nib y hy
  have c1 := ht (x % 16) (by omega)
  have c2 := ht (y % 16) (by omega)
  rw [← hye] at e3
  have b1 : x % 16 < 16 := by omega
  have b2 : y % 16 < 16 := by omega
  have HE : Hid (Crc.nxt s c = Crc.sh4 y) := by show Crc.nxt s c = _; rw [hye, hxe]; rfl
  clear hxe hye ht
  go_enter Try.func101, Try.ntmps101
  go_wp2
  go_ret
  rw [HE.out]
  simp

theorem u16_and1 (x : Nat) (hx : x < 65536) : bits .and .u16 (x : Int) 1 = ((x % 2 : Nat) : Int) := by
  have h := u16_and_nat x 1 hx (by omega)
  rw [show x &&& 1 = x % 2 from Nat.and_two_pow_sub_one_eq_mod x 1] at h
  exact h
theorem u16_sh1 (x : Nat) (hx : x < 65536) (ho : x % 2 = 1) : bits .xor .u16 ((x : Int) / 2) 40961 = ((Crc.sh x : Nat) : Int) := by
  have h := u16_xor_nat (x / 2) 40961 (by omega) (by omega)
  unfold Crc.sh
  rw [if_pos ho, ← h, Int.natCast_ediv]
  rfl

def shN : Nat → Nat → Nat
  | 0, x => x
  | n + 1, x => Crc.sh (shN n x)
theorem shN_lt (n x : Nat) (h : x < 65536) : shN n x < 65536 := by
  induction n with
  | zero => exact h
  | succ n ih => exact Crc.sh_lt ih
/-- the table's cells, the first k of them filled -/
def tabArr (k : Nat) : Array Value := ((List.range 16).map fun i => if i < k then Value.int .u16 (Crc.sh4 i : Nat) else .int .u16 0).toArray
theorem tabArr_zero : tabArr 0 = #[.int .u16 0, .int .u16 0, .int .u16 0, .int .u16 0, .int .u16 0, .int .u16 0, .int .u16 0, .int .u16 0, .int .u16 0, .int .u16 0, .int .u16 0, .int .u16 0, .int .u16 0, .int .u16 0, .int .u16 0, .int .u16 0] := by rfl
theorem tabArr_full : tabArr 16 = #[.int .u16 0, .int .u16 52225, .int .u16 55297, .int .u16 5120, .int .u16 61441, .int .u16 15360, .int .u16 10240, .int .u16 58369, .int .u16 40961, .int .u16 27648, .int .u16 30720, .int .u16 46081, .int .u16 20480, .int .u16 39937, .int .u16 34817, .int .u16 17408] := by rfl
theorem tabArr_get (k i : Nat) (hi : i < 16) : (tabArr k)[i]? = some (if i < k then Value.int .u16 (Crc.sh4 i : Nat) else .int .u16 0) := by
  simp [tabArr, hi]
theorem tabArr_size (k : Nat) : (tabArr k).size = 16 := by simp [tabArr]
theorem tabArr_set (k : Nat) (hk : k < 16) : (tabArr k).setIfInBounds k (.int .u16 (Crc.sh4 k : Nat)) = tabArr (k + 1) := by
  apply Array.ext_getElem?
  intro i
  rw [Array.getElem?_setIfInBounds, tabArr_size]
  by_cases h16 : i < 16
  · rw [tabArr_get _ _ h16, tabArr_get _ _ h16]
    by_cases e : k = i
    · subst e; simp [hk]
    · simp only [e, if_false]
      by_cases h : i < k
      · rw [if_pos h, if_pos (by omega)]
      · rw [if_neg h, if_neg (by omega)]
  · rw [Array.getElem?_eq_none (by rw [tabArr_size]; omega), Array.getElem?_eq_none (by rw [tabArr_size]; omega)]
    split <;> (try split) <;> first | rfl | omega

set_option maxHeartbeats 1000000 in
theorem crc_table (w : World) :
    Calls Try.prog 100 #[] w fun e w' => e = .returned (.agg (tabArr 16)) ∧ Below w.heap.size w w' := by
  go_enter Try.func100, Try.ntmps100
  go_wp2
  rw [← tabArr_zero]
  go_loopw [5] (fun i wr => ∃ k : Nat, k ≤ 16 ∧ i = .int .i64 k ∧ (w.alloc (.cells (tabArr 0) 148)).alloc (.cells (tabArr k) 148) = wr) (fun i _ => 16 - (intOf i).toNat)
  case atStart => exact ⟨0, by omega, rfl, rfl⟩
  case round =>
    obtain ⟨k, hk, rfl, rfl⟩ := hrel
    by_cases hlt : k < 16
    · go_wp2
      go_loop [3, 10] (fun x j => ∃ m : Nat, m ≤ 4 ∧ j = .int .i64 m ∧ x = .int .u16 (shN m k : Nat)) (fun _ j => 4 - (intOf j).toNat)
      case atStart => exact ⟨0, by omega, rfl, rfl⟩
      case round =>
        obtain ⟨m, hm, rfl, rfl⟩ := hrel
        have hx := shN_lt m k (by omega)
        have HS : Hid (shN (m + 1) k = Crc.sh (shN m k)) := rfl
        obtain ⟨x, hxe⟩ : ∃ x, shN m k = x := ⟨_, rfl⟩
        have HX := Lib.hid hxe
        rw [hxe] at hx ⊢
        clear hxe
        by_cases hlt4 : m < 4
        · by_cases hodd : x % 2 = 1
          · have e1 := u16_and1 x hx
            rw [hodd] at e1
            have e2 := u16_sh1 x hx hodd
            clear hodd
            go_wp2
            go_round
            case rel => exact ⟨m + 1, by omega, by go_num, by rw [HS.out, HX.out]⟩
            case measure => simp [intOf]; omega
          · have e1 := u16_and1 x hx
            rw [show x % 2 = 0 by omega] at e1
            have HZ : Hid (Crc.sh x = x / 2) := by show Crc.sh x = _; unfold Crc.sh; rw [if_neg hodd]
            clear hodd
            go_wp2
            go_round
            case rel => exact ⟨m + 1, by omega, by go_num, by rw [HS.out, HX.out, HZ.out]; simp⟩
            case measure => simp [intOf]; omega
        · obtain rfl : m = 4 := by omega
          have HK : Hid (x = Crc.sh4 k) := by rw [← HX.out]; exact rfl
          have hsz := tabArr_size k
          go_wp2
          go_roundw
          case rel => exact ⟨k + 1, by omega, by go_num, by rw [HK.out, tabArr_set k hlt]⟩
          case measure => simp [intOf]; omega
    · obtain rfl : k = 16 := by omega
      rw [tabArr_full, tabArr_zero]
      go_wp2
      refine bodyPost_ret (v := .agg (tabArr 16)) (by simp [results, Try.results100, go_sem, tabArr_full]) rfl ⟨rfl, ?_⟩
      exact ((Below.refl _ _).alloc (Nat.le_refl _) _).alloc (by simp) _
end Go.Proofs.Ytechhidfgheejaa
namespace Go.Proofs.Ytechhidfgheejaa
open Go.RowKit
set_option linter.unusedSimpArgs false
set_option linter.unusedVariables false

theorem st_tab (W : World) : (storeCells ⟨W.heap.size, 0, none⟩ (tabArr 16).toList 0).run Try.prog (W.alloc (.cells (tabArr 0) 148)) = .ok () (W.alloc (.cells (tabArr 16) 148)) :=
  run_storeCells_new W 148 (tabArr 0) (tabArr 16) (by kernel_rfl) rfl (by rw [tabArr_full]; decide +kernel)
theorem tab_cells (W : World) (i : Nat) (hi : i < 16) : (W.alloc (.cells (tabArr 16) 148)).cell? ⟨W.heap.size, 0 + i, none⟩ = some (.int .u16 (Crc.sh4 i : Nat)) := by
  rw [Nat.zero_add, World.cell?_alloc_at _ _ _ _ rfl, tabArr_get _ _ hi, if_pos hi]

set_option maxHeartbeats 1000000 in
theorem crc_Sum (A : Option Addr) (n c : Nat) (l : List Nat) (w : World) (hA : Rd w A (bs l)) (hn : l.length = n) (hl : Bs l) (hm : n ≤ 1000000000) :
    Calls Try.prog 98 #[.slice A n c] w fun e w' => e = .returned (.int .u16 (Crc.sum l : Nat)) ∧ Below w.heap.size w w' := by
  have HN := Lib.hid hn
  clear hn
  have hst := st_tab
  rw [tabArr_zero] at hst
  have hsz : (tabArr 16).size = 16 := tabArr_size 16
  go_enter Try.func98, Try.ntmps98
  go_wp2_with (go_at_call 100; refine (crc_table _).mono ?_; rintro e w1 ⟨rfl, hb⟩)
  have hA1 := (hA.below hb).alloc (.cells (tabArr 16) 148)
  have ht := tab_cells w1
  have hbb := hb.alloc hb.size (.cells (tabArr 16) 148)
  generalize w1.alloc (.cells (tabArr 16) 148) = w2 at *
  go_loopw [4, 9] (fun s i wr => ∃ k : Nat, k ≤ n ∧ i = .int .i64 k ∧ s = .int .u16 (Crc.sum (l.take k) : Nat) ∧ w2 = wr) (fun _ i _ => n - (intOf i).toNat)
  case atStart => exact ⟨0, by omega, rfl, rfl, rfl⟩
  case round =>
    obtain ⟨k, hk, rfl, rfl, rfl⟩ := hrel
    by_cases hlt : k < n
    · obtain ⟨b, off, x, rfl, hx, hcell⟩ := hA1.byte (k := k) (by rw [HN.out]; exact hlt)
      have hxb := hl.get hx
      have HT := Lib.hid (take_snoc hx)
      have hs := Crc.sum_lt (hl.take k)
      clear hx hA1 hA hb
      go_wp2_with fail
      refine (crc_step w1.heap.size 0 _ x _ hs hxb ht).mono ?_
      rintro e w3 ⟨rfl, rfl⟩
      go_wp2_with fail
      go_roundw
      case rel => exact ⟨k + 1, by omega, by go_num, by rw [HT.out, Crc.sum_snoc], trivial⟩
      case measure => simp [intOf]; omega
    · go_wp2_with fail
      go_ret
      exact ⟨ret_int (by rw [List.take_of_length_le (by rw [HN.out]; omega)]), hbb⟩
end Go.Proofs.Ytechhidfgheejaa
