/- The walks of crc.Next and crc.Sum. -/
import Derived.Test.YtgofgnaaoaoemaaCrcTable
import Derived.Test.YtgofgnaaoaoemaaWords
import Derived.Deep.WholeRow
namespace Go.Proofs.Ytgofgnaaoaoemaa
open Go.RowKit
set_option linter.unusedSimpArgs false
set_option linter.unusedVariables false

theorem st_tab (W : World) : (storeCells ⟨W.heap.size, 0, none⟩ (tabArr 16).toList 0).run Try.prog (W.alloc (.cells (tabArr 0) 148)) = .ok () (W.alloc (.cells (tabArr 16) 148)) :=
  run_storeCells_new W 148 (tabArr 0) (tabArr 16) (by kernel_rfl) rfl (by rw [tabArr_full]; decide +kernel)
theorem tab_cells (W : World) (i : Nat) (hi : i < 16) : (W.alloc (.cells (tabArr 16) 148)).cell? ⟨W.heap.size, 0 + i, none⟩ = some (.int .u16 (Crc.sh4 i : Nat)) := by
  rw [Nat.zero_add, World.cell?_alloc_at _ _ _ _ rfl, tabArr_get _ _ hi, if_pos hi]

set_option maxHeartbeats 1000000 in
theorem crc_Sum (A : Option Addr) (n c : Nat) (l : List Nat) (w : World) (hA : Rd w A (bs l)) (hn : l.length = n) (hl : Bs l) (hm : n ≤ 1000000000) :
    Calls Try.prog 76 #[.slice A n c] w fun e w' => e = .returned (.int .u16 (Crc.sum l : Nat)) ∧ Below w.heap.size w w' := by
  have HN := Lib.hid hn
  clear hn
  have hst := st_tab
  rw [tabArr_zero] at hst
  have hsz : (tabArr 16).size = 16 := tabArr_size 16
  go_enter Try.func76, Try.ntmps76
  go_wp2_with (go_at_call 90; refine (crc_table _).mono ?_; rintro e w1 ⟨rfl, hb⟩)
  have hA1 := (hA.below hb).alloc (.cells (tabArr 16) 148)
  have ht := tab_cells w1
  have hbb := hb.alloc hb.size (.cells (tabArr 16) 148)
  generalize w1.alloc (.cells (tabArr 16) 148) = w2 at *
  go_loopw [4, 9] (fun s i wr => ∃ k : Nat, k ≤ n ∧ i = .int .i64 k ∧ s = .int .u16 (Crc.sum (l.take k) : Nat) ∧ w2 = wr) (fun _ i _ => n - (intOf i).toNat)
  case atStart => exact ⟨0, by omega, rfl, rfl, rfl⟩
  case round =>
    obtain ⟨k, hk, rfl, rfl, rfl⟩ := hrel
    by_cases hlt : k < n
    · obtain ⟨b, off, x, rfl, hx, hcell⟩ := hA1.byte (k := k) (by rw [HN.out]; exact hlt)
      have hxb := hl.get hx
      have HT := Lib.hid (take_snoc hx)
      have hs := Crc.sum_lt (hl.take k)
      clear hx hA1 hA hb
      go_wp2_with fail
      refine (crc_step w1.heap.size 0 _ x _ hs hxb ht).mono ?_
      rintro e w3 ⟨rfl, rfl⟩
      go_wp2_with fail
      go_roundw
      case rel => exact ⟨k + 1, by omega, by go_num, by rw [HT.out, Crc.sum_snoc], trivial⟩
      case measure => simp [intOf]; omega
    · go_wp2_with fail
      go_ret
      exact ⟨ret_int (by rw [List.take_of_length_le (by rw [HN.out]; omega)]), hbb⟩
end Go.Proofs.Ytgofgnaaoaoemaa
