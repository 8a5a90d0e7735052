/- The walk of saucierlow.Same: two rows of bytes are held against one another. -/
import Derived.Test.YtechhidfgheejaaTyB
import Derived.WalkSpells
import Derived.WalkLawsBesides
namespace Go.Proofs.Ytechhidfgheejaa
open Go.RowKit
set_option linter.unusedSimpArgs false
set_option linter.unusedVariables false

def strN (l : List Nat) : ByteArray := strOfNums (l.map fun x : Nat => (x : Int))
theorem strN_toList (l : List Nat) : (strN l).data.toList = l.map fun x => UInt8.ofNat x := by
  unfold strN
  rw [strOfNums_data]
  simp
theorem conv_bytes (w : World) (A : Option Addr) (n c : Nat) (l : List Nat) (hr : Rd w A (bs l)) (hn : l.length = n) :
    (convert 29 9 (.slice A n c)).run Try.prog w = .ok (.string (strN l)) w := by
  rcases hr with h | ⟨b, off, rfl, hc⟩
  · have h0 : l = [] := by simpa [bs] using h
    subst h0
    simp at hn
    subst hn
    rcases A with _ | ad
    · exact run_convert_bytes_nil w 29 5 Try.underlying29 Try.underlying5 0 c _ Try.underlying9
    · rw [run_convert_bytes_string w 29 9 5 _ 0 c Try.underlying29 Try.underlying5 Try.underlying9]
      simp [Conv.bytesToString, loadCells, loadCellsFrom]
      rfl
  · refine run_convert_bytes_arg w 29 5 Try.underlying29 Try.underlying5 b off n c (l.map fun x : Nat => (x : Int)) (by simpa using hn) ?_ _ Try.underlying9
    intro i hi
    refine hc i _ ?_
    simp [bs, List.getD, List.getElem?_eq_getElem (show i < l.length by omega)]

theorem strN_same (l k : List Nat) (hl : Bs l) (hk : Bs k) : ((strN l).toList == (strN k).toList) = sameB l k := by
  rw [Go.ByteArray.toList_eq, Go.ByteArray.toList_eq, strN_toList, strN_toList, Bool.eq_iff_iff, sameB_iff, beq_iff_eq]
  refine ⟨fun h => ?_, fun h => by rw [h]⟩
  have back : ∀ m : List Nat, Bs m → (m.map fun x => UInt8.ofNat x).map UInt8.toNat = m := by
    intro m hm
    rw [List.map_map]
    conv => rhs; rw [← List.map_id m]
    refine List.map_congr_left fun x hx => ?_
    have := hm x hx
    simp [UInt8.toNat_ofNat', Nat.mod_eq_of_lt this]
  rw [← back l hl, ← back k hk, h]

set_option maxHeartbeats 400000 in
theorem low_Same (A B : Option Addr) (n c m d : Nat) (l k : List Nat) (w : World) (hA : Rd w A (bs l)) (hB : Rd w B (bs k)) (hl : Bs l) (hk : Bs k) (hn : l.length = n) (hm : k.length = m) :
    Calls Try.prog 28 #[.slice A n c, .slice B m d] w fun e w' => e = .returned (.bool (sameB l k)) ∧ w = w' := by
  have c1 := conv_bytes w A n c l hA hn
  have c2 := conv_bytes w B m d k hB hm
  clear hn hm
  go_enter Try.func28, Try.ntmps28
  go_wp2
  go_ret
  exact ⟨by rw [← strN_same l k hl hk]; rfl, rfl⟩
end Go.Proofs.Ytechhidfgheejaa
