/- The walk of saucierlaw26.same. -/
import Derived.Test.YtheepgfafjinoaaTyD
import Derived.Deep.QuietTactic
import Derived.BigQuiet
namespace Go.Proofs.Ytheepgfafjinoaa
open Go.RowKit
set_option linter.unusedSimpArgs false
set_option linter.unusedVariables false

theorem l26_same_take {l k : List Nat} {j : Nat} {x y : Nat} (hx : l[j]? = some x) (hy : k[j]? = some y) (h : x ≠ y) : sameB l k = false := by
  have : ¬ sameB l k = true := by
    rw [sameB_iff]
    rintro rfl
    rw [hx] at hy
    injection hy with hy
    exact h hy
  simpa using this

set_option maxHeartbeats 1000000 in
theorem l26_same (A B : Option Addr) (n c m d : Nat) (l k : List Nat) (w : World) (hA : Rd w A (ds l)) (hB : Rd w B (ds k)) (hn : l.length = n) (hm : k.length = m) (hbig : n ≤ 1000000000) (hbig2 : m ≤ 1000000000) :
    Calls Try.prog 44 #[.slice A n c, .slice B m d] w fun e w' => e = .returned (.bool (sameB l k)) ∧ ∃ n, w' = w.drewN n := by
  have HN := Lib.hid hn
  have HM := Lib.hid hm
  by_cases hnm : n = m
  · subst hnm
    have b1 : ((n : Int) != (n : Int)) = false := by simp
    clear hn hm
    go_enter Try.func44, Try.ntmps44
    go_wp2_with fail
    go_loopw [13] (fun i wr => ∃ j q : Nat, j ≤ n ∧ i = .int .i64 j ∧ Hid (l.take j = k.take j) ∧ w.drewN q = wr) (fun i _ => n - (intOf i).toNat)
    case atStart => exact ⟨0, 0, by omega, rfl, by (show _ = _); rfl, rfl⟩
    case round =>
      obtain ⟨j, q, hj, rfl, HT, rfl⟩ := hrel
      by_cases hlt : j < n
      · obtain ⟨b1, o1, x, rfl, hx, cx⟩ := hA.dword (k := j) (by rw [HN.out]; exact hlt)
        obtain ⟨b2, o2, y, rfl, hy, cy⟩ := hB.dword (k := j) (by rw [HM.out]; exact hlt)
        have j0 : (0 : Int) ≤ (j : Int) := by omega
        have j1 : (j : Int) < (n : Int) := by omega
        by_cases hxy : x = y
        · subst hxy
          have HT2 : Hid (l.take (j + 1) = k.take (j + 1)) := by (show _ = _); rw [take_snoc hx, take_snoc hy, HT.out]
          have b3 : ((x : Int) != (x : Int)) = false := by simp
          clear hx hy
          go_wp2_with fail
          go_quiet (fail)
          go_wp2_with fail
          go_roundw
          case rel => exact ⟨j + 1, _, by omega, by go_num, HT2, rfl⟩
          case measure => simp [intOf]; omega
        · have HF := Lib.hid (l26_same_take hx hy hxy)
          have b3 : ((x : Int) != (y : Int)) = true := by simp only [bne_iff_ne]; omega
          clear hx hy
          go_wp2_with fail
          go_quiet (fail)
          go_wp2_with fail
          go_ret
          exact ⟨by rw [HF.out]; rfl, q + nq, by rw [World.drewN_drewN]⟩
      · have HF : Hid (sameB l k = true) := by
          (show _ = _)
          rw [sameB_iff]
          have := HT.out
          rw [List.take_of_length_le (by rw [HN.out]; omega), List.take_of_length_le (by rw [HM.out]; omega)] at this
          exact this
        go_wp2_with fail
        go_ret
        exact ⟨by rw [HF.out]; rfl, _, rfl⟩
  · have b1 : ((n : Int) != (m : Int)) = true := by simp only [bne_iff_ne]; omega
    have HF : Hid (sameB l k = false) := by
      (show _ = _)
      have : ¬ sameB l k = true := by rw [sameB_iff]; rintro rfl; omega
      simpa using this
    clear hn hm
    go_enter Try.func44, Try.ntmps44
    go_wp2_with fail
    go_ret
    exact ⟨by rw [HF.out]; rfl, 0, rfl⟩
end Go.Proofs.Ytheepgfafjinoaa
