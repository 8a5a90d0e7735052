/- The walk of saucierlaw05.packed: right frames, out of any (the first 12), and their bytes. -/
import Derived.Test.YtheepgfafjinoaaLawMbapTells
namespace Go.Proofs.Ytheepgfafjinoaa
open Go.RowKit
set_option linter.unusedSimpArgs false
set_option linter.unusedVariables false

def rightsF (xs : List Fx) : List Fx := xs.filter fun x => x.f.right
def flatX (xs : List Fx) : List Nat := flatF (xs.map Fx.f)
theorem rightsF_snoc (xs : List Fx) (x : Fx) : rightsF (xs ++ [x]) = if x.f.right = true then rightsF xs ++ [x] else rightsF xs := by
  unfold rightsF
  rw [List.filter_append]
  by_cases h : x.f.right = true <;> simp [h]
theorem flatX_snoc (xs : List Fx) (x : Fx) : flatX (xs ++ [x]) = flatX xs ++ packF x.f := by
  simp [flatX, flatF]
theorem flatX_le : ∀ xs : List Fx, (∀ x ∈ xs, x.f.right = true) → (flatX xs).length ≤ 260 * xs.length
  | [], _ => by simp [flatX, flatF]
  | x :: xs, h => by
    have h1 := h x (by simp)
    have h2 := flatX_le xs (fun y hy => h y (by simp [hy]))
    simp only [Fr.right, decide_eq_true_eq] at h1
    have e : flatX (x :: xs) = packF x.f ++ flatX xs := by simp [flatX, flatF]
    rw [e, List.length_append, packF_length, List.length_cons]
    omega
theorem rightsF_le (xs : List Fx) : (rightsF xs).length ≤ xs.length := List.length_filter_le _ _
theorem rightsF_right (xs : List Fx) : ∀ x ∈ rightsF xs, x.f.right = true := fun x hx => (List.mem_filter.1 hx).2
theorem rightsF_mem {xs : List Fx} {x : Fx} (h : x ∈ rightsF xs) : x ∈ xs := (List.mem_filter.1 h).1

theorem OwK.keptOw {w w' : World} {B k n c : Nat} {e : TypeId} {A : Option Addr} {xs : List Value} {B2 : Nat} {e2 : TypeId} {A2 : Option Addr} {c2 n2 : Nat} {ys : List Value} (h : OwK w B e k A n c xs) (h2 : Ow w B2 e2 A2 c2 ys) (hne : e2 ≠ e) (hg : w.grownBy w' (Value.ownBlock (.slice A2 n2 c2))) : OwK w' B e k A n c xs := by
  refine h.kept hg ?_
  have := h2.apart h hne
  have e1 : Value.ownBlock (.slice A2 n2 c2) = Value.ownBlock (.slice A2 ys.length c2) := by cases A2 <;> rfl
  rw [e1]
  rcases this with h0 | h0
  · rw [h0]
    cases hv : Value.ownBlock (.slice A n c) <;> simp
  · exact .inr (Ne.symm h0)
theorem Ow.keptOwK {w w' : World} {B c : Nat} {e : TypeId} {A : Option Addr} {xs : List Value} {B2 k2 n2 c2 : Nat} {e2 : TypeId} {A2 : Option Addr} {ys : List Value} (h : Ow w B e A c xs) (h2 : OwK w B2 e2 k2 A2 n2 c2 ys) (hne : e ≠ e2) (hg : w.grownBy w' (Value.ownBlock (.slice A2 n2 c2))) : Ow w' B e A c xs :=
  h.keptApart h2 hne hg

set_option maxRecDepth 100000 in
set_option maxHeartbeats 4000000 in
theorem l05_packed (A : Option Addr) (n c : Nat) (xs : List Fx) (w : World) (hA : Rd w A (fxs xs)) (hn : xs.length = n) (hok : ∀ x ∈ xs, x.R w ∧ x.f.ok) (h300 : ∀ x ∈ xs, x.f.pdu.length ≤ 300) (hnc : n ≤ c) (hcm : c ≤ 9223372036854775807) :
    Calls Try.prog 35 #[.slice A n c] w fun e w' => ∃ A' c' B' d', e = .returned (.tuple #[.slice A' (rightsF (xs.take 12)).length c', .slice B' (flatX (rightsF (xs.take 12))).length d']) ∧
      OwK w' w.heap.size 37 3 A' (rightsF (xs.take 12)).length c' (fxs (rightsF (xs.take 12))) ∧ Ow w' w.heap.size 5 B' d' (bs (flatX (rightsF (xs.take 12)))) ∧ Below w.heap.size w w' := by
  obtain ⟨m, hm⟩ : ∃ m : Nat, m = min n 12 := ⟨_, rfl⟩
  have hmn : m ≤ n := by omega
  have hm2 : m ≤ 12 := by omega
  have hmin : (if (12 : Int) < (n : Int) then (12 : Int) else (n : Int)) = (m : Int) := by split <;> omega
  have hmin2 : ∀ W, (Builtin.min_ #[3, 3] 3 #[.int .i64 (n : Int), .int .i64 12]).run Try.prog W = .ok (.int .i64 (m : Int)) W := by
    intro W
    rw [run_min_int2, hmin]
  have HT : Hid (xs.take m = xs.take 12) := by
    (show _ = _)
    rcases Nat.lt_or_ge n 12 with h | h
    · rw [List.take_of_length_le (by omega), List.take_of_length_le (by omega)]
    · rw [show m = 12 by omega]
  have HN := Lib.hid hn
  have HOK := Lib.hid hok
  have H300 := Lib.hid h300
  have mc : (m : Int) ≤ (c : Int) := by omega
  clear hm hn hmin hok h300
  go_enter Try.func35, Try.ntmps35
  go_wp2_with fail
  go_loopw [4, 5, 16] (fun v u i wr => ∃ j : Nat, j ≤ m ∧ i = .int .i64 j ∧ Below w.heap.size w wr ∧ ∃ A4 c4 A5 c5, v = .slice A4 (rightsF (xs.take j)).length c4 ∧ u = .slice A5 (flatX (rightsF (xs.take j))).length c5 ∧ OwK wr w.heap.size 37 3 A4 (rightsF (xs.take j)).length c4 (fxs (rightsF (xs.take j))) ∧ Ow wr w.heap.size 5 A5 c5 (bs (flatX (rightsF (xs.take j))))) (fun _ _ i _ => m - (intOf i).toNat)
  case atStart => exact ⟨0, by omega, rfl, Below.refl _ _, none, 0, none, 0, rfl, rfl, OwK.nil, Ow.nil⟩
  case round =>
    obtain ⟨j, hj, rfl, hbr, A4, c4, A5, c5, rfl, rfl, o4, o5⟩ := hrel
    by_cases hlt : j < m
    · obtain ⟨b, off, x, rfl, hx, x0, x1, x2⟩ := (hA.below hbr).fx (j := j) (by rw [HN.out]; omega)
      have hxm := List.mem_of_getElem? hx
      obtain ⟨hxr, hxo⟩ := HOK.out x hxm
      have h3 := H300.out x hxm
      have hsn := rightsF_snoc (xs.take j) x
      rw [← take_snoc hx] at hsn
      have hlen1 : (rightsF (xs.take j)).length ≤ 12 := by have := rightsF_le (xs.take j); rw [List.length_take] at this; omega
      have hlen2 := flatX_le (rightsF (xs.take j)) (rightsF_right _)
      have hlen3 : (flatX (rightsF (xs.take j))).length ≤ 10000 := by omega
      have hblk : b < wr.heap.size := World.block_lt_of_cell? wr _ x0
      obtain ⟨L1, hL1⟩ : ∃ L, rightsF (xs.take j) = L := ⟨_, rfl⟩
      rw [hL1] at o4 o5 hsn hlen1 hlen2 hlen3
      rw [hL1]
      have j0 : (0 : Int) ≤ (j : Int) := by omega
      have j1 : (j : Int) < (m : Int) := by omega
      clear hx hxm hL1 hlen2
      have hb2 := hbr.alloc hbr.size (.cells #[.int .u16 (x.f.tx : Int), .int .u8 (x.f.unit : Int), .slice x.A x.f.pdu.length x.c] 37)
      by_cases hri : x.f.right = true
      · rw [if_pos hri] at hsn
        have HS := Lib.hid hsn
        have hpack := mb_Pack_ok x.f x.A x.f.pdu.length x.c (wr.alloc (.cells #[.int .u16 (x.f.tx : Int), .int .u8 (x.f.unit : Int), .slice x.A x.f.pdu.length x.c] 37)) (hxr.rd.below hb2) rfl hxo hri
        unfold frV at hpack
        have HPK := Lib.hid hpack
        have HPL : Hid ((packF x.f).length = 7 + x.f.pdu.length) := by (show _ = _); rw [packF_length]; omega
        clear hsn hpack hri
        go_wp2_with fail
        refine HPK.out.mono ?_
        rintro e w3 ⟨A6, c6, rfl, ho6, hb3⟩
        have hbB := (Below.refl _ wr).alloc (Nat.le_refl _) (.cells #[.int .u16 (x.f.tx : Int), .int .u8 (x.f.unit : Int), .slice x.A x.f.pdu.length x.c] 37)
        have hb23 := bthen hb2 hb3
        have o4b := o4.below (bthen hbB hb3)
        have o5b := o5.below (bthen hbB hb3)
        have bxx := (Blk.new wr 37 #[.int .u16 (x.f.tx : Int), .int .u8 (x.f.unit : Int), .slice x.A x.f.pdu.length x.c]).all hb3
        obtain ⟨d0, d1, d2⟩ := bxx.c3
        have HF := Lib.hid (fxs_one_lit x)
        have rd6 := ho6.rd
        clear hbB HPK x0 x1 x2
        go_wp2_with (at_builtin; refine app_m rfl _ _ rfl w (hb23.alloc hb23.size _) _ _ _ L1 rfl (o4b.alloc _) _ 1 1 [x] rfl (Rd.lit _ _ _ HF.out) rfl (by omega) ?_)
        intro A7 c7 w7 o7 hb7 hg7
        have o5c := (o5b.alloc _).keptOwK (o4b.alloc _) (by decide) hg7
        have rd7 := (ho6.alloc _).keptOwK (o4b.alloc _) (by decide) hg7
        have rd7' := rd7.rd
        go_wp2_with (at_builtin; refine app_b rfl _ _ rfl w hb7 _ _ _ _ rfl o5c rfl A6 (7 + x.f.pdu.length) c6 _ rfl rd7' HPL.out (by omega) ?_)
        intro A8 c8 w8 o8 hb8 hg8
        have o7b := o7.keptOw o5c (by decide) hg8
        go_wp2_with fail
        go_roundw
        case rel =>
          refine ⟨j + 1, by omega, by go_num, hb8, A7, c7, A8, c8, by rw [HS.out]; simp, by rw [HS.out, flatX_snoc, List.length_append, HPL.out], by rw [HS.out]; simpa using o7b, by rw [HS.out, flatX_snoc]; exact o8⟩
        case measure => simp [intOf]; omega
      · rw [if_neg hri] at hsn
        have HS := Lib.hid hsn
        have hpack := mb_Pack_no x.f x.A x.f.pdu.length x.c (wr.alloc (.cells #[.int .u16 (x.f.tx : Int), .int .u8 (x.f.unit : Int), .slice x.A x.f.pdu.length x.c] 37)) rfl (by simpa using hri) (by omega)
        unfold frV at hpack
        have HPK := Lib.hid hpack
        clear hsn hpack hri
        go_wp2_with fail
        refine HPK.out.mono ?_
        rintro e w3 ⟨rfl, hb3⟩
        have hbB := (Below.refl _ wr).alloc (Nat.le_refl _) (.cells #[.int .u16 (x.f.tx : Int), .int .u8 (x.f.unit : Int), .slice x.A x.f.pdu.length x.c] 37)
        go_wp2_with fail
        go_roundw
        case rel => exact ⟨j + 1, by omega, by go_num, bthen hb2 hb3, A4, c4, A5, c5, by rw [HS.out], by rw [HS.out], by rw [HS.out]; exact o4.below (bthen hbB hb3), by rw [HS.out]; exact o5.below (bthen hbB hb3)⟩
        case measure => simp [intOf]; omega
    · obtain rfl : j = m := by omega
      rw [HT.out] at o4 o5 ⊢
      clear hmin2
      go_wp2_with fail
      go_ret2
      exact ⟨A4, c4, A5, c5, rfl, o4, o5, hbr⟩
end Go.Proofs.Ytheepgfafjinoaa
