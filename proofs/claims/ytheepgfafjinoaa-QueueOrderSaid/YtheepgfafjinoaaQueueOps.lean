/- Operations on a queue: which number one means; how a row of them is read. -/
import Derived.Test.YtheepgfafjinoaaRef26
import Derived.Test.YtheepgfafjinoaaQueueAwake
namespace Go.Proofs.Ytheepgfafjinoaa
open Go.RowKit
set_option linter.unusedSimpArgs false
set_option linter.unusedVariables false

/-- an operation: dropped?, by place?, the number, the place -/
structure Opr where
  dr : Bool
  by_ : Bool
  tx : Nat
  at_ : Nat
def Opr.val (o : Opr) : Value := .agg #[.bool o.dr, .bool o.by_, .int .u32 (o.tx : Int), .int .u8 (o.at_ : Int)]
/-- which number it means -/
def numb (o : Opr) (L : List Nat) : Nat := if o.by_ = true ∧ 0 < L.length then L.getD (o.at_ % L.length) 0 else o.tx

/-- a row of operations in memory -/
def RdOp (w : World) (A : Option Addr) (l : List Opr) : Prop :=
  l = [] ∨ ∃ b off, A = some ⟨b, off, none⟩ ∧ ∀ j o, l[j]? = some o → o.at_ < 256 ∧ w.cell? ⟨b, off + j * 4, none⟩ = some (.bool o.dr) ∧ w.cell? ⟨b, off + j * 4 + 1, none⟩ = some (.bool o.by_) ∧ w.cell? ⟨b, off + j * 4 + 2, none⟩ = some (.int .u32 (o.tx : Int)) ∧ w.cell? ⟨b, off + j * 4 + 3, none⟩ = some (.int .u8 (o.at_ : Int))
theorem RdOp.below {w w' : World} {A : Option Addr} {l : List Opr} (h : RdOp w A l) (hb : Below w.heap.size w w') : RdOp w' A l := by
  rcases h with h | ⟨b, off, hA, hc⟩
  · exact .inl h
  · refine .inr ⟨b, off, hA, fun j o ho => ?_⟩
    obtain ⟨h0, h1, h2, h3, h4⟩ := hc j o ho
    have hlt : b < w.heap.size := World.block_lt_of_cell? w _ h1
    exact ⟨h0, (hb.cell (p := ⟨b, _, none⟩) hlt).trans h1, (hb.cell (p := ⟨b, _, none⟩) hlt).trans h2, (hb.cell (p := ⟨b, _, none⟩) hlt).trans h3, (hb.cell (p := ⟨b, _, none⟩) hlt).trans h4⟩

set_option maxHeartbeats 1000000 in
theorem op_number (o : Opr) (A : Option Addr) (n c : Nat) (L : List Nat) (w : World) (hA : Rd w A (ds L)) (hn : L.length = n) (hat : o.at_ < 256) (hbig : n ≤ 1000000) :
    Calls Try.prog 38 #[o.val, .slice A n c] w fun e w' => e = .returned (.int .u32 (numb o L : Nat)) ∧ Below w.heap.size w w' := by
  obtain ⟨dr, bb, tx, a⟩ := o
  simp only at hat
  unfold Opr.val
  simp only
  by_cases hb : bb = true
  · subst hb
    rcases Nat.eq_zero_or_pos n with h0 | h0
    · have HV : Hid (numb ⟨dr, true, tx, a⟩ L = tx) := by (show _ = _); unfold numb; rw [if_neg (by simp only; omega)]
      subst h0
      clear hn
      go_enter Try.func38, Try.ntmps38
      go_wp2_with fail
      go_ret
      exact ⟨ret_int (by rw [HV.out]), (Below.refl _ _).alloc (Nat.le_refl _) _⟩
    · obtain ⟨k, hk⟩ : ∃ k, k = a % n := ⟨_, rfl⟩
      have hkn : k < n := by rw [hk]; exact Nat.mod_lt _ h0
      obtain ⟨b, off, x, rfl, hx, hcell⟩ := hA.dword (k := k) (by omega)
      have HV : Hid (numb ⟨dr, true, tx, a⟩ L = x) := by
        (show _ = _)
        unfold numb
        rw [if_pos ⟨rfl, by omega⟩]
        simp only
        rw [hn, ← hk, List.getD_eq_getElem?_getD, hx]
        rfl
      have e1 : (a : Int) % (n : Int) = (k : Int) := by rw [hk]; simp
      have e2 : (a : Int).tmod (n : Int) = (k : Int) := by rw [Int.tmod_eq_emod_of_nonneg (by omega)]; exact e1
      have b1 : decide ((0 : Int) < (n : Int)) = true := by simp; omega
      have hcell' : (w.alloc (.cells #[.bool dr, .bool true, .int .u32 (tx : Int), .int .u8 (a : Int)] 61)).cell? ⟨b, off + k, none⟩ = some (.int .u32 (x : Int)) := (World.cell?_alloc_lt w _ ⟨b, off + k, none⟩ (World.block_lt_of_cell? w _ hcell)).trans hcell
      clear hx hn hk
      go_enter Try.func38, Try.ntmps38
      go_wp2_with fail
      go_ret
      exact ⟨ret_int (by rw [HV.out]), (Below.refl _ _).alloc (Nat.le_refl _) _⟩
  · have hb' : bb = false := by simpa using hb
    subst hb'
    have HV : Hid (numb ⟨dr, false, tx, a⟩ L = tx) := by (show _ = _); unfold numb; rw [if_neg (by simp)]
    clear hn hb
    go_enter Try.func38, Try.ntmps38
    go_wp2_with fail
    go_ret
    exact ⟨ret_int (by rw [HV.out]), (Below.refl _ _).alloc (Nat.le_refl _) _⟩
end Go.Proofs.Ytheepgfafjinoaa
