/- Servers, plainly: areas, tables, what is wrong with a request, what is done. -/
import Derived.Test.YtechhidfgheejaaRpF
namespace Go.Proofs.Ytechhidfgheejaa
set_option linter.unusedSimpArgs false
set_option linter.unusedVariables false

/-- an area -/
structure Ar where
  at_ : Int
  many : Int
  rd : Bool
  wr : Bool
  whole : Bool
deriving DecidableEq
/-- does it have that address? -/
def Ar.has (x : Ar) (i : Int) : Bool := decide (x.at_ ≤ i) && decide (i < x.at_ + x.many)
theorem Ar.has_iff {x : Ar} {i : Int} : x.has i = true ↔ x.at_ ≤ i ∧ i < x.at_ + x.many := by simp [Ar.has]
/-- is each address of an area that is as wanted? -/
def eachA (l : List Ar) (t m : Nat) (want : Ar → Bool) : Bool := (List.range m).all fun i => ((l.find? fun x => x.has ((t + i : Nat) : Int)).map want).getD false
def readableT (l : List Ar) (t m : Nat) : Bool := eachA l t m fun x => x.rd
def wantW (t m : Nat) (x : Ar) : Bool := x.wr && (!x.whole || decide (x.at_ = (t : Int)) && decide (x.many = (m : Int)))
def writableT (l : List Ar) (t m : Nat) : Bool := eachA l t m (wantW t m)
/-- are the areas right, from an end on? -/
def areasR (n : Nat) (fixed : Bool) : List Ar → Int → Bool
  | [], _ => true
  | x :: l, e => (!decide (x.at_ < e)) && (!decide ((n : Int) < x.at_)) && (!decide (x.many < 1)) && (!decide ((n : Int) - x.at_ < x.many)) && (!(fixed && x.wr)) && areasR n fixed l (x.at_ + x.many)
def rightT (l : List Ar) (n : Nat) (fixed : Bool) : Bool := decide (n ≤ 65536) && areasR n fixed l 0

structure Sp where
  coils : List Ar
  inputs : List Ar
  holding : List Ar
  words : List Ar
structure Mm where
  coils : List Bool
  inputs : List Bool
  holding : List Nat
  words : List Nat
deriving DecidableEq
structure Mm.ok (m : Mm) : Prop where
  holding : Ws m.holding
  words : Ws m.words
def sameM (a b : Mm) : Bool := sameO a.coils b.coils && sameO a.inputs b.inputs && sameB a.holding b.holding && sameB a.words b.words
theorem sameM_iff {a b : Mm} : sameM a b = true ↔ a = b := by
  obtain ⟨a0, a1, a2, a3⟩ := a
  obtain ⟨b0, b1, b2, b3⟩ := b
  simp only [sameM, Bool.and_eq_true, sameO_iff, sameB_iff, Mm.mk.injEq, and_assoc]
theorem sameM_eq (a b : Mm) : sameM a b = decide (a = b) := by rw [Bool.eq_iff_iff, sameM_iff]; simp
theorem sameM_self (a : Mm) : sameM a a = true := sameM_iff.2 rfl
/-- are both right? -/
def rightSM (s : Sp) (m : Mm) : Bool := rightT s.coils m.coils.length false && rightT s.inputs m.inputs.length true && rightT s.holding m.holding.length false && rightT s.words m.words.length true
/-- the table that a function reads, and writes: 1 coils, 2 inputs, 3 holding, 4 words, 0 none -/
def readsP (f : Nat) : Nat := if f = 1 then 1 else if f = 2 then 2 else if f = 3 ∨ f = 23 then 3 else if f = 4 then 4 else 0
def writesP (f : Nat) : Nat := if f = 5 ∨ f = 15 then 1 else if f = 6 ∨ f = 16 ∨ f = 23 then 3 else 0
def Sp.tab (s : Sp) (p : Nat) : Option (List Ar) := if p = 1 then some s.coils else if p = 2 then some s.inputs else if p = 3 then some s.holding else if p = 4 then some s.words else none
/-- the first address that is written, and how many -/
def targetT (a : Ak) : Nat := if a.fn = 23 then a.to_ else a.at_
def targetM (a : Ak) : Nat := a.bits.length + a.words.length
def readBad (s : Sp) (a : Ak) : Bool := match s.tab (readsP a.fn) with
  | some l => !readableT l a.at_ a.many
  | none => false
def writeBad (s : Sp) (a : Ak) : Bool := match s.tab (writesP a.fn) with
  | some l => !writableT l (targetT a) (targetM a)
  | none => false
def checkN (s : Sp) (a : Ak) : Nat := if rightA a = false then 3 else if readBad s a then 2 else if writeBad s a then 2 else 0
/-- l put at a place -/
def putAt {α : Type} (c : List α) (t : Nat) (l : List α) : List α := c.take t ++ l ++ c.drop (t + l.length)
def writtenM (m : Mm) (a : Ak) : Mm :=
  if writesP a.fn = 1 then { m with coils := putAt m.coils (targetT a) a.bits }
  else if writesP a.fn = 3 then { m with holding := putAt m.holding (targetT a) a.words } else m
/-- up to a multiple of eight -/
def eights (n : Nat) : Nat := (n + 7) / 8 * 8
def bitsAt (c : List Bool) (t n : Nat) : List Bool := (c.drop t).take n ++ List.replicate (eights n - n) false
def wordsAt (c : List Nat) (t n : Nat) : List Nat := (c.drop t).take n
def answerM (m : Mm) (a : Ak) : Rp :=
  if readsP a.fn = 1 then ⟨a.fn, 0, bitsAt m.coils a.at_ a.many, [], 0, 0⟩
  else if readsP a.fn = 2 then ⟨a.fn, 0, bitsAt m.inputs a.at_ a.many, [], 0, 0⟩
  else if readsP a.fn = 3 then ⟨a.fn, 0, [], wordsAt m.holding a.at_ a.many, 0, 0⟩
  else if readsP a.fn = 4 then ⟨a.fn, 0, [], wordsAt m.words a.at_ a.many, 0, 0⟩ else ⟨a.fn, 0, [], [], 0, 0⟩
/-- what is done: the memory behind it, and the reply -/
def doM (s : Sp) (m : Mm) (a : Ak) : Mm × Rp :=
  if checkN s a ≠ 0 then (m, wrongR a.fn (checkN s a)) else if rightSM s m = false then (m, wrongR a.fn 4)
  else (writtenM m a, (echoA a).getD (answerM (writtenM m a) a))
def serveM (s : Sp) (m : Mm) (l : List Nat) : Mm × List Nat :=
  if (lookA l).2 ≠ 0 then (m, bytesR (wrongR (lookA l).1.fn (lookA l).2)) else ((doM s m (lookA l).1).1, bytesR (doM s m (lookA l).1).2)
end Go.Proofs.Ytechhidfgheejaa
