/-
  No cell of these rows narrows 'for every input' (looked for: loops, veiled, ifaces, maps, wideKeys, modest, calm, conditions, laid).
  DERIVED. THE GIVEN ROWS OF THIS SEAT. 8 by the template 'for every input the law returns true; each argument reads behind the call as it read before'; 0 by the template 'total and deterministic' (their statements: YtechhidfgheejaaTotals.lean).
  GIVEN WITH THE SEED: the statements are not yours to turn. If you find one false, say at which input.
  Laid BY PROGRAM, IN A SANDBOX (cutbox-rows.mjs): the forced cells as the released guide's own fill.sh prints them over the translation 396d1fc75208d0f3… (all of the seat's roots in one cut). By AI agents, Wed Nov 11 2026. No macro, syntax, notation, axiom, sorry.
-/
import Derived.Test.YtechhidfgheejaaChecked
import GoSem.Claim
import GoSem.ClaimJoined
import GoSem.ClaimMapViews
import Derived.JoinedTies
import Derived.KernelRfl
namespace Go.Proofs.Ytechhidfgheejaa
/- THE CELL 'sum', in the pinned program and in every row, IS THE sha256 OF THE DUMP (.gsa) THAT YtechhidfgheejaaProg.lean LOADS. Nothing in Lean hashes anything: it is a label: what it is worth is what the hold of that sum in a sandbox is worth. -/
noncomputable def Try.pinned : Pinned := { name := "ytechhidfgheejaa", sum := "396d1fc75208d0f35b55c3f57b2f96a6496a043ba2725e7543db64496f52375c", checked := Try.checked }
namespace Rows
def none {H : Type} : Left H := { results := [], args := [] }

/-- 'saucierlaw07.ModelServes': WHATEVER THE INPUT: true; the input reads as it did. -/
def modelServesSpec : ChangeSpec := { name := "modelServes", fn := fun _ => fun
  | [d1, d2, d3] => { results := [.lit (.bool true)], args := [d1, d2, d3] }
  | _ => none }
def modelServesRow : OpenClaim := { program := "ytechhidfgheejaa", sum := "396d1fc75208d0f35b55c3f57b2f96a6496a043ba2725e7543db64496f52375c", func := "saucier/saucierlaw07.ModelServes", spec := "modelServes", unfollowed := true, recurses := true, apart := false }
def ModelServesSaid : Prop := modelServesRow.holds Try.pinned (OpenSpec.ofChange modelServesSpec)

/-- ITS FALSE NEIGHBOUR: 'it returns false'. Refute it at one input. -/
def modelServesWrong : ChangeSpec := { name := "modelServes", fn := fun _ => fun
  | [d1, d2, d3] => { results := [.lit (.bool false)], args := [d1, d2, d3] }
  | _ => none }
def ModelServesWrongFalsely : Prop := modelServesRow.holds Try.pinned (OpenSpec.ofChange modelServesWrong)

/-- 'saucierlaw02.AskTells': WHATEVER THE INPUT: true; the input reads as it did. -/
def askTellsSpec : ChangeSpec := { name := "askTells", fn := fun _ => fun
  | [d1, d2, d3] => { results := [.lit (.bool true)], args := [d1, d2, d3] }
  | _ => none }
def askTellsRow : OpenClaim := { program := "ytechhidfgheejaa", sum := "396d1fc75208d0f35b55c3f57b2f96a6496a043ba2725e7543db64496f52375c", func := "saucier/saucierlaw02.AskTells", spec := "askTells", apart := false }
def AskTellsSaid : Prop := askTellsRow.holds Try.pinned (OpenSpec.ofChange askTellsSpec)

/-- ITS FALSE NEIGHBOUR: 'it returns false'. Refute it at one input. -/
def askTellsWrong : ChangeSpec := { name := "askTells", fn := fun _ => fun
  | [d1, d2, d3] => { results := [.lit (.bool false)], args := [d1, d2, d3] }
  | _ => none }
def AskTellsWrongFalsely : Prop := askTellsRow.holds Try.pinned (OpenSpec.ofChange askTellsWrong)

/-- 'saucierlaw07.ModelReads': WHATEVER THE INPUT: true; the input reads as it did. -/
def modelReadsSpec : ChangeSpec := { name := "modelReads", fn := fun _ => fun
  | [d1, d2, d3, d4, d5] => { results := [.lit (.bool true)], args := [d1, d2, d3, d4, d5] }
  | _ => none }
def modelReadsRow : OpenClaim := { program := "ytechhidfgheejaa", sum := "396d1fc75208d0f35b55c3f57b2f96a6496a043ba2725e7543db64496f52375c", func := "saucier/saucierlaw07.ModelReads", spec := "modelReads", unfollowed := true, recurses := true, apart := false }
def ModelReadsSaid : Prop := modelReadsRow.holds Try.pinned (OpenSpec.ofChange modelReadsSpec)

/-- ITS FALSE NEIGHBOUR: 'it returns false'. Refute it at one input. -/
def modelReadsWrong : ChangeSpec := { name := "modelReads", fn := fun _ => fun
  | [d1, d2, d3, d4, d5] => { results := [.lit (.bool false)], args := [d1, d2, d3, d4, d5] }
  | _ => none }
def ModelReadsWrongFalsely : Prop := modelReadsRow.holds Try.pinned (OpenSpec.ofChange modelReadsWrong)

/-- 'saucierlaw07.ModelSwap': WHATEVER THE INPUT: true; the input reads as it did. -/
def modelSwapSpec : ChangeSpec := { name := "modelSwap", fn := fun _ => fun
  | [d1, d2, d3, d4, d5, d6] => { results := [.lit (.bool true)], args := [d1, d2, d3, d4, d5, d6] }
  | _ => none }
def modelSwapRow : OpenClaim := { program := "ytechhidfgheejaa", sum := "396d1fc75208d0f35b55c3f57b2f96a6496a043ba2725e7543db64496f52375c", func := "saucier/saucierlaw07.ModelSwap", spec := "modelSwap", unfollowed := true, recurses := true, apart := false }
def ModelSwapSaid : Prop := modelSwapRow.holds Try.pinned (OpenSpec.ofChange modelSwapSpec)

/-- ITS FALSE NEIGHBOUR: 'it returns false'. Refute it at one input. -/
def modelSwapWrong : ChangeSpec := { name := "modelSwap", fn := fun _ => fun
  | [d1, d2, d3, d4, d5, d6] => { results := [.lit (.bool false)], args := [d1, d2, d3, d4, d5, d6] }
  | _ => none }
def ModelSwapWrongFalsely : Prop := modelSwapRow.holds Try.pinned (OpenSpec.ofChange modelSwapWrong)

/-- 'saucierlaw07.ModelWhole': WHATEVER THE INPUT: true; the input reads as it did. -/
def modelWholeSpec : ChangeSpec := { name := "modelWhole", fn := fun _ => fun
  | [d1, d2, d3, d4, d5, d6, d7] => { results := [.lit (.bool true)], args := [d1, d2, d3, d4, d5, d6, d7] }
  | _ => none }
def modelWholeRow : OpenClaim := { program := "ytechhidfgheejaa", sum := "396d1fc75208d0f35b55c3f57b2f96a6496a043ba2725e7543db64496f52375c", func := "saucier/saucierlaw07.ModelWhole", spec := "modelWhole", unfollowed := true, recurses := true, apart := false }
def ModelWholeSaid : Prop := modelWholeRow.holds Try.pinned (OpenSpec.ofChange modelWholeSpec)

/-- ITS FALSE NEIGHBOUR: 'it returns false'. Refute it at one input. -/
def modelWholeWrong : ChangeSpec := { name := "modelWhole", fn := fun _ => fun
  | [d1, d2, d3, d4, d5, d6, d7] => { results := [.lit (.bool false)], args := [d1, d2, d3, d4, d5, d6, d7] }
  | _ => none }
def ModelWholeWrongFalsely : Prop := modelWholeRow.holds Try.pinned (OpenSpec.ofChange modelWholeWrong)

/-- 'saucierlaw03.ReplyTells': WHATEVER THE INPUT: true; the input reads as it did. -/
def replyTellsSpec : ChangeSpec := { name := "replyTells", fn := fun _ => fun
  | [d1, d2, d3, d4, d5, d6] => { results := [.lit (.bool true)], args := [d1, d2, d3, d4, d5, d6] }
  | _ => none }
def replyTellsRow : OpenClaim := { program := "ytechhidfgheejaa", sum := "396d1fc75208d0f35b55c3f57b2f96a6496a043ba2725e7543db64496f52375c", func := "saucier/saucierlaw03.ReplyTells", spec := "replyTells", unfollowed := true, recurses := true, apart := false }
def ReplyTellsSaid : Prop := replyTellsRow.holds Try.pinned (OpenSpec.ofChange replyTellsSpec)

/-- ITS FALSE NEIGHBOUR: 'it returns false'. Refute it at one input. -/
def replyTellsWrong : ChangeSpec := { name := "replyTells", fn := fun _ => fun
  | [d1, d2, d3, d4, d5, d6] => { results := [.lit (.bool false)], args := [d1, d2, d3, d4, d5, d6] }
  | _ => none }
def ReplyTellsWrongFalsely : Prop := replyTellsRow.holds Try.pinned (OpenSpec.ofChange replyTellsWrong)

/-- 'saucierlaw04.RtuTells': WHATEVER THE INPUT: true; the input reads as it did. -/
def rtuTellsSpec : ChangeSpec := { name := "rtuTells", fn := fun _ => fun
  | [d1, d2, d3, d4] => { results := [.lit (.bool true)], args := [d1, d2, d3, d4] }
  | _ => none }
def rtuTellsRow : OpenClaim := { program := "ytechhidfgheejaa", sum := "396d1fc75208d0f35b55c3f57b2f96a6496a043ba2725e7543db64496f52375c", func := "saucier/saucierlaw04.RtuTells", spec := "rtuTells", unfollowed := true, recurses := true, apart := false }
def RtuTellsSaid : Prop := rtuTellsRow.holds Try.pinned (OpenSpec.ofChange rtuTellsSpec)

/-- ITS FALSE NEIGHBOUR: 'it returns false'. Refute it at one input. -/
def rtuTellsWrong : ChangeSpec := { name := "rtuTells", fn := fun _ => fun
  | [d1, d2, d3, d4] => { results := [.lit (.bool false)], args := [d1, d2, d3, d4] }
  | _ => none }
def RtuTellsWrongFalsely : Prop := rtuTellsRow.holds Try.pinned (OpenSpec.ofChange rtuTellsWrong)

/-- 'saucierlaw07.ModelWrites': WHATEVER THE INPUT: true; the input reads as it did. -/
def modelWritesSpec : ChangeSpec := { name := "modelWrites", fn := fun _ => fun
  | [d1, d2, d3] => { results := [.lit (.bool true)], args := [d1, d2, d3] }
  | _ => none }
def modelWritesRow : OpenClaim := { program := "ytechhidfgheejaa", sum := "396d1fc75208d0f35b55c3f57b2f96a6496a043ba2725e7543db64496f52375c", func := "saucier/saucierlaw07.ModelWrites", spec := "modelWrites", unfollowed := true, recurses := true, apart := false }
def ModelWritesSaid : Prop := modelWritesRow.holds Try.pinned (OpenSpec.ofChange modelWritesSpec)

/-- ITS FALSE NEIGHBOUR: 'it returns false'. Refute it at one input. -/
def modelWritesWrong : ChangeSpec := { name := "modelWrites", fn := fun _ => fun
  | [d1, d2, d3] => { results := [.lit (.bool false)], args := [d1, d2, d3] }
  | _ => none }
def ModelWritesWrongFalsely : Prop := modelWritesRow.holds Try.pinned (OpenSpec.ofChange modelWritesWrong)

/- THE SECOND FORM. 'bulk': how many values and letters a reading holds, each counted each time it is reached (what is shared counts as often as it is met; a slice's spare places count too). A statement '..UptoSaid' is the law's where the arguments, and the package variables that the reading takes, are together of bulk at most 1048576: NARROWER than '..Said'. Prove '..Said' where nothing that the law and all that it calls make is longer than what came in: it says more and counts as full. Else prove '..UptoSaid'. A law counts once. -/
mutual
def uptoBulk {H : Type} : DataW H → Nat
  | .lit (.string bytes) => bytes.length + 1
  | .lit _ => 1
  | .nil => 1
  | .ptr d => uptoBulk d + 1
  | .slice elems spare => uptoBulkAll elems + uptoBulkAll spare + 1
  | .agg parts => uptoBulkAll parts + 1
  | .iface _ d => uptoBulk d + 1
  | .map entries => uptoBulkEntries entries + 1
  | .held _ => 1
def uptoBulkAll {H : Type} : List (DataW H) → Nat
  | [] => 0
  | d :: r => uptoBulk d + uptoBulkAll r
def uptoBulkEntries {H : Type} : List (Lit × DataW H) → Nat
  | [] => 0
  | x :: r => uptoBulkEntry x + uptoBulkEntries r
def uptoBulkEntry {H : Type} : Lit × DataW H → Nat
  | (.string bytes, d) => bytes.length + uptoBulk d + 1
  | (_, d) => uptoBulk d + 1
 end
def uptoSmall : (H : Type) → List (DataW H) → Bool := fun _ ds => decide (uptoBulkAll ds ≤ 1048576)
def OpenSpec.upto (s : _root_.Go.ChangeSpec) : _root_.Go.OpenSpec := { _root_.Go.OpenSpec.ofChange s with cond := some uptoSmall }

/-- 'saucierlaw07.ModelServes', WHERE WHAT IT READS IS OF BULK AT MOST 1048576: true; the input reads as it did. -/
def modelServesUptoRow : OpenClaim := { program := "ytechhidfgheejaa", sum := "396d1fc75208d0f35b55c3f57b2f96a6496a043ba2725e7543db64496f52375c", func := "saucier/saucierlaw07.ModelServes", spec := "modelServes", unfollowed := true, recurses := true, apart := false, narrowed := true }
def ModelServesUptoSaid : Prop := modelServesUptoRow.holds Try.pinned (OpenSpec.upto modelServesSpec)

/-- 'saucierlaw02.AskTells', WHERE WHAT IT READS IS OF BULK AT MOST 1048576: true; the input reads as it did. -/
def askTellsUptoRow : OpenClaim := { program := "ytechhidfgheejaa", sum := "396d1fc75208d0f35b55c3f57b2f96a6496a043ba2725e7543db64496f52375c", func := "saucier/saucierlaw02.AskTells", spec := "askTells", apart := false, narrowed := true }
def AskTellsUptoSaid : Prop := askTellsUptoRow.holds Try.pinned (OpenSpec.upto askTellsSpec)

/-- 'saucierlaw07.ModelReads', WHERE WHAT IT READS IS OF BULK AT MOST 1048576: true; the input reads as it did. -/
def modelReadsUptoRow : OpenClaim := { program := "ytechhidfgheejaa", sum := "396d1fc75208d0f35b55c3f57b2f96a6496a043ba2725e7543db64496f52375c", func := "saucier/saucierlaw07.ModelReads", spec := "modelReads", unfollowed := true, recurses := true, apart := false, narrowed := true }
def ModelReadsUptoSaid : Prop := modelReadsUptoRow.holds Try.pinned (OpenSpec.upto modelReadsSpec)

/-- 'saucierlaw07.ModelSwap', WHERE WHAT IT READS IS OF BULK AT MOST 1048576: true; the input reads as it did. -/
def modelSwapUptoRow : OpenClaim := { program := "ytechhidfgheejaa", sum := "396d1fc75208d0f35b55c3f57b2f96a6496a043ba2725e7543db64496f52375c", func := "saucier/saucierlaw07.ModelSwap", spec := "modelSwap", unfollowed := true, recurses := true, apart := false, narrowed := true }
def ModelSwapUptoSaid : Prop := modelSwapUptoRow.holds Try.pinned (OpenSpec.upto modelSwapSpec)

/-- 'saucierlaw07.ModelWhole', WHERE WHAT IT READS IS OF BULK AT MOST 1048576: true; the input reads as it did. -/
def modelWholeUptoRow : OpenClaim := { program := "ytechhidfgheejaa", sum := "396d1fc75208d0f35b55c3f57b2f96a6496a043ba2725e7543db64496f52375c", func := "saucier/saucierlaw07.ModelWhole", spec := "modelWhole", unfollowed := true, recurses := true, apart := false, narrowed := true }
def ModelWholeUptoSaid : Prop := modelWholeUptoRow.holds Try.pinned (OpenSpec.upto modelWholeSpec)

/-- 'saucierlaw03.ReplyTells', WHERE WHAT IT READS IS OF BULK AT MOST 1048576: true; the input reads as it did. -/
def replyTellsUptoRow : OpenClaim := { program := "ytechhidfgheejaa", sum := "396d1fc75208d0f35b55c3f57b2f96a6496a043ba2725e7543db64496f52375c", func := "saucier/saucierlaw03.ReplyTells", spec := "replyTells", unfollowed := true, recurses := true, apart := false, narrowed := true }
def ReplyTellsUptoSaid : Prop := replyTellsUptoRow.holds Try.pinned (OpenSpec.upto replyTellsSpec)

/-- 'saucierlaw04.RtuTells', WHERE WHAT IT READS IS OF BULK AT MOST 1048576: true; the input reads as it did. -/
def rtuTellsUptoRow : OpenClaim := { program := "ytechhidfgheejaa", sum := "396d1fc75208d0f35b55c3f57b2f96a6496a043ba2725e7543db64496f52375c", func := "saucier/saucierlaw04.RtuTells", spec := "rtuTells", unfollowed := true, recurses := true, apart := false, narrowed := true }
def RtuTellsUptoSaid : Prop := rtuTellsUptoRow.holds Try.pinned (OpenSpec.upto rtuTellsSpec)

/-- 'saucierlaw07.ModelWrites', WHERE WHAT IT READS IS OF BULK AT MOST 1048576: true; the input reads as it did. -/
def modelWritesUptoRow : OpenClaim := { program := "ytechhidfgheejaa", sum := "396d1fc75208d0f35b55c3f57b2f96a6496a043ba2725e7543db64496f52375c", func := "saucier/saucierlaw07.ModelWrites", spec := "modelWrites", unfollowed := true, recurses := true, apart := false, narrowed := true }
def ModelWritesUptoSaid : Prop := modelWritesUptoRow.holds Try.pinned (OpenSpec.upto modelWritesSpec)

end Rows
end Go.Proofs.Ytechhidfgheejaa
