/-
  No cell of these rows narrows 'for every input' (looked for: loops, veiled, ifaces, maps, wideKeys, modest, calm, conditions, laid).
  DERIVED. THE GIVEN ROWS OF THIS SEAT. 12 by the template 'for every input the law returns true; each argument reads behind the call as it read before'; 0 by the template 'total and deterministic' (their statements: YtheepgfafjinoaaTotals.lean).
  GIVEN WITH THE SEED: the statements are not yours to turn. If you find one false, say at which input.
  Laid BY PROGRAM, IN A SANDBOX (cutbox-rows.mjs): the forced cells as the released guide's own fill.sh prints them over the translation 486d725ee8cc1abf… (all of the seat's roots in one cut). By AI agents, Wed Nov 11 2026. No macro, syntax, notation, axiom, sorry.
-/
import Derived.Test.YtheepgfafjinoaaChecked
import GoSem.Claim
import GoSem.ClaimJoined
import GoSem.ClaimMapViews
import Derived.JoinedTies
import Derived.KernelRfl
namespace Go.Proofs.Ytheepgfafjinoaa
/- THE CELL 'sum', in the pinned program and in every row, IS THE sha256 OF THE DUMP (.gsa) THAT YtheepgfafjinoaaProg.lean LOADS. Nothing in Lean hashes anything: it is a label: what it is worth is what the hold of that sum in a sandbox is worth. -/
noncomputable def Try.pinned : Pinned := { name := "ytheepgfafjinoaa", sum := "486d725ee8cc1abf863143e9f20d2673c4089556ed6156cc2566282ee379c075", checked := Try.checked }
namespace Rows
def none {H : Type} : Left H := { results := [], args := [] }

/-- 'saucierlaw01.CrcLinear': WHATEVER THE INPUT: true; the input reads as it did. -/
def crcLinearSpec : ChangeSpec := { name := "crcLinear", fn := fun _ => fun
  | [d1, d2, d3] => { results := [.lit (.bool true)], args := [d1, d2, d3] }
  | _ => none }
def crcLinearRow : OpenClaim := { program := "ytheepgfafjinoaa", sum := "486d725ee8cc1abf863143e9f20d2673c4089556ed6156cc2566282ee379c075", func := "saucier/saucierlaw01.CrcLinear", spec := "crcLinear", apart := false }
def CrcLinearSaid : Prop := crcLinearRow.holds Try.pinned (OpenSpec.ofChange crcLinearSpec)

/-- ITS FALSE NEIGHBOUR: 'it returns false'. Refute it at one input. -/
def crcLinearWrong : ChangeSpec := { name := "crcLinear", fn := fun _ => fun
  | [d1, d2, d3] => { results := [.lit (.bool false)], args := [d1, d2, d3] }
  | _ => none }
def CrcLinearWrongFalsely : Prop := crcLinearRow.holds Try.pinned (OpenSpec.ofChange crcLinearWrong)

/-- 'saucierlaw01.CrcTells': WHATEVER THE INPUT: true; the input reads as it did. -/
def crcTellsSpec : ChangeSpec := { name := "crcTells", fn := fun _ => fun
  | [d1, d2, d3] => { results := [.lit (.bool true)], args := [d1, d2, d3] }
  | _ => none }
def crcTellsRow : OpenClaim := { program := "ytheepgfafjinoaa", sum := "486d725ee8cc1abf863143e9f20d2673c4089556ed6156cc2566282ee379c075", func := "saucier/saucierlaw01.CrcTells", spec := "crcTells", apart := false }
def CrcTellsSaid : Prop := crcTellsRow.holds Try.pinned (OpenSpec.ofChange crcTellsSpec)

/-- ITS FALSE NEIGHBOUR: 'it returns false'. Refute it at one input. -/
def crcTellsWrong : ChangeSpec := { name := "crcTells", fn := fun _ => fun
  | [d1, d2, d3] => { results := [.lit (.bool false)], args := [d1, d2, d3] }
  | _ => none }
def CrcTellsWrongFalsely : Prop := crcTellsRow.holds Try.pinned (OpenSpec.ofChange crcTellsWrong)

/-- 'saucierlaw01.CrcParts': WHATEVER THE INPUT: true; the input reads as it did. -/
def crcPartsSpec : ChangeSpec := { name := "crcParts", fn := fun _ => fun
  | [d1, d2] => { results := [.lit (.bool true)], args := [d1, d2] }
  | _ => none }
def crcPartsRow : OpenClaim := { program := "ytheepgfafjinoaa", sum := "486d725ee8cc1abf863143e9f20d2673c4089556ed6156cc2566282ee379c075", func := "saucier/saucierlaw01.CrcParts", spec := "crcParts", apart := false }
def CrcPartsSaid : Prop := crcPartsRow.holds Try.pinned (OpenSpec.ofChange crcPartsSpec)

/-- ITS FALSE NEIGHBOUR: 'it returns false'. Refute it at one input. -/
def crcPartsWrong : ChangeSpec := { name := "crcParts", fn := fun _ => fun
  | [d1, d2] => { results := [.lit (.bool false)], args := [d1, d2] }
  | _ => none }
def CrcPartsWrongFalsely : Prop := crcPartsRow.holds Try.pinned (OpenSpec.ofChange crcPartsWrong)

/-- 'saucierlaw01.CrcOne': WHATEVER THE INPUT: true; the input reads as it did. -/
def crcOneSpec : ChangeSpec := { name := "crcOne", fn := fun _ => fun
  | [d1, d2, d3, d4] => { results := [.lit (.bool true)], args := [d1, d2, d3, d4] }
  | _ => none }
def crcOneRow : OpenClaim := { program := "ytheepgfafjinoaa", sum := "486d725ee8cc1abf863143e9f20d2673c4089556ed6156cc2566282ee379c075", func := "saucier/saucierlaw01.CrcOne", spec := "crcOne", apart := false }
def CrcOneSaid : Prop := crcOneRow.holds Try.pinned (OpenSpec.ofChange crcOneSpec)

/-- ITS FALSE NEIGHBOUR: 'it returns false'. Refute it at one input. -/
def crcOneWrong : ChangeSpec := { name := "crcOne", fn := fun _ => fun
  | [d1, d2, d3, d4] => { results := [.lit (.bool false)], args := [d1, d2, d3, d4] }
  | _ => none }
def CrcOneWrongFalsely : Prop := crcOneRow.holds Try.pinned (OpenSpec.ofChange crcOneWrong)

/-- 'saucierlaw05.MbapTells': WHATEVER THE INPUT: true; the input reads as it did. -/
def mbapTellsSpec : ChangeSpec := { name := "mbapTells", fn := fun _ => fun
  | [d1, d2] => { results := [.lit (.bool true)], args := [d1, d2] }
  | _ => none }
def mbapTellsRow : OpenClaim := { program := "ytheepgfafjinoaa", sum := "486d725ee8cc1abf863143e9f20d2673c4089556ed6156cc2566282ee379c075", func := "saucier/saucierlaw05.MbapTells", spec := "mbapTells", unfollowed := true, recurses := true, apart := false }
def MbapTellsSaid : Prop := mbapTellsRow.holds Try.pinned (OpenSpec.ofChange mbapTellsSpec)

/-- ITS FALSE NEIGHBOUR: 'it returns false'. Refute it at one input. -/
def mbapTellsWrong : ChangeSpec := { name := "mbapTells", fn := fun _ => fun
  | [d1, d2] => { results := [.lit (.bool false)], args := [d1, d2] }
  | _ => none }
def MbapTellsWrongFalsely : Prop := mbapTellsRow.holds Try.pinned (OpenSpec.ofChange mbapTellsWrong)

/-- 'saucierlaw05.MbapStream': WHATEVER THE INPUT: true; the input reads as it did. -/
def mbapStreamSpec : ChangeSpec := { name := "mbapStream", fn := fun _ => fun
  | [d1, d2] => { results := [.lit (.bool true)], args := [d1, d2] }
  | _ => none }
def mbapStreamRow : OpenClaim := { program := "ytheepgfafjinoaa", sum := "486d725ee8cc1abf863143e9f20d2673c4089556ed6156cc2566282ee379c075", func := "saucier/saucierlaw05.MbapStream", spec := "mbapStream", unfollowed := true, recurses := true, apart := false }
def MbapStreamSaid : Prop := mbapStreamRow.holds Try.pinned (OpenSpec.ofChange mbapStreamSpec)

/-- ITS FALSE NEIGHBOUR: 'it returns false'. Refute it at one input. -/
def mbapStreamWrong : ChangeSpec := { name := "mbapStream", fn := fun _ => fun
  | [d1, d2] => { results := [.lit (.bool false)], args := [d1, d2] }
  | _ => none }
def MbapStreamWrongFalsely : Prop := mbapStreamRow.holds Try.pinned (OpenSpec.ofChange mbapStreamWrong)

/-- 'saucierlaw05.MbapBack': WHATEVER THE INPUT: true; the input reads as it did. -/
def mbapBackSpec : ChangeSpec := { name := "mbapBack", fn := fun _ => fun
  | [d1, d2] => { results := [.lit (.bool true)], args := [d1, d2] }
  | _ => none }
def mbapBackRow : OpenClaim := { program := "ytheepgfafjinoaa", sum := "486d725ee8cc1abf863143e9f20d2673c4089556ed6156cc2566282ee379c075", func := "saucier/saucierlaw05.MbapBack", spec := "mbapBack", unfollowed := true, recurses := true, apart := false }
def MbapBackSaid : Prop := mbapBackRow.holds Try.pinned (OpenSpec.ofChange mbapBackSpec)

/-- ITS FALSE NEIGHBOUR: 'it returns false'. Refute it at one input. -/
def mbapBackWrong : ChangeSpec := { name := "mbapBack", fn := fun _ => fun
  | [d1, d2] => { results := [.lit (.bool false)], args := [d1, d2] }
  | _ => none }
def MbapBackWrongFalsely : Prop := mbapBackRow.holds Try.pinned (OpenSpec.ofChange mbapBackWrong)

/-- 'saucierlaw05.MbapWrong': WHATEVER THE INPUT: true; the input reads as it did. -/
def mbapWrongSpec : ChangeSpec := { name := "mbapWrong", fn := fun _ => fun
  | [d1, d2, d3, d4] => { results := [.lit (.bool true)], args := [d1, d2, d3, d4] }
  | _ => none }
def mbapWrongRow : OpenClaim := { program := "ytheepgfafjinoaa", sum := "486d725ee8cc1abf863143e9f20d2673c4089556ed6156cc2566282ee379c075", func := "saucier/saucierlaw05.MbapWrong", spec := "mbapWrong", unfollowed := true, recurses := true, apart := false }
def MbapWrongSaid : Prop := mbapWrongRow.holds Try.pinned (OpenSpec.ofChange mbapWrongSpec)

/-- ITS FALSE NEIGHBOUR: 'it returns false'. Refute it at one input. -/
def mbapWrongWrong : ChangeSpec := { name := "mbapWrong", fn := fun _ => fun
  | [d1, d2, d3, d4] => { results := [.lit (.bool false)], args := [d1, d2, d3, d4] }
  | _ => none }
def MbapWrongWrongFalsely : Prop := mbapWrongRow.holds Try.pinned (OpenSpec.ofChange mbapWrongWrong)

/-- 'saucierlaw26.QueueTells': WHATEVER THE INPUT: true; the input reads as it did. -/
def queueTellsSpec : ChangeSpec := { name := "queueTells", fn := fun _ => fun
  | [d1, d2] => { results := [.lit (.bool true)], args := [d1, d2] }
  | _ => none }
def queueTellsRow : OpenClaim := { program := "ytheepgfafjinoaa", sum := "486d725ee8cc1abf863143e9f20d2673c4089556ed6156cc2566282ee379c075", func := "saucier/saucierlaw26.QueueTells", spec := "queueTells", apart := false }
def QueueTellsSaid : Prop := queueTellsRow.holds Try.pinned (OpenSpec.ofChange queueTellsSpec)

/-- ITS FALSE NEIGHBOUR: 'it returns false'. Refute it at one input. -/
def queueTellsWrong : ChangeSpec := { name := "queueTells", fn := fun _ => fun
  | [d1, d2] => { results := [.lit (.bool false)], args := [d1, d2] }
  | _ => none }
def QueueTellsWrongFalsely : Prop := queueTellsRow.holds Try.pinned (OpenSpec.ofChange queueTellsWrong)

/-- 'saucierlaw26.QueueOrder': WHATEVER THE INPUT: true; the input reads as it did. -/
def queueOrderSpec : ChangeSpec := { name := "queueOrder", fn := fun _ => fun
  | [d1, d2] => { results := [.lit (.bool true)], args := [d1, d2] }
  | _ => none }
def queueOrderRow : OpenClaim := { program := "ytheepgfafjinoaa", sum := "486d725ee8cc1abf863143e9f20d2673c4089556ed6156cc2566282ee379c075", func := "saucier/saucierlaw26.QueueOrder", spec := "queueOrder", apart := false }
def QueueOrderSaid : Prop := queueOrderRow.holds Try.pinned (OpenSpec.ofChange queueOrderSpec)

/-- ITS FALSE NEIGHBOUR: 'it returns false'. Refute it at one input. -/
def queueOrderWrong : ChangeSpec := { name := "queueOrder", fn := fun _ => fun
  | [d1, d2] => { results := [.lit (.bool false)], args := [d1, d2] }
  | _ => none }
def QueueOrderWrongFalsely : Prop := queueOrderRow.holds Try.pinned (OpenSpec.ofChange queueOrderWrong)

/-- 'saucierlaw26.QueueRoom': WHATEVER THE INPUT: true; the input reads as it did. -/
def queueRoomSpec : ChangeSpec := { name := "queueRoom", fn := fun _ => fun
  | [d1, d2, d3] => { results := [.lit (.bool true)], args := [d1, d2, d3] }
  | _ => none }
def queueRoomRow : OpenClaim := { program := "ytheepgfafjinoaa", sum := "486d725ee8cc1abf863143e9f20d2673c4089556ed6156cc2566282ee379c075", func := "saucier/saucierlaw26.QueueRoom", spec := "queueRoom", apart := false }
def QueueRoomSaid : Prop := queueRoomRow.holds Try.pinned (OpenSpec.ofChange queueRoomSpec)

/-- ITS FALSE NEIGHBOUR: 'it returns false'. Refute it at one input. -/
def queueRoomWrong : ChangeSpec := { name := "queueRoom", fn := fun _ => fun
  | [d1, d2, d3] => { results := [.lit (.bool false)], args := [d1, d2, d3] }
  | _ => none }
def QueueRoomWrongFalsely : Prop := queueRoomRow.holds Try.pinned (OpenSpec.ofChange queueRoomWrong)

/-- 'saucierlaw26.QueueNone': WHATEVER THE INPUT: true; the input reads as it did. -/
def queueNoneSpec : ChangeSpec := { name := "queueNone", fn := fun _ => fun
  | [d1, d2] => { results := [.lit (.bool true)], args := [d1, d2] }
  | _ => none }
def queueNoneRow : OpenClaim := { program := "ytheepgfafjinoaa", sum := "486d725ee8cc1abf863143e9f20d2673c4089556ed6156cc2566282ee379c075", func := "saucier/saucierlaw26.QueueNone", spec := "queueNone", apart := false }
def QueueNoneSaid : Prop := queueNoneRow.holds Try.pinned (OpenSpec.ofChange queueNoneSpec)

/-- ITS FALSE NEIGHBOUR: 'it returns false'. Refute it at one input. -/
def queueNoneWrong : ChangeSpec := { name := "queueNone", fn := fun _ => fun
  | [d1, d2] => { results := [.lit (.bool false)], args := [d1, d2] }
  | _ => none }
def QueueNoneWrongFalsely : Prop := queueNoneRow.holds Try.pinned (OpenSpec.ofChange queueNoneWrong)

/- THE SECOND FORM. 'bulk': how many values and letters a reading holds, each counted each time it is reached (what is shared counts as often as it is met; a slice's spare places count too). A statement '..UptoSaid' is the law's where the arguments, and the package variables that the reading takes, are together of bulk at most 1048576: NARROWER than '..Said'. Prove '..Said' where nothing that the law and all that it calls make is longer than what came in: it says more and counts as full. Else prove '..UptoSaid'. A law counts once. -/
mutual
def uptoBulk {H : Type} : DataW H → Nat
  | .lit (.string bytes) => bytes.length + 1
  | .lit _ => 1
  | .nil => 1
  | .ptr d => uptoBulk d + 1
  | .slice elems spare => uptoBulkAll elems + uptoBulkAll spare + 1
  | .agg parts => uptoBulkAll parts + 1
  | .iface _ d => uptoBulk d + 1
  | .map entries => uptoBulkEntries entries + 1
  | .held _ => 1
def uptoBulkAll {H : Type} : List (DataW H) → Nat
  | [] => 0
  | d :: r => uptoBulk d + uptoBulkAll r
def uptoBulkEntries {H : Type} : List (Lit × DataW H) → Nat
  | [] => 0
  | x :: r => uptoBulkEntry x + uptoBulkEntries r
def uptoBulkEntry {H : Type} : Lit × DataW H → Nat
  | (.string bytes, d) => bytes.length + uptoBulk d + 1
  | (_, d) => uptoBulk d + 1
 end
def uptoSmall : (H : Type) → List (DataW H) → Bool := fun _ ds => decide (uptoBulkAll ds ≤ 1048576)
def OpenSpec.upto (s : _root_.Go.ChangeSpec) : _root_.Go.OpenSpec := { _root_.Go.OpenSpec.ofChange s with cond := some uptoSmall }

/-- 'saucierlaw01.CrcLinear', WHERE WHAT IT READS IS OF BULK AT MOST 1048576: true; the input reads as it did. -/
def crcLinearUptoRow : OpenClaim := { program := "ytheepgfafjinoaa", sum := "486d725ee8cc1abf863143e9f20d2673c4089556ed6156cc2566282ee379c075", func := "saucier/saucierlaw01.CrcLinear", spec := "crcLinear", apart := false, narrowed := true }
def CrcLinearUptoSaid : Prop := crcLinearUptoRow.holds Try.pinned (OpenSpec.upto crcLinearSpec)

/-- 'saucierlaw01.CrcTells', WHERE WHAT IT READS IS OF BULK AT MOST 1048576: true; the input reads as it did. -/
def crcTellsUptoRow : OpenClaim := { program := "ytheepgfafjinoaa", sum := "486d725ee8cc1abf863143e9f20d2673c4089556ed6156cc2566282ee379c075", func := "saucier/saucierlaw01.CrcTells", spec := "crcTells", apart := false, narrowed := true }
def CrcTellsUptoSaid : Prop := crcTellsUptoRow.holds Try.pinned (OpenSpec.upto crcTellsSpec)

/-- 'saucierlaw01.CrcParts', WHERE WHAT IT READS IS OF BULK AT MOST 1048576: true; the input reads as it did. -/
def crcPartsUptoRow : OpenClaim := { program := "ytheepgfafjinoaa", sum := "486d725ee8cc1abf863143e9f20d2673c4089556ed6156cc2566282ee379c075", func := "saucier/saucierlaw01.CrcParts", spec := "crcParts", apart := false, narrowed := true }
def CrcPartsUptoSaid : Prop := crcPartsUptoRow.holds Try.pinned (OpenSpec.upto crcPartsSpec)

/-- 'saucierlaw01.CrcOne', WHERE WHAT IT READS IS OF BULK AT MOST 1048576: true; the input reads as it did. -/
def crcOneUptoRow : OpenClaim := { program := "ytheepgfafjinoaa", sum := "486d725ee8cc1abf863143e9f20d2673c4089556ed6156cc2566282ee379c075", func := "saucier/saucierlaw01.CrcOne", spec := "crcOne", apart := false, narrowed := true }
def CrcOneUptoSaid : Prop := crcOneUptoRow.holds Try.pinned (OpenSpec.upto crcOneSpec)

/-- 'saucierlaw05.MbapTells', WHERE WHAT IT READS IS OF BULK AT MOST 1048576: true; the input reads as it did. -/
def mbapTellsUptoRow : OpenClaim := { program := "ytheepgfafjinoaa", sum := "486d725ee8cc1abf863143e9f20d2673c4089556ed6156cc2566282ee379c075", func := "saucier/saucierlaw05.MbapTells", spec := "mbapTells", unfollowed := true, recurses := true, apart := false, narrowed := true }
def MbapTellsUptoSaid : Prop := mbapTellsUptoRow.holds Try.pinned (OpenSpec.upto mbapTellsSpec)

/-- 'saucierlaw05.MbapStream', WHERE WHAT IT READS IS OF BULK AT MOST 1048576: true; the input reads as it did. -/
def mbapStreamUptoRow : OpenClaim := { program := "ytheepgfafjinoaa", sum := "486d725ee8cc1abf863143e9f20d2673c4089556ed6156cc2566282ee379c075", func := "saucier/saucierlaw05.MbapStream", spec := "mbapStream", unfollowed := true, recurses := true, apart := false, narrowed := true }
def MbapStreamUptoSaid : Prop := mbapStreamUptoRow.holds Try.pinned (OpenSpec.upto mbapStreamSpec)

/-- 'saucierlaw05.MbapBack', WHERE WHAT IT READS IS OF BULK AT MOST 1048576: true; the input reads as it did. -/
def mbapBackUptoRow : OpenClaim := { program := "ytheepgfafjinoaa", sum := "486d725ee8cc1abf863143e9f20d2673c4089556ed6156cc2566282ee379c075", func := "saucier/saucierlaw05.MbapBack", spec := "mbapBack", unfollowed := true, recurses := true, apart := false, narrowed := true }
def MbapBackUptoSaid : Prop := mbapBackUptoRow.holds Try.pinned (OpenSpec.upto mbapBackSpec)

/-- 'saucierlaw05.MbapWrong', WHERE WHAT IT READS IS OF BULK AT MOST 1048576: true; the input reads as it did. -/
def mbapWrongUptoRow : OpenClaim := { program := "ytheepgfafjinoaa", sum := "486d725ee8cc1abf863143e9f20d2673c4089556ed6156cc2566282ee379c075", func := "saucier/saucierlaw05.MbapWrong", spec := "mbapWrong", unfollowed := true, recurses := true, apart := false, narrowed := true }
def MbapWrongUptoSaid : Prop := mbapWrongUptoRow.holds Try.pinned (OpenSpec.upto mbapWrongSpec)

/-- 'saucierlaw26.QueueTells', WHERE WHAT IT READS IS OF BULK AT MOST 1048576: true; the input reads as it did. -/
def queueTellsUptoRow : OpenClaim := { program := "ytheepgfafjinoaa", sum := "486d725ee8cc1abf863143e9f20d2673c4089556ed6156cc2566282ee379c075", func := "saucier/saucierlaw26.QueueTells", spec := "queueTells", apart := false, narrowed := true }
def QueueTellsUptoSaid : Prop := queueTellsUptoRow.holds Try.pinned (OpenSpec.upto queueTellsSpec)

/-- 'saucierlaw26.QueueOrder', WHERE WHAT IT READS IS OF BULK AT MOST 1048576: true; the input reads as it did. -/
def queueOrderUptoRow : OpenClaim := { program := "ytheepgfafjinoaa", sum := "486d725ee8cc1abf863143e9f20d2673c4089556ed6156cc2566282ee379c075", func := "saucier/saucierlaw26.QueueOrder", spec := "queueOrder", apart := false, narrowed := true }
def QueueOrderUptoSaid : Prop := queueOrderUptoRow.holds Try.pinned (OpenSpec.upto queueOrderSpec)

/-- 'saucierlaw26.QueueRoom', WHERE WHAT IT READS IS OF BULK AT MOST 1048576: true; the input reads as it did. -/
def queueRoomUptoRow : OpenClaim := { program := "ytheepgfafjinoaa", sum := "486d725ee8cc1abf863143e9f20d2673c4089556ed6156cc2566282ee379c075", func := "saucier/saucierlaw26.QueueRoom", spec := "queueRoom", apart := false, narrowed := true }
def QueueRoomUptoSaid : Prop := queueRoomUptoRow.holds Try.pinned (OpenSpec.upto queueRoomSpec)

/-- 'saucierlaw26.QueueNone', WHERE WHAT IT READS IS OF BULK AT MOST 1048576: true; the input reads as it did. -/
def queueNoneUptoRow : OpenClaim := { program := "ytheepgfafjinoaa", sum := "486d725ee8cc1abf863143e9f20d2673c4089556ed6156cc2566282ee379c075", func := "saucier/saucierlaw26.QueueNone", spec := "queueNone", apart := false, narrowed := true }
def QueueNoneUptoSaid : Prop := queueNoneUptoRow.holds Try.pinned (OpenSpec.upto queueNoneSpec)

end Rows
end Go.Proofs.Ytheepgfafjinoaa
