/-
  No cell of these rows narrows 'for every input' (looked for: loops, veiled, ifaces, maps, wideKeys, modest, calm, conditions, laid).
  DERIVED. THE GIVEN ROWS OF THIS SEAT. 5 by the template 'for every input the law returns true; each argument reads behind the call as it read before'; 0 by the template 'total and deterministic' (their statements: YtpoilgfblhacaaaTotals.lean).
  GIVEN WITH THE SEED: the statements are not yours to turn. If you find one false, say at which input.
  Laid BY PROGRAM, IN A SANDBOX (cutbox-rows.mjs): the forced cells as the released guide's own fill.sh prints them over the translation bd3e321f1a563fe8… (all of the seat's roots in one cut). By AI agents, Wed Nov 11 2026. No macro, syntax, notation, axiom, sorry.
-/
import Derived.Test.YtpoilgfblhacaaaChecked
import GoSem.Claim
import GoSem.ClaimJoined
import GoSem.ClaimMapViews
import Derived.JoinedTies
import Derived.KernelRfl
namespace Go.Proofs.Ytpoilgfblhacaaa
/- THE CELL 'sum', in the pinned program and in every row, IS THE sha256 OF THE DUMP (.gsa) THAT YtpoilgfblhacaaaProg.lean LOADS. Nothing in Lean hashes anything: it is a label: what it is worth is what the hold of that sum in a sandbox is worth. -/
noncomputable def Try.pinned : Pinned := { name := "ytpoilgfblhacaaa", sum := "bd3e321f1a563fe830fde3389b21a39b4e79cb8072045dc2edd7a9b78c019993", checked := Try.checked }
namespace Rows
def none {H : Type} : Left H := { results := [], args := [] }

/-- 'headgatelaw18.SlotsChanges': WHATEVER THE INPUT: true; the input reads as it did. -/
def slotsChangesSpec : ChangeSpec := { name := "slotsChanges", fn := fun _ => fun
  | [d1, d2] => { results := [.lit (.bool true)], args := [d1, d2] }
  | _ => none }
def slotsChangesRow : OpenClaim := { program := "ytpoilgfblhacaaa", sum := "bd3e321f1a563fe830fde3389b21a39b4e79cb8072045dc2edd7a9b78c019993", func := "headgate/headgatelaw18.SlotsChanges", spec := "slotsChanges", apart := false }
def SlotsChangesSaid : Prop := slotsChangesRow.holds Try.pinned (OpenSpec.ofChange slotsChangesSpec)

/-- ITS FALSE NEIGHBOUR: 'it returns false'. Refute it at one input. -/
def slotsChangesWrong : ChangeSpec := { name := "slotsChanges", fn := fun _ => fun
  | [d1, d2] => { results := [.lit (.bool false)], args := [d1, d2] }
  | _ => none }
def SlotsChangesWrongFalsely : Prop := slotsChangesRow.holds Try.pinned (OpenSpec.ofChange slotsChangesWrong)

/-- 'headgatelaw18.SlotsAlloc': WHATEVER THE INPUT: true; the input reads as it did. -/
def slotsAllocSpec : ChangeSpec := { name := "slotsAlloc", fn := fun _ => fun
  | [d1, d2] => { results := [.lit (.bool true)], args := [d1, d2] }
  | _ => none }
def slotsAllocRow : OpenClaim := { program := "ytpoilgfblhacaaa", sum := "bd3e321f1a563fe830fde3389b21a39b4e79cb8072045dc2edd7a9b78c019993", func := "headgate/headgatelaw18.SlotsAlloc", spec := "slotsAlloc", apart := false }
def SlotsAllocSaid : Prop := slotsAllocRow.holds Try.pinned (OpenSpec.ofChange slotsAllocSpec)

/-- ITS FALSE NEIGHBOUR: 'it returns false'. Refute it at one input. -/
def slotsAllocWrong : ChangeSpec := { name := "slotsAlloc", fn := fun _ => fun
  | [d1, d2] => { results := [.lit (.bool false)], args := [d1, d2] }
  | _ => none }
def SlotsAllocWrongFalsely : Prop := slotsAllocRow.holds Try.pinned (OpenSpec.ofChange slotsAllocWrong)

/-- 'headgatelaw18.SlotsKnown': WHATEVER THE INPUT: true; the input reads as it did. -/
def slotsKnownSpec : ChangeSpec := { name := "slotsKnown", fn := fun _ => fun
  | [] => { results := [.lit (.bool true)], args := [] }
  | _ => none }
def slotsKnownRow : OpenClaim := { program := "ytpoilgfblhacaaa", sum := "bd3e321f1a563fe830fde3389b21a39b4e79cb8072045dc2edd7a9b78c019993", func := "headgate/headgatelaw18.SlotsKnown", spec := "slotsKnown", apart := false }
def SlotsKnownSaid : Prop := slotsKnownRow.holds Try.pinned (OpenSpec.ofChange slotsKnownSpec)

/-- ITS FALSE NEIGHBOUR: 'it returns false'. Refute it at one input. -/
def slotsKnownWrong : ChangeSpec := { name := "slotsKnown", fn := fun _ => fun
  | [] => { results := [.lit (.bool false)], args := [] }
  | _ => none }
def SlotsKnownWrongFalsely : Prop := slotsKnownRow.holds Try.pinned (OpenSpec.ofChange slotsKnownWrong)

/-- 'headgatelaw18.SlotsFree': WHATEVER THE INPUT: true; the input reads as it did. -/
def slotsFreeSpec : ChangeSpec := { name := "slotsFree", fn := fun _ => fun
  | [d1, d2] => { results := [.lit (.bool true)], args := [d1, d2] }
  | _ => none }
def slotsFreeRow : OpenClaim := { program := "ytpoilgfblhacaaa", sum := "bd3e321f1a563fe830fde3389b21a39b4e79cb8072045dc2edd7a9b78c019993", func := "headgate/headgatelaw18.SlotsFree", spec := "slotsFree", apart := false }
def SlotsFreeSaid : Prop := slotsFreeRow.holds Try.pinned (OpenSpec.ofChange slotsFreeSpec)

/-- ITS FALSE NEIGHBOUR: 'it returns false'. Refute it at one input. -/
def slotsFreeWrong : ChangeSpec := { name := "slotsFree", fn := fun _ => fun
  | [d1, d2] => { results := [.lit (.bool false)], args := [d1, d2] }
  | _ => none }
def SlotsFreeWrongFalsely : Prop := slotsFreeRow.holds Try.pinned (OpenSpec.ofChange slotsFreeWrong)

/-- 'headgatelaw18.SlotsBack': WHATEVER THE INPUT: true; the input reads as it did. -/
def slotsBackSpec : ChangeSpec := { name := "slotsBack", fn := fun _ => fun
  | [d1, d2, d3] => { results := [.lit (.bool true)], args := [d1, d2, d3] }
  | _ => none }
def slotsBackRow : OpenClaim := { program := "ytpoilgfblhacaaa", sum := "bd3e321f1a563fe830fde3389b21a39b4e79cb8072045dc2edd7a9b78c019993", func := "headgate/headgatelaw18.SlotsBack", spec := "slotsBack", apart := false }
def SlotsBackSaid : Prop := slotsBackRow.holds Try.pinned (OpenSpec.ofChange slotsBackSpec)

/-- ITS FALSE NEIGHBOUR: 'it returns false'. Refute it at one input. -/
def slotsBackWrong : ChangeSpec := { name := "slotsBack", fn := fun _ => fun
  | [d1, d2, d3] => { results := [.lit (.bool false)], args := [d1, d2, d3] }
  | _ => none }
def SlotsBackWrongFalsely : Prop := slotsBackRow.holds Try.pinned (OpenSpec.ofChange slotsBackWrong)

/- THE SECOND FORM. 'bulk': how many values and letters a reading holds, each counted each time it is reached (what is shared counts as often as it is met; a slice's spare places count too). A statement '..UptoSaid' is the law's where the arguments, and the package variables that the reading takes, are together of bulk at most 1048576: NARROWER than '..Said'. Prove '..Said' where nothing that the law and all that it calls make is longer than what came in: it says more and counts as full. Else prove '..UptoSaid'. A law counts once. -/
mutual
def uptoBulk {H : Type} : DataW H → Nat
  | .lit (.string bytes) => bytes.length + 1
  | .lit _ => 1
  | .nil => 1
  | .ptr d => uptoBulk d + 1
  | .slice elems spare => uptoBulkAll elems + uptoBulkAll spare + 1
  | .agg parts => uptoBulkAll parts + 1
  | .iface _ d => uptoBulk d + 1
  | .map entries => uptoBulkEntries entries + 1
  | .held _ => 1
def uptoBulkAll {H : Type} : List (DataW H) → Nat
  | [] => 0
  | d :: r => uptoBulk d + uptoBulkAll r
def uptoBulkEntries {H : Type} : List (Lit × DataW H) → Nat
  | [] => 0
  | x :: r => uptoBulkEntry x + uptoBulkEntries r
def uptoBulkEntry {H : Type} : Lit × DataW H → Nat
  | (.string bytes, d) => bytes.length + uptoBulk d + 1
  | (_, d) => uptoBulk d + 1
 end
def uptoSmall : (H : Type) → List (DataW H) → Bool := fun _ ds => decide (uptoBulkAll ds ≤ 1048576)
def OpenSpec.upto (s : _root_.Go.ChangeSpec) : _root_.Go.OpenSpec := { _root_.Go.OpenSpec.ofChange s with cond := some uptoSmall }

/-- 'headgatelaw18.SlotsChanges', WHERE WHAT IT READS IS OF BULK AT MOST 1048576: true; the input reads as it did. -/
def slotsChangesUptoRow : OpenClaim := { program := "ytpoilgfblhacaaa", sum := "bd3e321f1a563fe830fde3389b21a39b4e79cb8072045dc2edd7a9b78c019993", func := "headgate/headgatelaw18.SlotsChanges", spec := "slotsChanges", apart := false, narrowed := true }
def SlotsChangesUptoSaid : Prop := slotsChangesUptoRow.holds Try.pinned (OpenSpec.upto slotsChangesSpec)

/-- 'headgatelaw18.SlotsAlloc', WHERE WHAT IT READS IS OF BULK AT MOST 1048576: true; the input reads as it did. -/
def slotsAllocUptoRow : OpenClaim := { program := "ytpoilgfblhacaaa", sum := "bd3e321f1a563fe830fde3389b21a39b4e79cb8072045dc2edd7a9b78c019993", func := "headgate/headgatelaw18.SlotsAlloc", spec := "slotsAlloc", apart := false, narrowed := true }
def SlotsAllocUptoSaid : Prop := slotsAllocUptoRow.holds Try.pinned (OpenSpec.upto slotsAllocSpec)

/-- 'headgatelaw18.SlotsKnown', WHERE WHAT IT READS IS OF BULK AT MOST 1048576: true; the input reads as it did. -/
def slotsKnownUptoRow : OpenClaim := { program := "ytpoilgfblhacaaa", sum := "bd3e321f1a563fe830fde3389b21a39b4e79cb8072045dc2edd7a9b78c019993", func := "headgate/headgatelaw18.SlotsKnown", spec := "slotsKnown", apart := false, narrowed := true }
def SlotsKnownUptoSaid : Prop := slotsKnownUptoRow.holds Try.pinned (OpenSpec.upto slotsKnownSpec)

/-- 'headgatelaw18.SlotsFree', WHERE WHAT IT READS IS OF BULK AT MOST 1048576: true; the input reads as it did. -/
def slotsFreeUptoRow : OpenClaim := { program := "ytpoilgfblhacaaa", sum := "bd3e321f1a563fe830fde3389b21a39b4e79cb8072045dc2edd7a9b78c019993", func := "headgate/headgatelaw18.SlotsFree", spec := "slotsFree", apart := false, narrowed := true }
def SlotsFreeUptoSaid : Prop := slotsFreeUptoRow.holds Try.pinned (OpenSpec.upto slotsFreeSpec)

/-- 'headgatelaw18.SlotsBack', WHERE WHAT IT READS IS OF BULK AT MOST 1048576: true; the input reads as it did. -/
def slotsBackUptoRow : OpenClaim := { program := "ytpoilgfblhacaaa", sum := "bd3e321f1a563fe830fde3389b21a39b4e79cb8072045dc2edd7a9b78c019993", func := "headgate/headgatelaw18.SlotsBack", spec := "slotsBack", apart := false, narrowed := true }
def SlotsBackUptoSaid : Prop := slotsBackUptoRow.holds Try.pinned (OpenSpec.upto slotsBackSpec)

end Rows
end Go.Proofs.Ytpoilgfblhacaaa
