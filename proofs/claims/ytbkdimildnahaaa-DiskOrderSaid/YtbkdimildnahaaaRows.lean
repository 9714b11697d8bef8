/-
  No cell of these rows narrows 'for every input' (looked for: loops, veiled, ifaces, maps, wideKeys, modest, calm, conditions, laid).
  DERIVED. THE GIVEN ROWS OF THIS SEAT. 6 by the template 'for every input the law returns true; each argument reads behind the call as it read before'; 0 by the template 'total and deterministic' (their statements: YtbkdimildnahaaaTotals.lean).
  GIVEN WITH THE SEED: the statements are not yours to turn. If you find one false, say at which input.
  Laid BY PROGRAM, IN A SANDBOX (cutbox-rows.mjs): the forced cells as the released guide's own fill.sh prints them over the translation 055d8403ecb67c43… (all of the seat's roots in one cut). By AI agents, Wed Nov 11 2026. No macro, syntax, notation, axiom, sorry.
-/
import Derived.Test.YtbkdimildnahaaaChecked
import GoSem.Claim
import GoSem.ClaimJoined
import GoSem.ClaimMapViews
import Derived.JoinedTies
import Derived.KernelRfl
namespace Go.Proofs.Ytbkdimildnahaaa
/- THE CELL 'sum', in the pinned program and in every row, IS THE sha256 OF THE DUMP (.gsa) THAT YtbkdimildnahaaaProg.lean LOADS. Nothing in Lean hashes anything: it is a label: what it is worth is what the hold of that sum in a sandbox is worth. -/
noncomputable def Try.pinned : Pinned := { name := "ytbkdimildnahaaa", sum := "055d8403ecb67c434a610dc5ebba6c33e453ab862e71dee97cd33f3136a16bd9", checked := Try.checked }
namespace Rows
def none {H : Type} : Left H := { results := [], args := [] }

/-- 'headgatelaw17.DiskJobs': WHATEVER THE INPUT: true; the input reads as it did. -/
def diskJobsSpec : ChangeSpec := { name := "diskJobs", fn := fun _ => fun
  | [d1, d2, d3, d4] => { results := [.lit (.bool true)], args := [d1, d2, d3, d4] }
  | _ => none }
def diskJobsRow : OpenClaim := { program := "ytbkdimildnahaaa", sum := "055d8403ecb67c434a610dc5ebba6c33e453ab862e71dee97cd33f3136a16bd9", func := "headgate/headgatelaw17.DiskJobs", spec := "diskJobs", plainKeys := false, apart := false }
def DiskJobsSaid : Prop := diskJobsRow.holds Try.pinned (OpenSpec.ofChange diskJobsSpec)

/-- ITS FALSE NEIGHBOUR: 'it returns false'. Refute it at one input. -/
def diskJobsWrong : ChangeSpec := { name := "diskJobs", fn := fun _ => fun
  | [d1, d2, d3, d4] => { results := [.lit (.bool false)], args := [d1, d2, d3, d4] }
  | _ => none }
def DiskJobsWrongFalsely : Prop := diskJobsRow.holds Try.pinned (OpenSpec.ofChange diskJobsWrong)

/-- 'headgatelaw17.DiskChecks': WHATEVER THE INPUT: true; the input reads as it did. -/
def diskChecksSpec : ChangeSpec := { name := "diskChecks", fn := fun _ => fun
  | [d1, d2, d3] => { results := [.lit (.bool true)], args := [d1, d2, d3] }
  | _ => none }
def diskChecksRow : OpenClaim := { program := "ytbkdimildnahaaa", sum := "055d8403ecb67c434a610dc5ebba6c33e453ab862e71dee97cd33f3136a16bd9", func := "headgate/headgatelaw17.DiskChecks", spec := "diskChecks", plainKeys := false, apart := false }
def DiskChecksSaid : Prop := diskChecksRow.holds Try.pinned (OpenSpec.ofChange diskChecksSpec)

/-- ITS FALSE NEIGHBOUR: 'it returns false'. Refute it at one input. -/
def diskChecksWrong : ChangeSpec := { name := "diskChecks", fn := fun _ => fun
  | [d1, d2, d3] => { results := [.lit (.bool false)], args := [d1, d2, d3] }
  | _ => none }
def DiskChecksWrongFalsely : Prop := diskChecksRow.holds Try.pinned (OpenSpec.ofChange diskChecksWrong)

/-- 'headgatelaw17.DiskKnown': WHATEVER THE INPUT: true; the input reads as it did. -/
def diskKnownSpec : ChangeSpec := { name := "diskKnown", fn := fun _ => fun
  | [] => { results := [.lit (.bool true)], args := [] }
  | _ => none }
def diskKnownRow : OpenClaim := { program := "ytbkdimildnahaaa", sum := "055d8403ecb67c434a610dc5ebba6c33e453ab862e71dee97cd33f3136a16bd9", func := "headgate/headgatelaw17.DiskKnown", spec := "diskKnown", plainKeys := false, apart := false }
def DiskKnownSaid : Prop := diskKnownRow.holds Try.pinned (OpenSpec.ofChange diskKnownSpec)

/-- ITS FALSE NEIGHBOUR: 'it returns false'. Refute it at one input. -/
def diskKnownWrong : ChangeSpec := { name := "diskKnown", fn := fun _ => fun
  | [] => { results := [.lit (.bool false)], args := [] }
  | _ => none }
def DiskKnownWrongFalsely : Prop := diskKnownRow.holds Try.pinned (OpenSpec.ofChange diskKnownWrong)

/-- 'headgatelaw17.DiskReads': WHATEVER THE INPUT: true; the input reads as it did. -/
def diskReadsSpec : ChangeSpec := { name := "diskReads", fn := fun _ => fun
  | [d1, d2, d3] => { results := [.lit (.bool true)], args := [d1, d2, d3] }
  | _ => none }
def diskReadsRow : OpenClaim := { program := "ytbkdimildnahaaa", sum := "055d8403ecb67c434a610dc5ebba6c33e453ab862e71dee97cd33f3136a16bd9", func := "headgate/headgatelaw17.DiskReads", spec := "diskReads", plainKeys := false, apart := false }
def DiskReadsSaid : Prop := diskReadsRow.holds Try.pinned (OpenSpec.ofChange diskReadsSpec)

/-- ITS FALSE NEIGHBOUR: 'it returns false'. Refute it at one input. -/
def diskReadsWrong : ChangeSpec := { name := "diskReads", fn := fun _ => fun
  | [d1, d2, d3] => { results := [.lit (.bool false)], args := [d1, d2, d3] }
  | _ => none }
def DiskReadsWrongFalsely : Prop := diskReadsRow.holds Try.pinned (OpenSpec.ofChange diskReadsWrong)

/-- 'headgatelaw17.DiskAlone': WHATEVER THE INPUT: true; the input reads as it did. -/
def diskAloneSpec : ChangeSpec := { name := "diskAlone", fn := fun _ => fun
  | [d1, d2, d3] => { results := [.lit (.bool true)], args := [d1, d2, d3] }
  | _ => none }
def diskAloneRow : OpenClaim := { program := "ytbkdimildnahaaa", sum := "055d8403ecb67c434a610dc5ebba6c33e453ab862e71dee97cd33f3136a16bd9", func := "headgate/headgatelaw17.DiskAlone", spec := "diskAlone", plainKeys := false, apart := false }
def DiskAloneSaid : Prop := diskAloneRow.holds Try.pinned (OpenSpec.ofChange diskAloneSpec)

/-- ITS FALSE NEIGHBOUR: 'it returns false'. Refute it at one input. -/
def diskAloneWrong : ChangeSpec := { name := "diskAlone", fn := fun _ => fun
  | [d1, d2, d3] => { results := [.lit (.bool false)], args := [d1, d2, d3] }
  | _ => none }
def DiskAloneWrongFalsely : Prop := diskAloneRow.holds Try.pinned (OpenSpec.ofChange diskAloneWrong)

/-- 'headgatelaw17.DiskOrder': WHATEVER THE INPUT: true; the input reads as it did. -/
def diskOrderSpec : ChangeSpec := { name := "diskOrder", fn := fun _ => fun
  | [d1, d2] => { results := [.lit (.bool true)], args := [d1, d2] }
  | _ => none }
def diskOrderRow : OpenClaim := { program := "ytbkdimildnahaaa", sum := "055d8403ecb67c434a610dc5ebba6c33e453ab862e71dee97cd33f3136a16bd9", func := "headgate/headgatelaw17.DiskOrder", spec := "diskOrder", plainKeys := false, apart := false }
def DiskOrderSaid : Prop := diskOrderRow.holds Try.pinned (OpenSpec.ofChange diskOrderSpec)

/-- ITS FALSE NEIGHBOUR: 'it returns false'. Refute it at one input. -/
def diskOrderWrong : ChangeSpec := { name := "diskOrder", fn := fun _ => fun
  | [d1, d2] => { results := [.lit (.bool false)], args := [d1, d2] }
  | _ => none }
def DiskOrderWrongFalsely : Prop := diskOrderRow.holds Try.pinned (OpenSpec.ofChange diskOrderWrong)

/- THE SECOND FORM. 'bulk': how many values and letters a reading holds, each counted each time it is reached (what is shared counts as often as it is met; a slice's spare places count too). A statement '..UptoSaid' is the law's where the arguments, and the package variables that the reading takes, are together of bulk at most 1048576: NARROWER than '..Said'. Prove '..Said' where nothing that the law and all that it calls make is longer than what came in: it says more and counts as full. Else prove '..UptoSaid'. A law counts once. -/
mutual
def uptoBulk {H : Type} : DataW H → Nat
  | .lit (.string bytes) => bytes.length + 1
  | .lit _ => 1
  | .nil => 1
  | .ptr d => uptoBulk d + 1
  | .slice elems spare => uptoBulkAll elems + uptoBulkAll spare + 1
  | .agg parts => uptoBulkAll parts + 1
  | .iface _ d => uptoBulk d + 1
  | .map entries => uptoBulkEntries entries + 1
  | .held _ => 1
def uptoBulkAll {H : Type} : List (DataW H) → Nat
  | [] => 0
  | d :: r => uptoBulk d + uptoBulkAll r
def uptoBulkEntries {H : Type} : List (Lit × DataW H) → Nat
  | [] => 0
  | x :: r => uptoBulkEntry x + uptoBulkEntries r
def uptoBulkEntry {H : Type} : Lit × DataW H → Nat
  | (.string bytes, d) => bytes.length + uptoBulk d + 1
  | (_, d) => uptoBulk d + 1
 end
def uptoSmall : (H : Type) → List (DataW H) → Bool := fun _ ds => decide (uptoBulkAll ds ≤ 1048576)
def OpenSpec.upto (s : _root_.Go.ChangeSpec) : _root_.Go.OpenSpec := { _root_.Go.OpenSpec.ofChange s with cond := some uptoSmall }

/-- 'headgatelaw17.DiskJobs', WHERE WHAT IT READS IS OF BULK AT MOST 1048576: true; the input reads as it did. -/
def diskJobsUptoRow : OpenClaim := { program := "ytbkdimildnahaaa", sum := "055d8403ecb67c434a610dc5ebba6c33e453ab862e71dee97cd33f3136a16bd9", func := "headgate/headgatelaw17.DiskJobs", spec := "diskJobs", plainKeys := false, apart := false, narrowed := true }
def DiskJobsUptoSaid : Prop := diskJobsUptoRow.holds Try.pinned (OpenSpec.upto diskJobsSpec)

/-- 'headgatelaw17.DiskChecks', WHERE WHAT IT READS IS OF BULK AT MOST 1048576: true; the input reads as it did. -/
def diskChecksUptoRow : OpenClaim := { program := "ytbkdimildnahaaa", sum := "055d8403ecb67c434a610dc5ebba6c33e453ab862e71dee97cd33f3136a16bd9", func := "headgate/headgatelaw17.DiskChecks", spec := "diskChecks", plainKeys := false, apart := false, narrowed := true }
def DiskChecksUptoSaid : Prop := diskChecksUptoRow.holds Try.pinned (OpenSpec.upto diskChecksSpec)

/-- 'headgatelaw17.DiskKnown', WHERE WHAT IT READS IS OF BULK AT MOST 1048576: true; the input reads as it did. -/
def diskKnownUptoRow : OpenClaim := { program := "ytbkdimildnahaaa", sum := "055d8403ecb67c434a610dc5ebba6c33e453ab862e71dee97cd33f3136a16bd9", func := "headgate/headgatelaw17.DiskKnown", spec := "diskKnown", plainKeys := false, apart := false, narrowed := true }
def DiskKnownUptoSaid : Prop := diskKnownUptoRow.holds Try.pinned (OpenSpec.upto diskKnownSpec)

/-- 'headgatelaw17.DiskReads', WHERE WHAT IT READS IS OF BULK AT MOST 1048576: true; the input reads as it did. -/
def diskReadsUptoRow : OpenClaim := { program := "ytbkdimildnahaaa", sum := "055d8403ecb67c434a610dc5ebba6c33e453ab862e71dee97cd33f3136a16bd9", func := "headgate/headgatelaw17.DiskReads", spec := "diskReads", plainKeys := false, apart := false, narrowed := true }
def DiskReadsUptoSaid : Prop := diskReadsUptoRow.holds Try.pinned (OpenSpec.upto diskReadsSpec)

/-- 'headgatelaw17.DiskAlone', WHERE WHAT IT READS IS OF BULK AT MOST 1048576: true; the input reads as it did. -/
def diskAloneUptoRow : OpenClaim := { program := "ytbkdimildnahaaa", sum := "055d8403ecb67c434a610dc5ebba6c33e453ab862e71dee97cd33f3136a16bd9", func := "headgate/headgatelaw17.DiskAlone", spec := "diskAlone", plainKeys := false, apart := false, narrowed := true }
def DiskAloneUptoSaid : Prop := diskAloneUptoRow.holds Try.pinned (OpenSpec.upto diskAloneSpec)

/-- 'headgatelaw17.DiskOrder', WHERE WHAT IT READS IS OF BULK AT MOST 1048576: true; the input reads as it did. -/
def diskOrderUptoRow : OpenClaim := { program := "ytbkdimildnahaaa", sum := "055d8403ecb67c434a610dc5ebba6c33e453ab862e71dee97cd33f3136a16bd9", func := "headgate/headgatelaw17.DiskOrder", spec := "diskOrder", plainKeys := false, apart := false, narrowed := true }
def DiskOrderUptoSaid : Prop := diskOrderUptoRow.holds Try.pinned (OpenSpec.upto diskOrderSpec)

end Rows
end Go.Proofs.Ytbkdimildnahaaa
