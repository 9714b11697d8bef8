/-
  DERIVED. GIVEN WITH THE SEED: THE CARDS: each row of YtoimmfcodflmkaaDoorRows.lean that lists a variable, with what it lists TIED to the program's text (the seventh form; the later family's looks); each row that meets fmt, with fmt's text TOLD by the authors' own Lean function (tested against real Go, not proved from fmt's source: count such statements apart). THE CARD IS WHAT COUNTS. Prove the row's statement (the work); the ties are given (YtoimmfcodflmkaaDoorTie.lean); close each card by the builder's one call (the guide's Derived/Test/ToyasCard.lean, 'card_holds'). Laid BY PROGRAM, IN A SANDBOX (cutbox-door.mjs). By AI agents, Wed Nov 11 2026. No macro, syntax, notation, axiom, sorry.
-/
import Derived.Test.YtoimmfcodflmkaaDoorRows
import GoSem.ClaimSeven
namespace Go.Proofs.YtoimmfcodflmkaaDoor
namespace Rows

/-- THE TIED CARD OF 'headgatelaw14.PoolMakes'. -/
def poolMakesCard : Claim7 := { stood := { row := poolMakesRow, standIns := [], harness := (true, "5e27b7ebfea7fa40fc02a53e84418163f987ec63cb563c685fe1f5152df9f5e9"), looks := false }, kinds := [], alts := [], laidByText := true, laidKinds := [.data], laidTests := true, laidLooks := .later }
def PoolMakesCardSaid : Prop := Claim7.holds Tryd.pinned (.plain (OpenSpec.ofChange poolMakesSpec)) poolMakesCard

/-- THE TIED CARD OF 'headgatelaw14.PoolChanges'. -/
def poolChangesCard : Claim7 := { stood := { row := poolChangesRow, standIns := [], harness := (true, "5e27b7ebfea7fa40fc02a53e84418163f987ec63cb563c685fe1f5152df9f5e9"), looks := false }, kinds := [], alts := [], laidByText := true, laidKinds := [.data], laidTests := true, laidLooks := .later }
def PoolChangesCardSaid : Prop := Claim7.holds Tryd.pinned (.plain (OpenSpec.ofChange poolChangesSpec)) poolChangesCard

/-- THE TIED CARD OF 'headgatelaw14.PoolLooks'. -/
def poolLooksCard : Claim7 := { stood := { row := poolLooksRow, standIns := [], harness := (true, "5e27b7ebfea7fa40fc02a53e84418163f987ec63cb563c685fe1f5152df9f5e9"), looks := false }, kinds := [], alts := [], laidByText := true, laidKinds := [.data], laidTests := true, laidLooks := .later }
def PoolLooksCardSaid : Prop := Claim7.holds Tryd.pinned (.plain (OpenSpec.ofChange poolLooksSpec)) poolLooksCard

/-- THE TIED CARD OF 'headgatelaw14.PoolKnown'. -/
def poolKnownCard : Claim7 := { stood := { row := poolKnownRow, standIns := [], harness := (true, "5e27b7ebfea7fa40fc02a53e84418163f987ec63cb563c685fe1f5152df9f5e9"), looks := false }, kinds := [], alts := [], laidByText := true, laidKinds := [.data], laidTests := true, laidLooks := .later }
def PoolKnownCardSaid : Prop := Claim7.holds Tryd.pinned (.plain (OpenSpec.ofChange poolKnownSpec)) poolKnownCard

/-- THE TIED CARD OF 'headgatelaw14.PoolBack'. -/
def poolBackCard : Claim7 := { stood := { row := poolBackRow, standIns := [], harness := (true, "5e27b7ebfea7fa40fc02a53e84418163f987ec63cb563c685fe1f5152df9f5e9"), looks := false }, kinds := [], alts := [], laidByText := true, laidKinds := [.data], laidTests := true, laidLooks := .later }
def PoolBackCardSaid : Prop := Claim7.holds Tryd.pinned (.plain (OpenSpec.ofChange poolBackSpec)) poolBackCard

/-- THE TIED CARD OF 'headgatelaw14.PoolAll'. -/
def poolAllCard : Claim7 := { stood := { row := poolAllRow, standIns := [], harness := (true, "5e27b7ebfea7fa40fc02a53e84418163f987ec63cb563c685fe1f5152df9f5e9"), looks := false }, kinds := [], alts := [], laidByText := true, laidKinds := [.data], laidTests := true, laidLooks := .later }
def PoolAllCardSaid : Prop := Claim7.holds Tryd.pinned (.plain (OpenSpec.ofChange poolAllSpec)) poolAllCard

/-- THE SECOND FORM's CARD OF 'headgatelaw14.PoolMakes'. -/
def poolMakesUptoCard : Claim7 := { stood := { row := poolMakesUptoRow, standIns := [], harness := (true, "5e27b7ebfea7fa40fc02a53e84418163f987ec63cb563c685fe1f5152df9f5e9"), looks := false }, kinds := [], alts := [], laidByText := true, laidKinds := [.data], laidTests := true, laidLooks := .later }
def PoolMakesUptoCardSaid : Prop := Claim7.holds Tryd.pinned (.plain (OpenSpec.upto poolMakesSpec)) poolMakesUptoCard

/-- THE SECOND FORM's CARD OF 'headgatelaw14.PoolChanges'. -/
def poolChangesUptoCard : Claim7 := { stood := { row := poolChangesUptoRow, standIns := [], harness := (true, "5e27b7ebfea7fa40fc02a53e84418163f987ec63cb563c685fe1f5152df9f5e9"), looks := false }, kinds := [], alts := [], laidByText := true, laidKinds := [.data], laidTests := true, laidLooks := .later }
def PoolChangesUptoCardSaid : Prop := Claim7.holds Tryd.pinned (.plain (OpenSpec.upto poolChangesSpec)) poolChangesUptoCard

/-- THE SECOND FORM's CARD OF 'headgatelaw14.PoolLooks'. -/
def poolLooksUptoCard : Claim7 := { stood := { row := poolLooksUptoRow, standIns := [], harness := (true, "5e27b7ebfea7fa40fc02a53e84418163f987ec63cb563c685fe1f5152df9f5e9"), looks := false }, kinds := [], alts := [], laidByText := true, laidKinds := [.data], laidTests := true, laidLooks := .later }
def PoolLooksUptoCardSaid : Prop := Claim7.holds Tryd.pinned (.plain (OpenSpec.upto poolLooksSpec)) poolLooksUptoCard

/-- THE SECOND FORM's CARD OF 'headgatelaw14.PoolKnown'. -/
def poolKnownUptoCard : Claim7 := { stood := { row := poolKnownUptoRow, standIns := [], harness := (true, "5e27b7ebfea7fa40fc02a53e84418163f987ec63cb563c685fe1f5152df9f5e9"), looks := false }, kinds := [], alts := [], laidByText := true, laidKinds := [.data], laidTests := true, laidLooks := .later }
def PoolKnownUptoCardSaid : Prop := Claim7.holds Tryd.pinned (.plain (OpenSpec.upto poolKnownSpec)) poolKnownUptoCard

/-- THE SECOND FORM's CARD OF 'headgatelaw14.PoolBack'. -/
def poolBackUptoCard : Claim7 := { stood := { row := poolBackUptoRow, standIns := [], harness := (true, "5e27b7ebfea7fa40fc02a53e84418163f987ec63cb563c685fe1f5152df9f5e9"), looks := false }, kinds := [], alts := [], laidByText := true, laidKinds := [.data], laidTests := true, laidLooks := .later }
def PoolBackUptoCardSaid : Prop := Claim7.holds Tryd.pinned (.plain (OpenSpec.upto poolBackSpec)) poolBackUptoCard

/-- THE SECOND FORM's CARD OF 'headgatelaw14.PoolAll'. -/
def poolAllUptoCard : Claim7 := { stood := { row := poolAllUptoRow, standIns := [], harness := (true, "5e27b7ebfea7fa40fc02a53e84418163f987ec63cb563c685fe1f5152df9f5e9"), looks := false }, kinds := [], alts := [], laidByText := true, laidKinds := [.data], laidTests := true, laidLooks := .later }
def PoolAllUptoCardSaid : Prop := Claim7.holds Tryd.pinned (.plain (OpenSpec.upto poolAllSpec)) poolAllUptoCard
end Rows
end Go.Proofs.YtoimmfcodflmkaaDoor
