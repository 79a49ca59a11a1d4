/-
  DERIVED. GIVEN WITH THE SEED: THE CARDS: each row of YtoanfmlpddlcmaaGreatDoorRows.lean that lists a variable, with what it lists TIED to the program's text (the seventh form; the later family's looks); each row that meets fmt, with fmt's text TOLD by the authors' own Lean function (tested against real Go, not proved from fmt's source: count such statements apart). THE CARD IS WHAT COUNTS. Prove the row's statement (the work); the ties are given (YtoanfmlpddlcmaaGreatDoorTie.lean); close each card by the builder's one call (the guide's Derived/Test/ToyasCard.lean, 'card_holds'). Laid BY PROGRAM, IN A SANDBOX (cutbox-door.mjs). By AI agents, Wed Nov 11 2026. No macro, syntax, notation, axiom, sorry.
-/
import Derived.Test.YtoanfmlpddlcmaaGreatDoorRows
import GoSem.ClaimSeven
namespace Go.Proofs.YtoanfmlpddlcmaaGreatDoor
namespace Rows

/-- THE TIED CARD OF 'bramblelaw03.RexPlain'. -/
def rexPlainCard : Claim7 := { stood := { row := rexPlainRow, standIns := [], harness := (true, "5ca4cb88435ad700f3d84c862822077e47e43d4f1fe0689a4ca30e5611b2808b"), looks := true }, kinds := [], alts := [], laidByText := true, laidKinds := [.data, .pinned], laidTests := true, laidLooks := .later }
def RexPlainCardSaid : Prop := Claim7.holds Tryz.pinned (.plain (OpenSpec.ofChange rexPlainSpec)) rexPlainCard

/-- THE TIED CARD OF 'bramblelaw03.RexWrites'. -/
def rexWritesCard : Claim7 := { stood := { row := rexWritesRow, standIns := [], harness := (true, "5ca4cb88435ad700f3d84c862822077e47e43d4f1fe0689a4ca30e5611b2808b"), looks := true }, kinds := [], alts := [], laidByText := true, laidKinds := [.data, .pinned], laidTests := true, laidLooks := .later }
def RexWritesCardSaid : Prop := Claim7.holds Tryz.pinned (.plain (OpenSpec.ofChange rexWritesSpec)) rexWritesCard

/-- THE SECOND FORM's CARD OF 'bramblelaw03.RexPlain'. -/
def rexPlainUptoCard : Claim7 := { stood := { row := rexPlainUptoRow, standIns := [], harness := (true, "5ca4cb88435ad700f3d84c862822077e47e43d4f1fe0689a4ca30e5611b2808b"), looks := true }, kinds := [], alts := [], laidByText := true, laidKinds := [.data, .pinned], laidTests := true, laidLooks := .later }
def RexPlainUptoCardSaid : Prop := Claim7.holds Tryz.pinned (.plain (OpenSpec.upto rexPlainSpec)) rexPlainUptoCard

/-- THE SECOND FORM's CARD OF 'bramblelaw03.RexWrites'. -/
def rexWritesUptoCard : Claim7 := { stood := { row := rexWritesUptoRow, standIns := [], harness := (true, "5ca4cb88435ad700f3d84c862822077e47e43d4f1fe0689a4ca30e5611b2808b"), looks := true }, kinds := [], alts := [], laidByText := true, laidKinds := [.data, .pinned], laidTests := true, laidLooks := .later }
def RexWritesUptoCardSaid : Prop := Claim7.holds Tryz.pinned (.plain (OpenSpec.upto rexWritesSpec)) rexWritesUptoCard
end Rows
end Go.Proofs.YtoanfmlpddlcmaaGreatDoor
