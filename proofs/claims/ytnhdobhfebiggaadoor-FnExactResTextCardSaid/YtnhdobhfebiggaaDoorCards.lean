/-
  DERIVED. GIVEN WITH THE SEED: THE CARDS: each row of YtnhdobhfebiggaaDoorRows.lean that lists a variable, with what it lists TIED to the program's text (the seventh form; the later family's looks); each row that meets fmt, with fmt's text TOLD by the authors' own Lean function (tested against real Go, not proved from fmt's source: count such statements apart). THE CARD IS WHAT COUNTS. Prove the row's statement (the work); the ties are given (YtnhdobhfebiggaaDoorTie.lean); close each card by the builder's one call (the guide's Derived/Test/ToyasCard.lean, 'card_holds'). Laid BY PROGRAM, IN A SANDBOX (cutbox-door.mjs). By AI agents, Wed Nov 11 2026. No macro, syntax, notation, axiom, sorry.
-/
import Derived.Test.YtnhdobhfebiggaaDoorRows
import GoSem.ClaimSeven
namespace Go.Proofs.YtnhdobhfebiggaaDoor
namespace Rows

/-- THE TIED CARD OF 'laws.FnExactTyText'. -/
def fnExactTyTextCard : Claim7 := { stood := { row := fnExactTyTextRow, standIns := [], harness := (true, "83566c195b3b06c700aab7368be951ecd895d416f89a54959df0d6e3d8ce5612"), looks := false }, kinds := [], alts := [], laidByText := true, laidKinds := [.data, .data, .data], laidTests := true, laidLooks := .later }
def FnExactTyTextCardSaid : Prop := Claim7.holds Tryd.pinned (.plain (OpenSpec.ofChange fnExactTyTextSpec)) fnExactTyTextCard

/-- THE TIED CARD OF 'laws.FnExactResText'. -/
def fnExactResTextCard : Claim7 := { stood := { row := fnExactResTextRow, standIns := [], harness := (true, "83566c195b3b06c700aab7368be951ecd895d416f89a54959df0d6e3d8ce5612"), looks := false }, kinds := [], alts := [], laidByText := true, laidKinds := [.data, .data, .data], laidTests := true, laidLooks := .later }
def FnExactResTextCardSaid : Prop := Claim7.holds Tryd.pinned (.plain (OpenSpec.ofChange fnExactResTextSpec)) fnExactResTextCard

/-- THE SECOND FORM's CARD OF 'laws.FnExactTyText'. -/
def fnExactTyTextUptoCard : Claim7 := { stood := { row := fnExactTyTextUptoRow, standIns := [], harness := (true, "83566c195b3b06c700aab7368be951ecd895d416f89a54959df0d6e3d8ce5612"), looks := false }, kinds := [], alts := [], laidByText := true, laidKinds := [.data, .data, .data], laidTests := true, laidLooks := .later }
def FnExactTyTextUptoCardSaid : Prop := Claim7.holds Tryd.pinned (.plain (OpenSpec.upto fnExactTyTextSpec)) fnExactTyTextUptoCard

/-- THE SECOND FORM's CARD OF 'laws.FnExactResText'. -/
def fnExactResTextUptoCard : Claim7 := { stood := { row := fnExactResTextUptoRow, standIns := [], harness := (true, "83566c195b3b06c700aab7368be951ecd895d416f89a54959df0d6e3d8ce5612"), looks := false }, kinds := [], alts := [], laidByText := true, laidKinds := [.data, .data, .data], laidTests := true, laidLooks := .later }
def FnExactResTextUptoCardSaid : Prop := Claim7.holds Tryd.pinned (.plain (OpenSpec.upto fnExactResTextSpec)) fnExactResTextUptoCard
end Rows
end Go.Proofs.YtnhdobhfebiggaaDoor
