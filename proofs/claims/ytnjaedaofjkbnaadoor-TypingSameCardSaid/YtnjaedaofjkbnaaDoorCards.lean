/-
  DERIVED. GIVEN WITH THE SEED: THE CARDS: each row of YtnjaedaofjkbnaaDoorRows.lean that lists a variable, with what it lists TIED to the program's text (the seventh form; the later family's looks); each row that meets fmt, with fmt's text TOLD by the authors' own Lean function (tested against real Go, not proved from fmt's source: count such statements apart). THE CARD IS WHAT COUNTS. Prove the row's statement (the work); the ties are given (YtnjaedaofjkbnaaDoorTie.lean); close each card by the builder's one call (the guide's Derived/Test/ToyasCard.lean, 'card_holds'). Laid BY PROGRAM, IN A SANDBOX (cutbox-door.mjs). By AI agents, Wed Nov 11 2026. No macro, syntax, notation, axiom, sorry.
-/
import Derived.Test.YtnjaedaofjkbnaaDoorRows
import GoSem.ClaimSeven
namespace Go.Proofs.YtnjaedaofjkbnaaDoor
namespace Rows

/-- THE TIED CARD OF 'ladderbacklaw43.NnfTells'. -/
def nnfTellsCard : Claim7 := { stood := { row := nnfTellsRow, standIns := [], harness := (true, "ff70feb6bc0b945d7162f71fa077a62c3b072577da6ed695351d4f232597d05b"), looks := false }, kinds := [], alts := [], laidByText := true, laidKinds := [.data, .data], laidTests := true, laidLooks := .later }
def NnfTellsCardSaid : Prop := Claim7.holds Tryd.pinned (.plain (OpenSpec.ofChange nnfTellsSpec)) nnfTellsCard

/-- THE TIED CARD OF 'ladderbacklaw44.NetTells'. -/
def netTellsCard : Claim7 := { stood := { row := netTellsRow, standIns := [], harness := (true, "ff70feb6bc0b945d7162f71fa077a62c3b072577da6ed695351d4f232597d05b"), looks := false }, kinds := [], alts := [], laidByText := true, laidKinds := [.data, .data], laidTests := true, laidLooks := .later }
def NetTellsCardSaid : Prop := Claim7.holds Tryd.pinned (.plain (OpenSpec.ofChange netTellsSpec)) netTellsCard

/-- THE TIED CARD OF 'ladderbacklaw44.NetBack'. -/
def netBackCard : Claim7 := { stood := { row := netBackRow, standIns := [], harness := (true, "ff70feb6bc0b945d7162f71fa077a62c3b072577da6ed695351d4f232597d05b"), looks := false }, kinds := [], alts := [], laidByText := true, laidKinds := [.data, .data], laidTests := true, laidLooks := .later }
def NetBackCardSaid : Prop := Claim7.holds Tryd.pinned (.plain (OpenSpec.ofChange netBackSpec)) netBackCard

/-- THE TIED CARD OF 'ladderbacklaw20.TypingSame'. -/
def typingSameCard : Claim7 := { stood := { row := typingSameRow, standIns := [], harness := (true, "ff70feb6bc0b945d7162f71fa077a62c3b072577da6ed695351d4f232597d05b"), looks := false }, kinds := [], alts := [], laidByText := true, laidKinds := [.data, .data, .data], laidTests := true, laidLooks := .later }
def TypingSameCardSaid : Prop := Claim7.holds Tryd.pinned (.plain (OpenSpec.ofChange typingSameSpec)) typingSameCard

/-- THE SECOND FORM's CARD OF 'ladderbacklaw43.NnfTells'. -/
def nnfTellsUptoCard : Claim7 := { stood := { row := nnfTellsUptoRow, standIns := [], harness := (true, "ff70feb6bc0b945d7162f71fa077a62c3b072577da6ed695351d4f232597d05b"), looks := false }, kinds := [], alts := [], laidByText := true, laidKinds := [.data, .data], laidTests := true, laidLooks := .later }
def NnfTellsUptoCardSaid : Prop := Claim7.holds Tryd.pinned (.plain (OpenSpec.upto nnfTellsSpec)) nnfTellsUptoCard

/-- THE SECOND FORM's CARD OF 'ladderbacklaw44.NetTells'. -/
def netTellsUptoCard : Claim7 := { stood := { row := netTellsUptoRow, standIns := [], harness := (true, "ff70feb6bc0b945d7162f71fa077a62c3b072577da6ed695351d4f232597d05b"), looks := false }, kinds := [], alts := [], laidByText := true, laidKinds := [.data, .data], laidTests := true, laidLooks := .later }
def NetTellsUptoCardSaid : Prop := Claim7.holds Tryd.pinned (.plain (OpenSpec.upto netTellsSpec)) netTellsUptoCard

/-- THE SECOND FORM's CARD OF 'ladderbacklaw44.NetBack'. -/
def netBackUptoCard : Claim7 := { stood := { row := netBackUptoRow, standIns := [], harness := (true, "ff70feb6bc0b945d7162f71fa077a62c3b072577da6ed695351d4f232597d05b"), looks := false }, kinds := [], alts := [], laidByText := true, laidKinds := [.data, .data], laidTests := true, laidLooks := .later }
def NetBackUptoCardSaid : Prop := Claim7.holds Tryd.pinned (.plain (OpenSpec.upto netBackSpec)) netBackUptoCard

/-- THE SECOND FORM's CARD OF 'ladderbacklaw20.TypingSame'. -/
def typingSameUptoCard : Claim7 := { stood := { row := typingSameUptoRow, standIns := [], harness := (true, "ff70feb6bc0b945d7162f71fa077a62c3b072577da6ed695351d4f232597d05b"), looks := false }, kinds := [], alts := [], laidByText := true, laidKinds := [.data, .data, .data], laidTests := true, laidLooks := .later }
def TypingSameUptoCardSaid : Prop := Claim7.holds Tryd.pinned (.plain (OpenSpec.upto typingSameSpec)) typingSameUptoCard
end Rows
end Go.Proofs.YtnjaedaofjkbnaaDoor
