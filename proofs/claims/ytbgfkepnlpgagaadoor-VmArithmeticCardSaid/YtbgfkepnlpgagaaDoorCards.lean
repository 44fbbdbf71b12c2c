/-
  DERIVED. GIVEN WITH THE SEED: THE CARDS: each row of YtbgfkepnlpgagaaDoorRows.lean that lists a variable, with what it lists TIED to the program's text (the seventh form; the later family's looks); each row that meets fmt, with fmt's text TOLD by the authors' own Lean function (tested against real Go, not proved from fmt's source: count such statements apart). THE CARD IS WHAT COUNTS. Prove the row's statement (the work); the ties are given (YtbgfkepnlpgagaaDoorTie.lean); close each card by the builder's one call (the guide's Derived/Test/ToyasCard.lean, 'card_holds'). Laid BY PROGRAM, IN A SANDBOX (cutbox-door.mjs). By AI agents, Wed Nov 11 2026. No macro, syntax, notation, axiom, sorry.
-/
import Derived.Test.YtbgfkepnlpgagaaDoorRows
import GoSem.ClaimSeven
namespace Go.Proofs.YtbgfkepnlpgagaaDoor
namespace Rows

/-- THE TIED CARD OF 'bootchainlaw17.VmMatchesSpec'. -/
def vmMatchesSpecCard : Claim7 := { stood := { row := vmMatchesSpecRow, standIns := [], harness := (true, "9cd2be3723325e88dfb42aeeaed6cddbaaa6827b6777111625303739df91185c"), looks := true }, kinds := [], alts := [], laidByText := true, laidKinds := [.funcs], laidTests := true, laidLooks := .later }
def VmMatchesSpecCardSaid : Prop := Claim7.holds Tryd.pinned (.plain (OpenSpec.ofChange vmMatchesSpecSpec)) vmMatchesSpecCard

/-- THE TIED CARD OF 'bootchainlaw17.VmOutcomeIsValid'. -/
def vmOutcomeIsValidCard : Claim7 := { stood := { row := vmOutcomeIsValidRow, standIns := [], harness := (true, "9cd2be3723325e88dfb42aeeaed6cddbaaa6827b6777111625303739df91185c"), looks := true }, kinds := [], alts := [], laidByText := true, laidKinds := [.funcs], laidTests := true, laidLooks := .later }
def VmOutcomeIsValidCardSaid : Prop := Claim7.holds Tryd.pinned (.plain (OpenSpec.ofChange vmOutcomeIsValidSpec)) vmOutcomeIsValidCard

/-- THE TIED CARD OF 'bootchainlaw17.VmGlitchBeyondEnd'. -/
def vmGlitchBeyondEndCard : Claim7 := { stood := { row := vmGlitchBeyondEndRow, standIns := [], harness := (true, "9cd2be3723325e88dfb42aeeaed6cddbaaa6827b6777111625303739df91185c"), looks := true }, kinds := [], alts := [], laidByText := true, laidKinds := [.funcs], laidTests := true, laidLooks := .later }
def VmGlitchBeyondEndCardSaid : Prop := Claim7.holds Tryd.pinned (.plain (OpenSpec.ofChange vmGlitchBeyondEndSpec)) vmGlitchBeyondEndCard

/-- THE TIED CARD OF 'bootchainlaw17.VmIgnoresUnreachedCode'. -/
def vmIgnoresUnreachedCodeCard : Claim7 := { stood := { row := vmIgnoresUnreachedCodeRow, standIns := [], harness := (true, "9cd2be3723325e88dfb42aeeaed6cddbaaa6827b6777111625303739df91185c"), looks := true }, kinds := [], alts := [], laidByText := true, laidKinds := [.funcs], laidTests := true, laidLooks := .later }
def VmIgnoresUnreachedCodeCardSaid : Prop := Claim7.holds Tryd.pinned (.plain (OpenSpec.ofChange vmIgnoresUnreachedCodeSpec)) vmIgnoresUnreachedCodeCard

/-- THE TIED CARD OF 'bootchainlaw17.VmArithmetic'. -/
def vmArithmeticCard : Claim7 := { stood := { row := vmArithmeticRow, standIns := [], harness := (true, "9cd2be3723325e88dfb42aeeaed6cddbaaa6827b6777111625303739df91185c"), looks := true }, kinds := [], alts := [], laidByText := true, laidKinds := [.funcs], laidTests := true, laidLooks := .later }
def VmArithmeticCardSaid : Prop := Claim7.holds Tryd.pinned (.plain (OpenSpec.ofChange vmArithmeticSpec)) vmArithmeticCard

/-- THE TIED CARD OF 'bootchainlaw17.VmLoops'. -/
def vmLoopsCard : Claim7 := { stood := { row := vmLoopsRow, standIns := [], harness := (true, "9cd2be3723325e88dfb42aeeaed6cddbaaa6827b6777111625303739df91185c"), looks := true }, kinds := [], alts := [], laidByText := true, laidKinds := [.funcs], laidTests := true, laidLooks := .later }
def VmLoopsCardSaid : Prop := Claim7.holds Tryd.pinned (.plain (OpenSpec.ofChange vmLoopsSpec)) vmLoopsCard

/-- THE SECOND FORM's CARD OF 'bootchainlaw17.VmMatchesSpec'. -/
def vmMatchesSpecUptoCard : Claim7 := { stood := { row := vmMatchesSpecUptoRow, standIns := [], harness := (true, "9cd2be3723325e88dfb42aeeaed6cddbaaa6827b6777111625303739df91185c"), looks := true }, kinds := [], alts := [], laidByText := true, laidKinds := [.funcs], laidTests := true, laidLooks := .later }
def VmMatchesSpecUptoCardSaid : Prop := Claim7.holds Tryd.pinned (.plain (OpenSpec.upto vmMatchesSpecSpec)) vmMatchesSpecUptoCard

/-- THE SECOND FORM's CARD OF 'bootchainlaw17.VmOutcomeIsValid'. -/
def vmOutcomeIsValidUptoCard : Claim7 := { stood := { row := vmOutcomeIsValidUptoRow, standIns := [], harness := (true, "9cd2be3723325e88dfb42aeeaed6cddbaaa6827b6777111625303739df91185c"), looks := true }, kinds := [], alts := [], laidByText := true, laidKinds := [.funcs], laidTests := true, laidLooks := .later }
def VmOutcomeIsValidUptoCardSaid : Prop := Claim7.holds Tryd.pinned (.plain (OpenSpec.upto vmOutcomeIsValidSpec)) vmOutcomeIsValidUptoCard

/-- THE SECOND FORM's CARD OF 'bootchainlaw17.VmGlitchBeyondEnd'. -/
def vmGlitchBeyondEndUptoCard : Claim7 := { stood := { row := vmGlitchBeyondEndUptoRow, standIns := [], harness := (true, "9cd2be3723325e88dfb42aeeaed6cddbaaa6827b6777111625303739df91185c"), looks := true }, kinds := [], alts := [], laidByText := true, laidKinds := [.funcs], laidTests := true, laidLooks := .later }
def VmGlitchBeyondEndUptoCardSaid : Prop := Claim7.holds Tryd.pinned (.plain (OpenSpec.upto vmGlitchBeyondEndSpec)) vmGlitchBeyondEndUptoCard

/-- THE SECOND FORM's CARD OF 'bootchainlaw17.VmIgnoresUnreachedCode'. -/
def vmIgnoresUnreachedCodeUptoCard : Claim7 := { stood := { row := vmIgnoresUnreachedCodeUptoRow, standIns := [], harness := (true, "9cd2be3723325e88dfb42aeeaed6cddbaaa6827b6777111625303739df91185c"), looks := true }, kinds := [], alts := [], laidByText := true, laidKinds := [.funcs], laidTests := true, laidLooks := .later }
def VmIgnoresUnreachedCodeUptoCardSaid : Prop := Claim7.holds Tryd.pinned (.plain (OpenSpec.upto vmIgnoresUnreachedCodeSpec)) vmIgnoresUnreachedCodeUptoCard

/-- THE SECOND FORM's CARD OF 'bootchainlaw17.VmArithmetic'. -/
def vmArithmeticUptoCard : Claim7 := { stood := { row := vmArithmeticUptoRow, standIns := [], harness := (true, "9cd2be3723325e88dfb42aeeaed6cddbaaa6827b6777111625303739df91185c"), looks := true }, kinds := [], alts := [], laidByText := true, laidKinds := [.funcs], laidTests := true, laidLooks := .later }
def VmArithmeticUptoCardSaid : Prop := Claim7.holds Tryd.pinned (.plain (OpenSpec.upto vmArithmeticSpec)) vmArithmeticUptoCard

/-- THE SECOND FORM's CARD OF 'bootchainlaw17.VmLoops'. -/
def vmLoopsUptoCard : Claim7 := { stood := { row := vmLoopsUptoRow, standIns := [], harness := (true, "9cd2be3723325e88dfb42aeeaed6cddbaaa6827b6777111625303739df91185c"), looks := true }, kinds := [], alts := [], laidByText := true, laidKinds := [.funcs], laidTests := true, laidLooks := .later }
def VmLoopsUptoCardSaid : Prop := Claim7.holds Tryd.pinned (.plain (OpenSpec.upto vmLoopsSpec)) vmLoopsUptoCard
end Rows
end Go.Proofs.YtbgfkepnlpgagaaDoor
