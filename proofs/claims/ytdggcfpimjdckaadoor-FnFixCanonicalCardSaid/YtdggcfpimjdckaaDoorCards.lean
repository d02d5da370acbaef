/-
  DERIVED. GIVEN WITH THE SEED: THE CARDS: each row of YtdggcfpimjdckaaDoorRows.lean that lists a variable, with what it lists TIED to the program's text (the seventh form; the later family's looks); each row that meets fmt, with fmt's text TOLD by the authors' own Lean function (tested against real Go, not proved from fmt's source: count such statements apart). THE CARD IS WHAT COUNTS. Prove the row's statement (the work); the ties are given (YtdggcfpimjdckaaDoorTie.lean); close each card by the builder's one call (the guide's Derived/Test/ToyasCard.lean, 'card_holds'). Laid BY PROGRAM, IN A SANDBOX (cutbox-door.mjs). By AI agents, Wed Nov 11 2026. No macro, syntax, notation, axiom, sorry.
-/
import Derived.Test.YtdggcfpimjdckaaDoorRows
import GoSem.ClaimSeven
namespace Go.Proofs.YtdggcfpimjdckaaDoor
namespace Rows

/-- THE TIED CARD OF 'laws.FnValidFix'. -/
def fnValidFixCard : Claim7 := { stood := { row := fnValidFixRow, standIns := [], harness := (true, "46cda1736192a85394359857029f30b357059e14311f5b075bc4931f520594f9"), looks := true }, kinds := [], alts := [], laidByText := true, laidKinds := [.data, .data, .data], laidTests := true, laidLooks := .later }
def FnValidFixCardSaid : Prop := Claim7.holds Tryd.pinned (.plain (OpenSpec.ofChange fnValidFixSpec)) fnValidFixCard

/-- THE TIED CARD OF 'laws.FnExactFormatFix'. -/
def fnExactFormatFixCard : Claim7 := { stood := { row := fnExactFormatFixRow, standIns := [], harness := (true, "46cda1736192a85394359857029f30b357059e14311f5b075bc4931f520594f9"), looks := true }, kinds := [], alts := [], laidByText := true, laidKinds := [.data, .data, .data], laidTests := true, laidLooks := .later }
def FnExactFormatFixCardSaid : Prop := Claim7.holds Tryd.pinned (.plain (OpenSpec.ofChange fnExactFormatFixSpec)) fnExactFormatFixCard

/-- THE TIED CARD OF 'laws.FnFixFrame'. -/
def fnFixFrameCard : Claim7 := { stood := { row := fnFixFrameRow, standIns := [], harness := (true, "46cda1736192a85394359857029f30b357059e14311f5b075bc4931f520594f9"), looks := true }, kinds := [], alts := [], laidByText := true, laidKinds := [.data, .data, .data], laidTests := true, laidLooks := .later }
def FnFixFrameCardSaid : Prop := Claim7.holds Tryd.pinned (.plain (OpenSpec.ofChange fnFixFrameSpec)) fnFixFrameCard

/-- THE TIED CARD OF 'laws.FnFixRoundTrip'. -/
def fnFixRoundTripCard : Claim7 := { stood := { row := fnFixRoundTripRow, standIns := [], harness := (true, "46cda1736192a85394359857029f30b357059e14311f5b075bc4931f520594f9"), looks := true }, kinds := [], alts := [], laidByText := true, laidKinds := [.data, .data, .data, .data, .sentinel, .sentinel, .pinned], laidTests := true, laidLooks := .later }
def FnFixRoundTripCardSaid : Prop := Claim7.holds Tryd.pinned (.plain (OpenSpec.ofChange fnFixRoundTripSpec)) fnFixRoundTripCard

/-- THE TIED CARD OF 'laws.FnExactParseFix'. -/
def fnExactParseFixCard : Claim7 := { stood := { row := fnExactParseFixRow, standIns := [], harness := (true, "46cda1736192a85394359857029f30b357059e14311f5b075bc4931f520594f9"), looks := true }, kinds := [], alts := [], laidByText := true, laidKinds := [.data, .data, .data, .data, .sentinel, .sentinel, .pinned], laidTests := true, laidLooks := .later }
def FnExactParseFixCardSaid : Prop := Claim7.holds Tryd.pinned (.plain (OpenSpec.ofChange fnExactParseFixSpec)) fnExactParseFixCard

/-- THE TIED CARD OF 'laws.FnFixCanonical'. -/
def fnFixCanonicalCard : Claim7 := { stood := { row := fnFixCanonicalRow, standIns := [], harness := (true, "46cda1736192a85394359857029f30b357059e14311f5b075bc4931f520594f9"), looks := true }, kinds := [], alts := [], laidByText := true, laidKinds := [.data, .data, .data, .data, .sentinel, .sentinel, .pinned], laidTests := true, laidLooks := .later }
def FnFixCanonicalCardSaid : Prop := Claim7.holds Tryd.pinned (.plain (OpenSpec.ofChange fnFixCanonicalSpec)) fnFixCanonicalCard

/-- THE SECOND FORM's CARD OF 'laws.FnValidFix'. -/
def fnValidFixUptoCard : Claim7 := { stood := { row := fnValidFixUptoRow, standIns := [], harness := (true, "46cda1736192a85394359857029f30b357059e14311f5b075bc4931f520594f9"), looks := true }, kinds := [], alts := [], laidByText := true, laidKinds := [.data, .data, .data], laidTests := true, laidLooks := .later }
def FnValidFixUptoCardSaid : Prop := Claim7.holds Tryd.pinned (.plain (OpenSpec.upto fnValidFixSpec)) fnValidFixUptoCard

/-- THE SECOND FORM's CARD OF 'laws.FnExactFormatFix'. -/
def fnExactFormatFixUptoCard : Claim7 := { stood := { row := fnExactFormatFixUptoRow, standIns := [], harness := (true, "46cda1736192a85394359857029f30b357059e14311f5b075bc4931f520594f9"), looks := true }, kinds := [], alts := [], laidByText := true, laidKinds := [.data, .data, .data], laidTests := true, laidLooks := .later }
def FnExactFormatFixUptoCardSaid : Prop := Claim7.holds Tryd.pinned (.plain (OpenSpec.upto fnExactFormatFixSpec)) fnExactFormatFixUptoCard

/-- THE SECOND FORM's CARD OF 'laws.FnFixFrame'. -/
def fnFixFrameUptoCard : Claim7 := { stood := { row := fnFixFrameUptoRow, standIns := [], harness := (true, "46cda1736192a85394359857029f30b357059e14311f5b075bc4931f520594f9"), looks := true }, kinds := [], alts := [], laidByText := true, laidKinds := [.data, .data, .data], laidTests := true, laidLooks := .later }
def FnFixFrameUptoCardSaid : Prop := Claim7.holds Tryd.pinned (.plain (OpenSpec.upto fnFixFrameSpec)) fnFixFrameUptoCard

/-- THE SECOND FORM's CARD OF 'laws.FnFixRoundTrip'. -/
def fnFixRoundTripUptoCard : Claim7 := { stood := { row := fnFixRoundTripUptoRow, standIns := [], harness := (true, "46cda1736192a85394359857029f30b357059e14311f5b075bc4931f520594f9"), looks := true }, kinds := [], alts := [], laidByText := true, laidKinds := [.data, .data, .data, .data, .sentinel, .sentinel, .pinned], laidTests := true, laidLooks := .later }
def FnFixRoundTripUptoCardSaid : Prop := Claim7.holds Tryd.pinned (.plain (OpenSpec.upto fnFixRoundTripSpec)) fnFixRoundTripUptoCard

/-- THE SECOND FORM's CARD OF 'laws.FnExactParseFix'. -/
def fnExactParseFixUptoCard : Claim7 := { stood := { row := fnExactParseFixUptoRow, standIns := [], harness := (true, "46cda1736192a85394359857029f30b357059e14311f5b075bc4931f520594f9"), looks := true }, kinds := [], alts := [], laidByText := true, laidKinds := [.data, .data, .data, .data, .sentinel, .sentinel, .pinned], laidTests := true, laidLooks := .later }
def FnExactParseFixUptoCardSaid : Prop := Claim7.holds Tryd.pinned (.plain (OpenSpec.upto fnExactParseFixSpec)) fnExactParseFixUptoCard

/-- THE SECOND FORM's CARD OF 'laws.FnFixCanonical'. -/
def fnFixCanonicalUptoCard : Claim7 := { stood := { row := fnFixCanonicalUptoRow, standIns := [], harness := (true, "46cda1736192a85394359857029f30b357059e14311f5b075bc4931f520594f9"), looks := true }, kinds := [], alts := [], laidByText := true, laidKinds := [.data, .data, .data, .data, .sentinel, .sentinel, .pinned], laidTests := true, laidLooks := .later }
def FnFixCanonicalUptoCardSaid : Prop := Claim7.holds Tryd.pinned (.plain (OpenSpec.upto fnFixCanonicalSpec)) fnFixCanonicalUptoCard
end Rows
end Go.Proofs.YtdggcfpimjdckaaDoor
