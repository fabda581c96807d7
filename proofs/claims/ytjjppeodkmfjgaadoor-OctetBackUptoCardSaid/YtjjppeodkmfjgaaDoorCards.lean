/-
  DERIVED. GIVEN WITH THE SEED: THE CARDS: each row of YtjjppeodkmfjgaaDoorRows.lean that lists a variable, with what it lists TIED to the program's text (the seventh form; the later family's looks); each row that meets fmt, with fmt's text TOLD by the authors' own Lean function (tested against real Go, not proved from fmt's source: count such statements apart). THE CARD IS WHAT COUNTS. Prove the row's statement (the work); the ties are given (YtjjppeodkmfjgaaDoorTie.lean); close each card by the builder's one call (the guide's Derived/Test/ToyasCard.lean, 'card_holds'). Laid BY PROGRAM, IN A SANDBOX (cutbox-door.mjs). By AI agents, Wed Nov 11 2026. No macro, syntax, notation, axiom, sorry.
-/
import Derived.Test.YtjjppeodkmfjgaaDoorRows
import GoSem.ClaimSeven
namespace Go.Proofs.YtjjppeodkmfjgaaDoor
namespace Rows

/-- THE TIED CARD OF 'liverylaw01.OctetHexes'. -/
def octetHexesCard : Claim7 := { stood := { row := octetHexesRow, standIns := [], harness := (true, "7ac96e034383e9f32d5b24c19541ff8ffd95339ac30fb099f4d1394fa041cd99"), looks := false }, kinds := [], alts := [], laidByText := true, laidKinds := [.data, .pinned], laidTests := true, laidLooks := .later }
def OctetHexesCardSaid : Prop := Claim7.holds Tryd.pinned (.plain (OpenSpec.ofChange octetHexesSpec)) octetHexesCard

/-- THE TIED CARD OF 'liverylaw01.OctetBits'. -/
def octetBitsCard : Claim7 := { stood := { row := octetBitsRow, standIns := [], harness := (true, "7ac96e034383e9f32d5b24c19541ff8ffd95339ac30fb099f4d1394fa041cd99"), looks := false }, kinds := [], alts := [], laidByText := true, laidKinds := [.data, .pinned], laidTests := true, laidLooks := .later }
def OctetBitsCardSaid : Prop := Claim7.holds Tryd.pinned (.plain (OpenSpec.ofChange octetBitsSpec)) octetBitsCard

/-- THE TIED CARD OF 'liverylaw01.OctetPlain'. -/
def octetPlainCard : Claim7 := { stood := { row := octetPlainRow, standIns := [], harness := (true, "7ac96e034383e9f32d5b24c19541ff8ffd95339ac30fb099f4d1394fa041cd99"), looks := false }, kinds := [], alts := [], laidByText := true, laidKinds := [.data, .pinned], laidTests := true, laidLooks := .later }
def OctetPlainCardSaid : Prop := Claim7.holds Tryd.pinned (.plain (OpenSpec.ofChange octetPlainSpec)) octetPlainCard

/-- THE TIED CARD OF 'liverylaw01.OctetDecimals'. -/
def octetDecimalsCard : Claim7 := { stood := { row := octetDecimalsRow, standIns := [], harness := (true, "7ac96e034383e9f32d5b24c19541ff8ffd95339ac30fb099f4d1394fa041cd99"), looks := false }, kinds := [], alts := [], laidByText := true, laidKinds := [.data, .pinned], laidTests := true, laidLooks := .later }
def OctetDecimalsCardSaid : Prop := Claim7.holds Tryd.pinned (.plain (OpenSpec.ofChange octetDecimalsSpec)) octetDecimalsCard

/-- THE TIED CARD OF 'liverylaw01.OctetNumbers'. -/
def octetNumbersCard : Claim7 := { stood := { row := octetNumbersRow, standIns := [], harness := (true, "7ac96e034383e9f32d5b24c19541ff8ffd95339ac30fb099f4d1394fa041cd99"), looks := false }, kinds := [], alts := [], laidByText := true, laidKinds := [.data, .pinned], laidTests := true, laidLooks := .later }
def OctetNumbersCardSaid : Prop := Claim7.holds Tryd.pinned (.plain (OpenSpec.ofChange octetNumbersSpec)) octetNumbersCard

/-- THE TIED CARD OF 'liverylaw01.OctetChoice'. -/
def octetChoiceCard : Claim7 := { stood := { row := octetChoiceRow, standIns := [], harness := (true, "7ac96e034383e9f32d5b24c19541ff8ffd95339ac30fb099f4d1394fa041cd99"), looks := false }, kinds := [], alts := [], laidByText := true, laidKinds := [.data, .pinned], laidTests := true, laidLooks := .later }
def OctetChoiceCardSaid : Prop := Claim7.holds Tryd.pinned (.plain (OpenSpec.ofChange octetChoiceSpec)) octetChoiceCard

/-- THE TIED CARD OF 'liverylaw01.OctetHolds'. -/
def octetHoldsCard : Claim7 := { stood := { row := octetHoldsRow, standIns := [], harness := (true, "7ac96e034383e9f32d5b24c19541ff8ffd95339ac30fb099f4d1394fa041cd99"), looks := false }, kinds := [], alts := [], laidByText := true, laidKinds := [.data, .pinned], laidTests := true, laidLooks := .later }
def OctetHoldsCardSaid : Prop := Claim7.holds Tryd.pinned (.plain (OpenSpec.ofChange octetHoldsSpec)) octetHoldsCard

/-- THE TIED CARD OF 'liverylaw01.OctetBack'. -/
def octetBackCard : Claim7 := { stood := { row := octetBackRow, standIns := [], harness := (true, "7ac96e034383e9f32d5b24c19541ff8ffd95339ac30fb099f4d1394fa041cd99"), looks := false }, kinds := [], alts := [], laidByText := true, laidKinds := [.data, .pinned], laidTests := true, laidLooks := .later }
def OctetBackCardSaid : Prop := Claim7.holds Tryd.pinned (.plain (OpenSpec.ofChange octetBackSpec)) octetBackCard

/-- THE SECOND FORM's CARD OF 'liverylaw01.OctetHexes'. -/
def octetHexesUptoCard : Claim7 := { stood := { row := octetHexesUptoRow, standIns := [], harness := (true, "7ac96e034383e9f32d5b24c19541ff8ffd95339ac30fb099f4d1394fa041cd99"), looks := false }, kinds := [], alts := [], laidByText := true, laidKinds := [.data, .pinned], laidTests := true, laidLooks := .later }
def OctetHexesUptoCardSaid : Prop := Claim7.holds Tryd.pinned (.plain (OpenSpec.upto octetHexesSpec)) octetHexesUptoCard

/-- THE SECOND FORM's CARD OF 'liverylaw01.OctetBits'. -/
def octetBitsUptoCard : Claim7 := { stood := { row := octetBitsUptoRow, standIns := [], harness := (true, "7ac96e034383e9f32d5b24c19541ff8ffd95339ac30fb099f4d1394fa041cd99"), looks := false }, kinds := [], alts := [], laidByText := true, laidKinds := [.data, .pinned], laidTests := true, laidLooks := .later }
def OctetBitsUptoCardSaid : Prop := Claim7.holds Tryd.pinned (.plain (OpenSpec.upto octetBitsSpec)) octetBitsUptoCard

/-- THE SECOND FORM's CARD OF 'liverylaw01.OctetPlain'. -/
def octetPlainUptoCard : Claim7 := { stood := { row := octetPlainUptoRow, standIns := [], harness := (true, "7ac96e034383e9f32d5b24c19541ff8ffd95339ac30fb099f4d1394fa041cd99"), looks := false }, kinds := [], alts := [], laidByText := true, laidKinds := [.data, .pinned], laidTests := true, laidLooks := .later }
def OctetPlainUptoCardSaid : Prop := Claim7.holds Tryd.pinned (.plain (OpenSpec.upto octetPlainSpec)) octetPlainUptoCard

/-- THE SECOND FORM's CARD OF 'liverylaw01.OctetDecimals'. -/
def octetDecimalsUptoCard : Claim7 := { stood := { row := octetDecimalsUptoRow, standIns := [], harness := (true, "7ac96e034383e9f32d5b24c19541ff8ffd95339ac30fb099f4d1394fa041cd99"), looks := false }, kinds := [], alts := [], laidByText := true, laidKinds := [.data, .pinned], laidTests := true, laidLooks := .later }
def OctetDecimalsUptoCardSaid : Prop := Claim7.holds Tryd.pinned (.plain (OpenSpec.upto octetDecimalsSpec)) octetDecimalsUptoCard

/-- THE SECOND FORM's CARD OF 'liverylaw01.OctetNumbers'. -/
def octetNumbersUptoCard : Claim7 := { stood := { row := octetNumbersUptoRow, standIns := [], harness := (true, "7ac96e034383e9f32d5b24c19541ff8ffd95339ac30fb099f4d1394fa041cd99"), looks := false }, kinds := [], alts := [], laidByText := true, laidKinds := [.data, .pinned], laidTests := true, laidLooks := .later }
def OctetNumbersUptoCardSaid : Prop := Claim7.holds Tryd.pinned (.plain (OpenSpec.upto octetNumbersSpec)) octetNumbersUptoCard

/-- THE SECOND FORM's CARD OF 'liverylaw01.OctetChoice'. -/
def octetChoiceUptoCard : Claim7 := { stood := { row := octetChoiceUptoRow, standIns := [], harness := (true, "7ac96e034383e9f32d5b24c19541ff8ffd95339ac30fb099f4d1394fa041cd99"), looks := false }, kinds := [], alts := [], laidByText := true, laidKinds := [.data, .pinned], laidTests := true, laidLooks := .later }
def OctetChoiceUptoCardSaid : Prop := Claim7.holds Tryd.pinned (.plain (OpenSpec.upto octetChoiceSpec)) octetChoiceUptoCard

/-- THE SECOND FORM's CARD OF 'liverylaw01.OctetHolds'. -/
def octetHoldsUptoCard : Claim7 := { stood := { row := octetHoldsUptoRow, standIns := [], harness := (true, "7ac96e034383e9f32d5b24c19541ff8ffd95339ac30fb099f4d1394fa041cd99"), looks := false }, kinds := [], alts := [], laidByText := true, laidKinds := [.data, .pinned], laidTests := true, laidLooks := .later }
def OctetHoldsUptoCardSaid : Prop := Claim7.holds Tryd.pinned (.plain (OpenSpec.upto octetHoldsSpec)) octetHoldsUptoCard

/-- THE SECOND FORM's CARD OF 'liverylaw01.OctetBack'. -/
def octetBackUptoCard : Claim7 := { stood := { row := octetBackUptoRow, standIns := [], harness := (true, "7ac96e034383e9f32d5b24c19541ff8ffd95339ac30fb099f4d1394fa041cd99"), looks := false }, kinds := [], alts := [], laidByText := true, laidKinds := [.data, .pinned], laidTests := true, laidLooks := .later }
def OctetBackUptoCardSaid : Prop := Claim7.holds Tryd.pinned (.plain (OpenSpec.upto octetBackSpec)) octetBackUptoCard
end Rows
end Go.Proofs.YtjjppeodkmfjgaaDoor
