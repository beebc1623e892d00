/-
  DERIVED. GIVEN WITH THE SEED: THE CARDS: each row of YthofcclbkihemaaDoorRows.lean that lists a variable, with what it lists TIED to the program's text (the seventh form; the later family's looks); each row that meets fmt, with fmt's text TOLD by the authors' own Lean function (tested against real Go, not proved from fmt's source: count such statements apart). THE CARD IS WHAT COUNTS. Prove the row's statement (the work); the ties are given (YthofcclbkihemaaDoorTie.lean); close each card by the builder's one call (the guide's Derived/Test/ToyasCard.lean, 'card_holds'). Laid BY PROGRAM, IN A SANDBOX (cutbox-door.mjs). By AI agents, Wed Nov 11 2026. No macro, syntax, notation, axiom, sorry.
-/
import Derived.Test.YthofcclbkihemaaDoorRows
import GoSem.ClaimSeven
namespace Go.Proofs.YthofcclbkihemaaDoor
namespace Rows

/-- THE TIED CARD OF 'laws.FnCueText'. -/
def fnCueTextCard : Claim7 := { stood := { row := fnCueTextRow, standIns := [], harness := (true, "5f9076ea3634e295fc353addf9559b944490f31be7f592efecb22e0fac65d948"), looks := false }, kinds := [], alts := [], laidByText := true, laidKinds := [.data, .data, .data, .data, .pinned], laidTests := true, laidLooks := .later }
def FnCueTextCardSaid : Prop := Claim7.holds Tryd.pinned (.plain (OpenSpec.ofChange fnCueTextSpec)) fnCueTextCard

/-- THE TIED CARD OF 'laws.FnDeviceText'. -/
def fnDeviceTextCard : Claim7 := { stood := { row := fnDeviceTextRow, standIns := [], harness := (true, "5f9076ea3634e295fc353addf9559b944490f31be7f592efecb22e0fac65d948"), looks := false }, kinds := [], alts := [], laidByText := true, laidKinds := [.data, .data, .data, .data, .pinned], laidTests := true, laidLooks := .later }
def FnDeviceTextCardSaid : Prop := Claim7.holds Tryd.pinned (.plain (OpenSpec.ofChange fnDeviceTextSpec)) fnDeviceTextCard

/-- THE TIED CARD OF 'laws.FnExactParseDevice'. -/
def fnExactParseDeviceCard : Claim7 := { stood := { row := fnExactParseDeviceRow, standIns := [], harness := (true, "5f9076ea3634e295fc353addf9559b944490f31be7f592efecb22e0fac65d948"), looks := false }, kinds := [], alts := [], laidByText := true, laidKinds := [.data, .data, .data, .data, .pinned], laidTests := true, laidLooks := .later }
def FnExactParseDeviceCardSaid : Prop := Claim7.holds Tryd.pinned (.plain (OpenSpec.ofChange fnExactParseDeviceSpec)) fnExactParseDeviceCard

/-- THE TIED CARD OF 'laws.FnExactFormatCue'. -/
def fnExactFormatCueCard : Claim7 := { stood := { row := fnExactFormatCueRow, standIns := [], harness := (true, "5f9076ea3634e295fc353addf9559b944490f31be7f592efecb22e0fac65d948"), looks := false }, kinds := [], alts := [], laidByText := true, laidKinds := [.data, .data, .data, .data, .pinned], laidTests := true, laidLooks := .later }
def FnExactFormatCueCardSaid : Prop := Claim7.holds Tryd.pinned (.plain (OpenSpec.ofChange fnExactFormatCueSpec)) fnExactFormatCueCard

/-- THE TIED CARD OF 'laws.FnExactFormatDevice'. -/
def fnExactFormatDeviceCard : Claim7 := { stood := { row := fnExactFormatDeviceRow, standIns := [], harness := (true, "5f9076ea3634e295fc353addf9559b944490f31be7f592efecb22e0fac65d948"), looks := false }, kinds := [], alts := [], laidByText := true, laidKinds := [.data, .data, .data, .data, .pinned], laidTests := true, laidLooks := .later }
def FnExactFormatDeviceCardSaid : Prop := Claim7.holds Tryd.pinned (.plain (OpenSpec.ofChange fnExactFormatDeviceSpec)) fnExactFormatDeviceCard

/-- THE TIED CARD OF 'laws.FnExactParseCue'. -/
def fnExactParseCueCard : Claim7 := { stood := { row := fnExactParseCueRow, standIns := [], harness := (true, "5f9076ea3634e295fc353addf9559b944490f31be7f592efecb22e0fac65d948"), looks := false }, kinds := [], alts := [], laidByText := true, laidKinds := [.data, .data, .data, .data, .pinned], laidTests := true, laidLooks := .later }
def FnExactParseCueCardSaid : Prop := Claim7.holds Tryd.pinned (.plain (OpenSpec.ofChange fnExactParseCueSpec)) fnExactParseCueCard

/-- THE SECOND FORM's CARD OF 'laws.FnCueText'. -/
def fnCueTextUptoCard : Claim7 := { stood := { row := fnCueTextUptoRow, standIns := [], harness := (true, "5f9076ea3634e295fc353addf9559b944490f31be7f592efecb22e0fac65d948"), looks := false }, kinds := [], alts := [], laidByText := true, laidKinds := [.data, .data, .data, .data, .pinned], laidTests := true, laidLooks := .later }
def FnCueTextUptoCardSaid : Prop := Claim7.holds Tryd.pinned (.plain (OpenSpec.upto fnCueTextSpec)) fnCueTextUptoCard

/-- THE SECOND FORM's CARD OF 'laws.FnDeviceText'. -/
def fnDeviceTextUptoCard : Claim7 := { stood := { row := fnDeviceTextUptoRow, standIns := [], harness := (true, "5f9076ea3634e295fc353addf9559b944490f31be7f592efecb22e0fac65d948"), looks := false }, kinds := [], alts := [], laidByText := true, laidKinds := [.data, .data, .data, .data, .pinned], laidTests := true, laidLooks := .later }
def FnDeviceTextUptoCardSaid : Prop := Claim7.holds Tryd.pinned (.plain (OpenSpec.upto fnDeviceTextSpec)) fnDeviceTextUptoCard

/-- THE SECOND FORM's CARD OF 'laws.FnExactParseDevice'. -/
def fnExactParseDeviceUptoCard : Claim7 := { stood := { row := fnExactParseDeviceUptoRow, standIns := [], harness := (true, "5f9076ea3634e295fc353addf9559b944490f31be7f592efecb22e0fac65d948"), looks := false }, kinds := [], alts := [], laidByText := true, laidKinds := [.data, .data, .data, .data, .pinned], laidTests := true, laidLooks := .later }
def FnExactParseDeviceUptoCardSaid : Prop := Claim7.holds Tryd.pinned (.plain (OpenSpec.upto fnExactParseDeviceSpec)) fnExactParseDeviceUptoCard

/-- THE SECOND FORM's CARD OF 'laws.FnExactFormatCue'. -/
def fnExactFormatCueUptoCard : Claim7 := { stood := { row := fnExactFormatCueUptoRow, standIns := [], harness := (true, "5f9076ea3634e295fc353addf9559b944490f31be7f592efecb22e0fac65d948"), looks := false }, kinds := [], alts := [], laidByText := true, laidKinds := [.data, .data, .data, .data, .pinned], laidTests := true, laidLooks := .later }
def FnExactFormatCueUptoCardSaid : Prop := Claim7.holds Tryd.pinned (.plain (OpenSpec.upto fnExactFormatCueSpec)) fnExactFormatCueUptoCard

/-- THE SECOND FORM's CARD OF 'laws.FnExactFormatDevice'. -/
def fnExactFormatDeviceUptoCard : Claim7 := { stood := { row := fnExactFormatDeviceUptoRow, standIns := [], harness := (true, "5f9076ea3634e295fc353addf9559b944490f31be7f592efecb22e0fac65d948"), looks := false }, kinds := [], alts := [], laidByText := true, laidKinds := [.data, .data, .data, .data, .pinned], laidTests := true, laidLooks := .later }
def FnExactFormatDeviceUptoCardSaid : Prop := Claim7.holds Tryd.pinned (.plain (OpenSpec.upto fnExactFormatDeviceSpec)) fnExactFormatDeviceUptoCard

/-- THE SECOND FORM's CARD OF 'laws.FnExactParseCue'. -/
def fnExactParseCueUptoCard : Claim7 := { stood := { row := fnExactParseCueUptoRow, standIns := [], harness := (true, "5f9076ea3634e295fc353addf9559b944490f31be7f592efecb22e0fac65d948"), looks := false }, kinds := [], alts := [], laidByText := true, laidKinds := [.data, .data, .data, .data, .pinned], laidTests := true, laidLooks := .later }
def FnExactParseCueUptoCardSaid : Prop := Claim7.holds Tryd.pinned (.plain (OpenSpec.upto fnExactParseCueSpec)) fnExactParseCueUptoCard
end Rows
end Go.Proofs.YthofcclbkihemaaDoor
