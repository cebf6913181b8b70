/-
  DERIVED. GIVEN WITH THE SEED: THE CARDS: each row of YtbdfdbkbmegcgaaGreatDoorRows.lean that lists a variable, with what it lists TIED to the program's text (the seventh form; the later family's looks); each row that meets fmt, with fmt's text TOLD by the authors' own Lean function (tested against real Go, not proved from fmt's source: count such statements apart). THE CARD IS WHAT COUNTS. Prove the row's statement (the work); the ties are given (YtbdfdbkbmegcgaaGreatDoorTie.lean); close each card by the builder's one call (the guide's Derived/Test/ToyasCard.lean, 'card_holds'). Laid BY PROGRAM, IN A SANDBOX (cutbox-door.mjs). By AI agents, Wed Nov 11 2026. No macro, syntax, notation, axiom, sorry.
-/
import Derived.Test.YtbdfdbkbmegcgaaGreatDoorRows
import GoSem.ClaimSeven
namespace Go.Proofs.YtbdfdbkbmegcgaaGreatDoor
namespace Rows

/-- THE TIED CARD OF 'laws.FnLinesQuiet'. -/
def fnLinesQuietCard : Claim7 := { stood := { row := fnLinesQuietRow, standIns := [], harness := (true, "ed1d61f8ca3847bf49e76f8ea8f077fe7174183f55b469b7258494ab812551f8"), looks := true }, kinds := [], alts := [], laidByText := true, laidKinds := [.data, .data, .data, .data, .sentinel, .sentinel, .sentinel, .pinned], laidTests := true, laidLooks := .later }
def FnLinesQuietCardSaid : Prop := Claim7.holds Tryz.pinned (.plain (OpenSpec.ofChange fnLinesQuietSpec)) fnLinesQuietCard

/-- THE TIED CARD OF 'laws.FnLinesRun'. -/
def fnLinesRunCard : Claim7 := { stood := { row := fnLinesRunRow, standIns := [], harness := (true, "ed1d61f8ca3847bf49e76f8ea8f077fe7174183f55b469b7258494ab812551f8"), looks := true }, kinds := [], alts := [], laidByText := true, laidKinds := [.data, .data, .data, .data, .sentinel, .sentinel, .sentinel, .pinned], laidTests := true, laidLooks := .later }
def FnLinesRunCardSaid : Prop := Claim7.holds Tryz.pinned (.plain (OpenSpec.ofChange fnLinesRunSpec)) fnLinesRunCard

/-- THE TIED CARD OF 'laws.FnLinesSend'. -/
def fnLinesSendCard : Claim7 := { stood := { row := fnLinesSendRow, standIns := [], harness := (true, "ed1d61f8ca3847bf49e76f8ea8f077fe7174183f55b469b7258494ab812551f8"), looks := true }, kinds := [], alts := [], laidByText := true, laidKinds := [.data, .data, .data, .data, .sentinel, .sentinel, .sentinel, .pinned], laidTests := true, laidLooks := .later }
def FnLinesSendCardSaid : Prop := Claim7.holds Tryz.pinned (.plain (OpenSpec.ofChange fnLinesSendSpec)) fnLinesSendCard

/-- THE TIED CARD OF 'laws.FnExactLinesRun'. -/
def fnExactLinesRunCard : Claim7 := { stood := { row := fnExactLinesRunRow, standIns := [], harness := (true, "ed1d61f8ca3847bf49e76f8ea8f077fe7174183f55b469b7258494ab812551f8"), looks := true }, kinds := [], alts := [], laidByText := true, laidKinds := [.data, .data, .data, .data, .sentinel, .sentinel, .sentinel, .pinned], laidTests := true, laidLooks := .later }
def FnExactLinesRunCardSaid : Prop := Claim7.holds Tryz.pinned (.plain (OpenSpec.ofChange fnExactLinesRunSpec)) fnExactLinesRunCard

/-- THE TIED CARD OF 'laws.FnLinesBack'. -/
def fnLinesBackCard : Claim7 := { stood := { row := fnLinesBackRow, standIns := [], harness := (true, "ed1d61f8ca3847bf49e76f8ea8f077fe7174183f55b469b7258494ab812551f8"), looks := true }, kinds := [], alts := [], laidByText := true, laidKinds := [.data, .data, .data, .data, .sentinel, .sentinel, .sentinel, .pinned], laidTests := true, laidLooks := .later }
def FnLinesBackCardSaid : Prop := Claim7.holds Tryz.pinned (.plain (OpenSpec.ofChange fnLinesBackSpec)) fnLinesBackCard

/-- THE TIED CARD OF 'laws.FnLinesCarry'. -/
def fnLinesCarryCard : Claim7 := { stood := { row := fnLinesCarryRow, standIns := [], harness := (true, "ed1d61f8ca3847bf49e76f8ea8f077fe7174183f55b469b7258494ab812551f8"), looks := true }, kinds := [], alts := [], laidByText := true, laidKinds := [.data, .data, .data, .data, .sentinel, .sentinel, .sentinel, .pinned], laidTests := true, laidLooks := .later }
def FnLinesCarryCardSaid : Prop := Claim7.holds Tryz.pinned (.plain (OpenSpec.ofChange fnLinesCarrySpec)) fnLinesCarryCard

/-- THE TIED CARD OF 'laws.FnLinesLate'. -/
def fnLinesLateCard : Claim7 := { stood := { row := fnLinesLateRow, standIns := [], harness := (true, "ed1d61f8ca3847bf49e76f8ea8f077fe7174183f55b469b7258494ab812551f8"), looks := true }, kinds := [], alts := [], laidByText := true, laidKinds := [.data, .data, .data, .data, .sentinel, .sentinel, .sentinel, .pinned], laidTests := true, laidLooks := .later }
def FnLinesLateCardSaid : Prop := Claim7.holds Tryz.pinned (.plain (OpenSpec.ofChange fnLinesLateSpec)) fnLinesLateCard

/-- THE TIED CARD OF 'laws.FnLinesNew'. -/
def fnLinesNewCard : Claim7 := { stood := { row := fnLinesNewRow, standIns := [], harness := (true, "ed1d61f8ca3847bf49e76f8ea8f077fe7174183f55b469b7258494ab812551f8"), looks := true }, kinds := [], alts := [], laidByText := true, laidKinds := [.data, .data, .data, .data, .sentinel, .sentinel, .sentinel, .pinned], laidTests := true, laidLooks := .later }
def FnLinesNewCardSaid : Prop := Claim7.holds Tryz.pinned (.plain (OpenSpec.ofChange fnLinesNewSpec)) fnLinesNewCard

/-- THE TIED CARD OF 'laws.FnLinesNone'. -/
def fnLinesNoneCard : Claim7 := { stood := { row := fnLinesNoneRow, standIns := [], harness := (true, "ed1d61f8ca3847bf49e76f8ea8f077fe7174183f55b469b7258494ab812551f8"), looks := true }, kinds := [], alts := [], laidByText := true, laidKinds := [.data, .data, .data, .data, .sentinel, .sentinel, .sentinel, .pinned], laidTests := true, laidLooks := .later }
def FnLinesNoneCardSaid : Prop := Claim7.holds Tryz.pinned (.plain (OpenSpec.ofChange fnLinesNoneSpec)) fnLinesNoneCard

/-- THE TIED CARD OF 'laws.FnLinesOpen'. -/
def fnLinesOpenCard : Claim7 := { stood := { row := fnLinesOpenRow, standIns := [], harness := (true, "ed1d61f8ca3847bf49e76f8ea8f077fe7174183f55b469b7258494ab812551f8"), looks := true }, kinds := [], alts := [], laidByText := true, laidKinds := [.data, .data, .data, .data, .sentinel, .sentinel, .sentinel, .pinned], laidTests := true, laidLooks := .later }
def FnLinesOpenCardSaid : Prop := Claim7.holds Tryz.pinned (.plain (OpenSpec.ofChange fnLinesOpenSpec)) fnLinesOpenCard

/-- THE SECOND FORM's CARD OF 'laws.FnLinesQuiet'. -/
def fnLinesQuietUptoCard : Claim7 := { stood := { row := fnLinesQuietUptoRow, standIns := [], harness := (true, "ed1d61f8ca3847bf49e76f8ea8f077fe7174183f55b469b7258494ab812551f8"), looks := true }, kinds := [], alts := [], laidByText := true, laidKinds := [.data, .data, .data, .data, .sentinel, .sentinel, .sentinel, .pinned], laidTests := true, laidLooks := .later }
def FnLinesQuietUptoCardSaid : Prop := Claim7.holds Tryz.pinned (.plain (OpenSpec.upto fnLinesQuietSpec)) fnLinesQuietUptoCard

/-- THE SECOND FORM's CARD OF 'laws.FnLinesRun'. -/
def fnLinesRunUptoCard : Claim7 := { stood := { row := fnLinesRunUptoRow, standIns := [], harness := (true, "ed1d61f8ca3847bf49e76f8ea8f077fe7174183f55b469b7258494ab812551f8"), looks := true }, kinds := [], alts := [], laidByText := true, laidKinds := [.data, .data, .data, .data, .sentinel, .sentinel, .sentinel, .pinned], laidTests := true, laidLooks := .later }
def FnLinesRunUptoCardSaid : Prop := Claim7.holds Tryz.pinned (.plain (OpenSpec.upto fnLinesRunSpec)) fnLinesRunUptoCard

/-- THE SECOND FORM's CARD OF 'laws.FnLinesSend'. -/
def fnLinesSendUptoCard : Claim7 := { stood := { row := fnLinesSendUptoRow, standIns := [], harness := (true, "ed1d61f8ca3847bf49e76f8ea8f077fe7174183f55b469b7258494ab812551f8"), looks := true }, kinds := [], alts := [], laidByText := true, laidKinds := [.data, .data, .data, .data, .sentinel, .sentinel, .sentinel, .pinned], laidTests := true, laidLooks := .later }
def FnLinesSendUptoCardSaid : Prop := Claim7.holds Tryz.pinned (.plain (OpenSpec.upto fnLinesSendSpec)) fnLinesSendUptoCard

/-- THE SECOND FORM's CARD OF 'laws.FnExactLinesRun'. -/
def fnExactLinesRunUptoCard : Claim7 := { stood := { row := fnExactLinesRunUptoRow, standIns := [], harness := (true, "ed1d61f8ca3847bf49e76f8ea8f077fe7174183f55b469b7258494ab812551f8"), looks := true }, kinds := [], alts := [], laidByText := true, laidKinds := [.data, .data, .data, .data, .sentinel, .sentinel, .sentinel, .pinned], laidTests := true, laidLooks := .later }
def FnExactLinesRunUptoCardSaid : Prop := Claim7.holds Tryz.pinned (.plain (OpenSpec.upto fnExactLinesRunSpec)) fnExactLinesRunUptoCard

/-- THE SECOND FORM's CARD OF 'laws.FnLinesBack'. -/
def fnLinesBackUptoCard : Claim7 := { stood := { row := fnLinesBackUptoRow, standIns := [], harness := (true, "ed1d61f8ca3847bf49e76f8ea8f077fe7174183f55b469b7258494ab812551f8"), looks := true }, kinds := [], alts := [], laidByText := true, laidKinds := [.data, .data, .data, .data, .sentinel, .sentinel, .sentinel, .pinned], laidTests := true, laidLooks := .later }
def FnLinesBackUptoCardSaid : Prop := Claim7.holds Tryz.pinned (.plain (OpenSpec.upto fnLinesBackSpec)) fnLinesBackUptoCard

/-- THE SECOND FORM's CARD OF 'laws.FnLinesCarry'. -/
def fnLinesCarryUptoCard : Claim7 := { stood := { row := fnLinesCarryUptoRow, standIns := [], harness := (true, "ed1d61f8ca3847bf49e76f8ea8f077fe7174183f55b469b7258494ab812551f8"), looks := true }, kinds := [], alts := [], laidByText := true, laidKinds := [.data, .data, .data, .data, .sentinel, .sentinel, .sentinel, .pinned], laidTests := true, laidLooks := .later }
def FnLinesCarryUptoCardSaid : Prop := Claim7.holds Tryz.pinned (.plain (OpenSpec.upto fnLinesCarrySpec)) fnLinesCarryUptoCard

/-- THE SECOND FORM's CARD OF 'laws.FnLinesLate'. -/
def fnLinesLateUptoCard : Claim7 := { stood := { row := fnLinesLateUptoRow, standIns := [], harness := (true, "ed1d61f8ca3847bf49e76f8ea8f077fe7174183f55b469b7258494ab812551f8"), looks := true }, kinds := [], alts := [], laidByText := true, laidKinds := [.data, .data, .data, .data, .sentinel, .sentinel, .sentinel, .pinned], laidTests := true, laidLooks := .later }
def FnLinesLateUptoCardSaid : Prop := Claim7.holds Tryz.pinned (.plain (OpenSpec.upto fnLinesLateSpec)) fnLinesLateUptoCard

/-- THE SECOND FORM's CARD OF 'laws.FnLinesNew'. -/
def fnLinesNewUptoCard : Claim7 := { stood := { row := fnLinesNewUptoRow, standIns := [], harness := (true, "ed1d61f8ca3847bf49e76f8ea8f077fe7174183f55b469b7258494ab812551f8"), looks := true }, kinds := [], alts := [], laidByText := true, laidKinds := [.data, .data, .data, .data, .sentinel, .sentinel, .sentinel, .pinned], laidTests := true, laidLooks := .later }
def FnLinesNewUptoCardSaid : Prop := Claim7.holds Tryz.pinned (.plain (OpenSpec.upto fnLinesNewSpec)) fnLinesNewUptoCard

/-- THE SECOND FORM's CARD OF 'laws.FnLinesNone'. -/
def fnLinesNoneUptoCard : Claim7 := { stood := { row := fnLinesNoneUptoRow, standIns := [], harness := (true, "ed1d61f8ca3847bf49e76f8ea8f077fe7174183f55b469b7258494ab812551f8"), looks := true }, kinds := [], alts := [], laidByText := true, laidKinds := [.data, .data, .data, .data, .sentinel, .sentinel, .sentinel, .pinned], laidTests := true, laidLooks := .later }
def FnLinesNoneUptoCardSaid : Prop := Claim7.holds Tryz.pinned (.plain (OpenSpec.upto fnLinesNoneSpec)) fnLinesNoneUptoCard

/-- THE SECOND FORM's CARD OF 'laws.FnLinesOpen'. -/
def fnLinesOpenUptoCard : Claim7 := { stood := { row := fnLinesOpenUptoRow, standIns := [], harness := (true, "ed1d61f8ca3847bf49e76f8ea8f077fe7174183f55b469b7258494ab812551f8"), looks := true }, kinds := [], alts := [], laidByText := true, laidKinds := [.data, .data, .data, .data, .sentinel, .sentinel, .sentinel, .pinned], laidTests := true, laidLooks := .later }
def FnLinesOpenUptoCardSaid : Prop := Claim7.holds Tryz.pinned (.plain (OpenSpec.upto fnLinesOpenSpec)) fnLinesOpenUptoCard
end Rows
end Go.Proofs.YtbdfdbkbmegcgaaGreatDoor
