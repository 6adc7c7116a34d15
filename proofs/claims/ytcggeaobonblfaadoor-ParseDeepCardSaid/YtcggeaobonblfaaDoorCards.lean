/-
  DERIVED. GIVEN WITH THE SEED: THE CARDS: each row of YtcggeaobonblfaaDoorRows.lean that lists a variable, with what it lists TIED to the program's text (the seventh form; the later family's looks); each row that meets fmt, with fmt's text TOLD by the authors' own Lean function (tested against real Go, not proved from fmt's source: count such statements apart). THE CARD IS WHAT COUNTS. Prove the row's statement (the work); the ties are given (YtcggeaobonblfaaDoorTie.lean); close each card by the builder's one call (the guide's Derived/Test/ToyasCard.lean, 'card_holds'). Laid BY PROGRAM, IN A SANDBOX (cutbox-door.mjs). By AI agents, Wed Nov 11 2026. No macro, syntax, notation, axiom, sorry.
-/
import Derived.Test.YtcggeaobonblfaaDoorRows
import GoSem.ClaimSeven
namespace Go.Proofs.YtcggeaobonblfaaDoor
namespace Rows

/-- THE TIED CARD OF 'bobbinlaw14.ParseTrees'. -/
def parseTreesCard : Claim7 := { stood := { row := parseTreesRow, standIns := [], harness := (true, "3cf8cbfbd5a61b575856a60c615051a5c56612ab92191de19f80ad0d832eb94e"), looks := false }, kinds := [], alts := [], laidByText := true, laidKinds := [.data, .pinned], laidTests := true, laidLooks := .later }
def ParseTreesCardSaid : Prop := Claim7.holds Tryd.pinned (.plain (OpenSpec.ofChange parseTreesSpec)) parseTreesCard

/-- THE TIED CARD OF 'bobbinlaw14.ParseDeep'. -/
def parseDeepCard : Claim7 := { stood := { row := parseDeepRow, standIns := [], harness := (true, "3cf8cbfbd5a61b575856a60c615051a5c56612ab92191de19f80ad0d832eb94e"), looks := false }, kinds := [], alts := [], laidByText := true, laidKinds := [.data, .pinned], laidTests := true, laidLooks := .later }
def ParseDeepCardSaid : Prop := Claim7.holds Tryd.pinned (.plain (OpenSpec.ofChange parseDeepSpec)) parseDeepCard

/-- THE TIED CARD OF 'bobbinlaw11.TokenAlls'. -/
def tokenAllsCard : Claim7 := { stood := { row := tokenAllsRow, standIns := [], harness := (true, "3cf8cbfbd5a61b575856a60c615051a5c56612ab92191de19f80ad0d832eb94e"), looks := false }, kinds := [], alts := [], laidByText := true, laidKinds := [.data], laidTests := true, laidLooks := .later }
def TokenAllsCardSaid : Prop := Claim7.holds Tryd.pinned (.plain (OpenSpec.ofChange tokenAllsSpec)) tokenAllsCard

/-- THE TIED CARD OF 'bobbinlaw11.TokenEach'. -/
def tokenEachCard : Claim7 := { stood := { row := tokenEachRow, standIns := [], harness := (true, "3cf8cbfbd5a61b575856a60c615051a5c56612ab92191de19f80ad0d832eb94e"), looks := false }, kinds := [], alts := [], laidByText := true, laidKinds := [.data], laidTests := true, laidLooks := .later }
def TokenEachCardSaid : Prop := Claim7.holds Tryd.pinned (.plain (OpenSpec.ofChange tokenEachSpec)) tokenEachCard

/-- THE TIED CARD OF 'bobbinlaw14.ParseOdd'. -/
def parseOddCard : Claim7 := { stood := { row := parseOddRow, standIns := [], harness := (true, "3cf8cbfbd5a61b575856a60c615051a5c56612ab92191de19f80ad0d832eb94e"), looks := false }, kinds := [], alts := [], laidByText := true, laidKinds := [.data, .pinned], laidTests := true, laidLooks := .later }
def ParseOddCardSaid : Prop := Claim7.holds Tryd.pinned (.plain (OpenSpec.ofChange parseOddSpec)) parseOddCard

/-- THE SECOND FORM's CARD OF 'bobbinlaw14.ParseTrees'. -/
def parseTreesUptoCard : Claim7 := { stood := { row := parseTreesUptoRow, standIns := [], harness := (true, "3cf8cbfbd5a61b575856a60c615051a5c56612ab92191de19f80ad0d832eb94e"), looks := false }, kinds := [], alts := [], laidByText := true, laidKinds := [.data, .pinned], laidTests := true, laidLooks := .later }
def ParseTreesUptoCardSaid : Prop := Claim7.holds Tryd.pinned (.plain (OpenSpec.upto parseTreesSpec)) parseTreesUptoCard

/-- THE SECOND FORM's CARD OF 'bobbinlaw14.ParseDeep'. -/
def parseDeepUptoCard : Claim7 := { stood := { row := parseDeepUptoRow, standIns := [], harness := (true, "3cf8cbfbd5a61b575856a60c615051a5c56612ab92191de19f80ad0d832eb94e"), looks := false }, kinds := [], alts := [], laidByText := true, laidKinds := [.data, .pinned], laidTests := true, laidLooks := .later }
def ParseDeepUptoCardSaid : Prop := Claim7.holds Tryd.pinned (.plain (OpenSpec.upto parseDeepSpec)) parseDeepUptoCard

/-- THE SECOND FORM's CARD OF 'bobbinlaw11.TokenAlls'. -/
def tokenAllsUptoCard : Claim7 := { stood := { row := tokenAllsUptoRow, standIns := [], harness := (true, "3cf8cbfbd5a61b575856a60c615051a5c56612ab92191de19f80ad0d832eb94e"), looks := false }, kinds := [], alts := [], laidByText := true, laidKinds := [.data], laidTests := true, laidLooks := .later }
def TokenAllsUptoCardSaid : Prop := Claim7.holds Tryd.pinned (.plain (OpenSpec.upto tokenAllsSpec)) tokenAllsUptoCard

/-- THE SECOND FORM's CARD OF 'bobbinlaw11.TokenEach'. -/
def tokenEachUptoCard : Claim7 := { stood := { row := tokenEachUptoRow, standIns := [], harness := (true, "3cf8cbfbd5a61b575856a60c615051a5c56612ab92191de19f80ad0d832eb94e"), looks := false }, kinds := [], alts := [], laidByText := true, laidKinds := [.data], laidTests := true, laidLooks := .later }
def TokenEachUptoCardSaid : Prop := Claim7.holds Tryd.pinned (.plain (OpenSpec.upto tokenEachSpec)) tokenEachUptoCard

/-- THE SECOND FORM's CARD OF 'bobbinlaw14.ParseOdd'. -/
def parseOddUptoCard : Claim7 := { stood := { row := parseOddUptoRow, standIns := [], harness := (true, "3cf8cbfbd5a61b575856a60c615051a5c56612ab92191de19f80ad0d832eb94e"), looks := false }, kinds := [], alts := [], laidByText := true, laidKinds := [.data, .pinned], laidTests := true, laidLooks := .later }
def ParseOddUptoCardSaid : Prop := Claim7.holds Tryd.pinned (.plain (OpenSpec.upto parseOddSpec)) parseOddUptoCard
end Rows
end Go.Proofs.YtcggeaobonblfaaDoor
