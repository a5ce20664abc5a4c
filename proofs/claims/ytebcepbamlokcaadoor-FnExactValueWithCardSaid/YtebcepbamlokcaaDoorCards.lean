/-
  DERIVED. GIVEN WITH THE SEED: THE CARDS: each row of YtebcepbamlokcaaDoorRows.lean that lists a variable, with what it lists TIED to the program's text (the seventh form; the later family's looks); each row that meets fmt, with fmt's text TOLD by the authors' own Lean function (tested against real Go, not proved from fmt's source: count such statements apart). THE CARD IS WHAT COUNTS. Prove the row's statement (the work); the ties are given (YtebcepbamlokcaaDoorTie.lean); close each card by the builder's one call (the guide's Derived/Test/ToyasCard.lean, 'card_holds'). Laid BY PROGRAM, IN A SANDBOX (cutbox-door.mjs). By AI agents, Wed Nov 11 2026. No macro, syntax, notation, axiom, sorry.
-/
import Derived.Test.YtebcepbamlokcaaDoorRows
import GoSem.ClaimSeven
namespace Go.Proofs.YtebcepbamlokcaaDoor
namespace Rows

/-- THE TIED CARD OF 'laws.FnValueAt'. -/
def fnValueAtCard : Claim7 := { stood := { row := fnValueAtRow, standIns := [], harness := (true, "1b2b4045795762e985d7d8a51db1fb612c09d5dfa31ae5826b5353984c876f09"), looks := true }, kinds := [], alts := [], laidByText := true, laidKinds := [.data, .data, .data, .sentinel, .sentinel, .widerDeep], laidTests := true, laidLooks := .later }
def FnValueAtCardSaid : Prop := Claim7.holds Tryd.pinned (.plain (OpenSpec.ofChange fnValueAtSpec)) fnValueAtCard

/-- THE TIED CARD OF 'laws.FnTomlNot'. -/
def fnTomlNotCard : Claim7 := { stood := { row := fnTomlNotRow, standIns := [], harness := (true, "1b2b4045795762e985d7d8a51db1fb612c09d5dfa31ae5826b5353984c876f09"), looks := true }, kinds := [], alts := [], laidByText := true, laidKinds := [.data, .data, .data, .widerDeep], laidTests := true, laidLooks := .later }
def FnTomlNotCardSaid : Prop := Claim7.holds Tryd.pinned (.plain (OpenSpec.ofChange fnTomlNotSpec)) fnTomlNotCard

/-- THE TIED CARD OF 'laws.FnValueWith'. -/
def fnValueWithCard : Claim7 := { stood := { row := fnValueWithRow, standIns := [], harness := (true, "1b2b4045795762e985d7d8a51db1fb612c09d5dfa31ae5826b5353984c876f09"), looks := true }, kinds := [], alts := [], laidByText := true, laidKinds := [.data, .data, .data, .sentinel, .sentinel, .widerDeep], laidTests := true, laidLooks := .later }
def FnValueWithCardSaid : Prop := Claim7.holds Tryd.pinned (.plain (OpenSpec.ofChange fnValueWithSpec)) fnValueWithCard

/-- THE TIED CARD OF 'laws.FnExactDiff'. -/
def fnExactDiffCard : Claim7 := { stood := { row := fnExactDiffRow, standIns := [], harness := (true, "1b2b4045795762e985d7d8a51db1fb612c09d5dfa31ae5826b5353984c876f09"), looks := true }, kinds := [], alts := [], laidByText := true, laidKinds := [.widerDeep], laidTests := true, laidLooks := .later }
def FnExactDiffCardSaid : Prop := Claim7.holds Tryd.pinned (.plain (OpenSpec.ofChange fnExactDiffSpec)) fnExactDiffCard

/-- THE TIED CARD OF 'laws.FnExactValueAt'. -/
def fnExactValueAtCard : Claim7 := { stood := { row := fnExactValueAtRow, standIns := [], harness := (true, "1b2b4045795762e985d7d8a51db1fb612c09d5dfa31ae5826b5353984c876f09"), looks := true }, kinds := [], alts := [], laidByText := true, laidKinds := [.data, .data, .data, .sentinel, .sentinel, .widerDeep], laidTests := true, laidLooks := .later }
def FnExactValueAtCardSaid : Prop := Claim7.holds Tryd.pinned (.plain (OpenSpec.ofChange fnExactValueAtSpec)) fnExactValueAtCard

/-- THE TIED CARD OF 'laws.FnDecText'. -/
def fnDecTextCard : Claim7 := { stood := { row := fnDecTextRow, standIns := [], harness := (true, "1b2b4045795762e985d7d8a51db1fb612c09d5dfa31ae5826b5353984c876f09"), looks := true }, kinds := [], alts := [], laidByText := true, laidKinds := [.data, .data, .data, .sentinel, .sentinel], laidTests := true, laidLooks := .later }
def FnDecTextCardSaid : Prop := Claim7.holds Tryd.pinned (.plain (OpenSpec.ofChange fnDecTextSpec)) fnDecTextCard

/-- THE TIED CARD OF 'laws.FnExactValueWith'. -/
def fnExactValueWithCard : Claim7 := { stood := { row := fnExactValueWithRow, standIns := [], harness := (true, "1b2b4045795762e985d7d8a51db1fb612c09d5dfa31ae5826b5353984c876f09"), looks := true }, kinds := [], alts := [], laidByText := true, laidKinds := [.data, .data, .data, .sentinel, .sentinel, .widerDeep], laidTests := true, laidLooks := .later }
def FnExactValueWithCardSaid : Prop := Claim7.holds Tryd.pinned (.plain (OpenSpec.ofChange fnExactValueWithSpec)) fnExactValueWithCard

/-- THE SECOND FORM's CARD OF 'laws.FnValueAt'. -/
def fnValueAtUptoCard : Claim7 := { stood := { row := fnValueAtUptoRow, standIns := [], harness := (true, "1b2b4045795762e985d7d8a51db1fb612c09d5dfa31ae5826b5353984c876f09"), looks := true }, kinds := [], alts := [], laidByText := true, laidKinds := [.data, .data, .data, .sentinel, .sentinel, .widerDeep], laidTests := true, laidLooks := .later }
def FnValueAtUptoCardSaid : Prop := Claim7.holds Tryd.pinned (.plain (OpenSpec.upto fnValueAtSpec)) fnValueAtUptoCard

/-- THE SECOND FORM's CARD OF 'laws.FnTomlNot'. -/
def fnTomlNotUptoCard : Claim7 := { stood := { row := fnTomlNotUptoRow, standIns := [], harness := (true, "1b2b4045795762e985d7d8a51db1fb612c09d5dfa31ae5826b5353984c876f09"), looks := true }, kinds := [], alts := [], laidByText := true, laidKinds := [.data, .data, .data, .widerDeep], laidTests := true, laidLooks := .later }
def FnTomlNotUptoCardSaid : Prop := Claim7.holds Tryd.pinned (.plain (OpenSpec.upto fnTomlNotSpec)) fnTomlNotUptoCard

/-- THE SECOND FORM's CARD OF 'laws.FnValueWith'. -/
def fnValueWithUptoCard : Claim7 := { stood := { row := fnValueWithUptoRow, standIns := [], harness := (true, "1b2b4045795762e985d7d8a51db1fb612c09d5dfa31ae5826b5353984c876f09"), looks := true }, kinds := [], alts := [], laidByText := true, laidKinds := [.data, .data, .data, .sentinel, .sentinel, .widerDeep], laidTests := true, laidLooks := .later }
def FnValueWithUptoCardSaid : Prop := Claim7.holds Tryd.pinned (.plain (OpenSpec.upto fnValueWithSpec)) fnValueWithUptoCard

/-- THE SECOND FORM's CARD OF 'laws.FnExactDiff'. -/
def fnExactDiffUptoCard : Claim7 := { stood := { row := fnExactDiffUptoRow, standIns := [], harness := (true, "1b2b4045795762e985d7d8a51db1fb612c09d5dfa31ae5826b5353984c876f09"), looks := true }, kinds := [], alts := [], laidByText := true, laidKinds := [.widerDeep], laidTests := true, laidLooks := .later }
def FnExactDiffUptoCardSaid : Prop := Claim7.holds Tryd.pinned (.plain (OpenSpec.upto fnExactDiffSpec)) fnExactDiffUptoCard

/-- THE SECOND FORM's CARD OF 'laws.FnExactValueAt'. -/
def fnExactValueAtUptoCard : Claim7 := { stood := { row := fnExactValueAtUptoRow, standIns := [], harness := (true, "1b2b4045795762e985d7d8a51db1fb612c09d5dfa31ae5826b5353984c876f09"), looks := true }, kinds := [], alts := [], laidByText := true, laidKinds := [.data, .data, .data, .sentinel, .sentinel, .widerDeep], laidTests := true, laidLooks := .later }
def FnExactValueAtUptoCardSaid : Prop := Claim7.holds Tryd.pinned (.plain (OpenSpec.upto fnExactValueAtSpec)) fnExactValueAtUptoCard

/-- THE SECOND FORM's CARD OF 'laws.FnDecText'. -/
def fnDecTextUptoCard : Claim7 := { stood := { row := fnDecTextUptoRow, standIns := [], harness := (true, "1b2b4045795762e985d7d8a51db1fb612c09d5dfa31ae5826b5353984c876f09"), looks := true }, kinds := [], alts := [], laidByText := true, laidKinds := [.data, .data, .data, .sentinel, .sentinel], laidTests := true, laidLooks := .later }
def FnDecTextUptoCardSaid : Prop := Claim7.holds Tryd.pinned (.plain (OpenSpec.upto fnDecTextSpec)) fnDecTextUptoCard

/-- THE SECOND FORM's CARD OF 'laws.FnExactValueWith'. -/
def fnExactValueWithUptoCard : Claim7 := { stood := { row := fnExactValueWithUptoRow, standIns := [], harness := (true, "1b2b4045795762e985d7d8a51db1fb612c09d5dfa31ae5826b5353984c876f09"), looks := true }, kinds := [], alts := [], laidByText := true, laidKinds := [.data, .data, .data, .sentinel, .sentinel, .widerDeep], laidTests := true, laidLooks := .later }
def FnExactValueWithUptoCardSaid : Prop := Claim7.holds Tryd.pinned (.plain (OpenSpec.upto fnExactValueWithSpec)) fnExactValueWithUptoCard
end Rows
end Go.Proofs.YtebcepbamlokcaaDoor
