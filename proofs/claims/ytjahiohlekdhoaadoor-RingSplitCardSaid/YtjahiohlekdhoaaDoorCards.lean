/-
  DERIVED. GIVEN WITH THE SEED: THE CARDS: each row of YtjahiohlekdhoaaDoorRows.lean that lists a variable, with what it lists TIED to the program's text (the seventh form; the later family's looks); each row that meets fmt, with fmt's text TOLD by the authors' own Lean function (tested against real Go, not proved from fmt's source: count such statements apart). THE CARD IS WHAT COUNTS. Prove the row's statement (the work); the ties are given (YtjahiohlekdhoaaDoorTie.lean); close each card by the builder's one call (the guide's Derived/Test/ToyasCard.lean, 'card_holds'). Laid BY PROGRAM, IN A SANDBOX (cutbox-door.mjs). By AI agents, Wed Nov 11 2026. No macro, syntax, notation, axiom, sorry.
-/
import Derived.Test.YtjahiohlekdhoaaDoorRows
import GoSem.ClaimSeven
namespace Go.Proofs.YtjahiohlekdhoaaDoor
namespace Rows

/-- THE TIED CARD OF 'suturelaw09.AnchorBack'. -/
def anchorBackCard : Claim7 := { stood := { row := anchorBackRow, standIns := [], harness := (true, "52c3d42226c58e97fae2e87f78d54c2963b64057ce8f2deaee91bdeb051f58e3"), looks := false }, kinds := [], alts := [], laidByText := true, laidKinds := [.data], laidTests := true, laidLooks := .later }
def AnchorBackCardSaid : Prop := Claim7.holds Tryd.pinned (.plain (OpenSpec.ofChange anchorBackSpec)) anchorBackCard

/-- THE TIED CARD OF 'suturelaw09.AnchorJust'. -/
def anchorJustCard : Claim7 := { stood := { row := anchorJustRow, standIns := [], harness := (true, "52c3d42226c58e97fae2e87f78d54c2963b64057ce8f2deaee91bdeb051f58e3"), looks := false }, kinds := [], alts := [], laidByText := true, laidKinds := [.data], laidTests := true, laidLooks := .later }
def AnchorJustCardSaid : Prop := Claim7.holds Tryd.pinned (.plain (OpenSpec.ofChange anchorJustSpec)) anchorJustCard

/-- THE TIED CARD OF 'suturelaw09.AnchorNewest'. -/
def anchorNewestCard : Claim7 := { stood := { row := anchorNewestRow, standIns := [], harness := (true, "52c3d42226c58e97fae2e87f78d54c2963b64057ce8f2deaee91bdeb051f58e3"), looks := false }, kinds := [], alts := [], laidByText := true, laidKinds := [.data], laidTests := true, laidLooks := .later }
def AnchorNewestCardSaid : Prop := Claim7.holds Tryd.pinned (.plain (OpenSpec.ofChange anchorNewestSpec)) anchorNewestCard

/-- THE TIED CARD OF 'suturelaw09.AnchorTells'. -/
def anchorTellsCard : Claim7 := { stood := { row := anchorTellsRow, standIns := [], harness := (true, "52c3d42226c58e97fae2e87f78d54c2963b64057ce8f2deaee91bdeb051f58e3"), looks := false }, kinds := [], alts := [], laidByText := true, laidKinds := [.data], laidTests := true, laidLooks := .later }
def AnchorTellsCardSaid : Prop := Claim7.holds Tryd.pinned (.plain (OpenSpec.ofChange anchorTellsSpec)) anchorTellsCard

/-- THE TIED CARD OF 'suturelaw09.AnchorMarks'. -/
def anchorMarksCard : Claim7 := { stood := { row := anchorMarksRow, standIns := [], harness := (true, "52c3d42226c58e97fae2e87f78d54c2963b64057ce8f2deaee91bdeb051f58e3"), looks := false }, kinds := [], alts := [], laidByText := true, laidKinds := [.data], laidTests := true, laidLooks := .later }
def AnchorMarksCardSaid : Prop := Claim7.holds Tryd.pinned (.plain (OpenSpec.ofChange anchorMarksSpec)) anchorMarksCard

/-- THE TIED CARD OF 'suturelaw12.RingSplit'. -/
def ringSplitCard : Claim7 := { stood := { row := ringSplitRow, standIns := [], harness := (true, "52c3d42226c58e97fae2e87f78d54c2963b64057ce8f2deaee91bdeb051f58e3"), looks := false }, kinds := [], alts := [], laidByText := true, laidKinds := [.data], laidTests := true, laidLooks := .later }
def RingSplitCardSaid : Prop := Claim7.holds Tryd.pinned (.plain (OpenSpec.ofChange ringSplitSpec)) ringSplitCard

/-- THE TIED CARD OF 'suturelaw12.RingSlots'. -/
def ringSlotsCard : Claim7 := { stood := { row := ringSlotsRow, standIns := [], harness := (true, "52c3d42226c58e97fae2e87f78d54c2963b64057ce8f2deaee91bdeb051f58e3"), looks := false }, kinds := [], alts := [], laidByText := true, laidKinds := [.data], laidTests := true, laidLooks := .later }
def RingSlotsCardSaid : Prop := Claim7.holds Tryd.pinned (.plain (OpenSpec.ofChange ringSlotsSpec)) ringSlotsCard

/-- THE TIED CARD OF 'suturelaw12.RingDoubt'. -/
def ringDoubtCard : Claim7 := { stood := { row := ringDoubtRow, standIns := [], harness := (true, "52c3d42226c58e97fae2e87f78d54c2963b64057ce8f2deaee91bdeb051f58e3"), looks := false }, kinds := [], alts := [], laidByText := true, laidKinds := [.data], laidTests := true, laidLooks := .later }
def RingDoubtCardSaid : Prop := Claim7.holds Tryd.pinned (.plain (OpenSpec.ofChange ringDoubtSpec)) ringDoubtCard

/-- THE TIED CARD OF 'suturelaw12.RingHeals'. -/
def ringHealsCard : Claim7 := { stood := { row := ringHealsRow, standIns := [], harness := (true, "52c3d42226c58e97fae2e87f78d54c2963b64057ce8f2deaee91bdeb051f58e3"), looks := false }, kinds := [], alts := [], laidByText := true, laidKinds := [.data], laidTests := true, laidLooks := .later }
def RingHealsCardSaid : Prop := Claim7.holds Tryd.pinned (.plain (OpenSpec.ofChange ringHealsSpec)) ringHealsCard

/-- THE SECOND FORM's CARD OF 'suturelaw09.AnchorBack'. -/
def anchorBackUptoCard : Claim7 := { stood := { row := anchorBackUptoRow, standIns := [], harness := (true, "52c3d42226c58e97fae2e87f78d54c2963b64057ce8f2deaee91bdeb051f58e3"), looks := false }, kinds := [], alts := [], laidByText := true, laidKinds := [.data], laidTests := true, laidLooks := .later }
def AnchorBackUptoCardSaid : Prop := Claim7.holds Tryd.pinned (.plain (OpenSpec.upto anchorBackSpec)) anchorBackUptoCard

/-- THE SECOND FORM's CARD OF 'suturelaw09.AnchorJust'. -/
def anchorJustUptoCard : Claim7 := { stood := { row := anchorJustUptoRow, standIns := [], harness := (true, "52c3d42226c58e97fae2e87f78d54c2963b64057ce8f2deaee91bdeb051f58e3"), looks := false }, kinds := [], alts := [], laidByText := true, laidKinds := [.data], laidTests := true, laidLooks := .later }
def AnchorJustUptoCardSaid : Prop := Claim7.holds Tryd.pinned (.plain (OpenSpec.upto anchorJustSpec)) anchorJustUptoCard

/-- THE SECOND FORM's CARD OF 'suturelaw09.AnchorNewest'. -/
def anchorNewestUptoCard : Claim7 := { stood := { row := anchorNewestUptoRow, standIns := [], harness := (true, "52c3d42226c58e97fae2e87f78d54c2963b64057ce8f2deaee91bdeb051f58e3"), looks := false }, kinds := [], alts := [], laidByText := true, laidKinds := [.data], laidTests := true, laidLooks := .later }
def AnchorNewestUptoCardSaid : Prop := Claim7.holds Tryd.pinned (.plain (OpenSpec.upto anchorNewestSpec)) anchorNewestUptoCard

/-- THE SECOND FORM's CARD OF 'suturelaw09.AnchorTells'. -/
def anchorTellsUptoCard : Claim7 := { stood := { row := anchorTellsUptoRow, standIns := [], harness := (true, "52c3d42226c58e97fae2e87f78d54c2963b64057ce8f2deaee91bdeb051f58e3"), looks := false }, kinds := [], alts := [], laidByText := true, laidKinds := [.data], laidTests := true, laidLooks := .later }
def AnchorTellsUptoCardSaid : Prop := Claim7.holds Tryd.pinned (.plain (OpenSpec.upto anchorTellsSpec)) anchorTellsUptoCard

/-- THE SECOND FORM's CARD OF 'suturelaw09.AnchorMarks'. -/
def anchorMarksUptoCard : Claim7 := { stood := { row := anchorMarksUptoRow, standIns := [], harness := (true, "52c3d42226c58e97fae2e87f78d54c2963b64057ce8f2deaee91bdeb051f58e3"), looks := false }, kinds := [], alts := [], laidByText := true, laidKinds := [.data], laidTests := true, laidLooks := .later }
def AnchorMarksUptoCardSaid : Prop := Claim7.holds Tryd.pinned (.plain (OpenSpec.upto anchorMarksSpec)) anchorMarksUptoCard

/-- THE SECOND FORM's CARD OF 'suturelaw12.RingSplit'. -/
def ringSplitUptoCard : Claim7 := { stood := { row := ringSplitUptoRow, standIns := [], harness := (true, "52c3d42226c58e97fae2e87f78d54c2963b64057ce8f2deaee91bdeb051f58e3"), looks := false }, kinds := [], alts := [], laidByText := true, laidKinds := [.data], laidTests := true, laidLooks := .later }
def RingSplitUptoCardSaid : Prop := Claim7.holds Tryd.pinned (.plain (OpenSpec.upto ringSplitSpec)) ringSplitUptoCard

/-- THE SECOND FORM's CARD OF 'suturelaw12.RingSlots'. -/
def ringSlotsUptoCard : Claim7 := { stood := { row := ringSlotsUptoRow, standIns := [], harness := (true, "52c3d42226c58e97fae2e87f78d54c2963b64057ce8f2deaee91bdeb051f58e3"), looks := false }, kinds := [], alts := [], laidByText := true, laidKinds := [.data], laidTests := true, laidLooks := .later }
def RingSlotsUptoCardSaid : Prop := Claim7.holds Tryd.pinned (.plain (OpenSpec.upto ringSlotsSpec)) ringSlotsUptoCard

/-- THE SECOND FORM's CARD OF 'suturelaw12.RingDoubt'. -/
def ringDoubtUptoCard : Claim7 := { stood := { row := ringDoubtUptoRow, standIns := [], harness := (true, "52c3d42226c58e97fae2e87f78d54c2963b64057ce8f2deaee91bdeb051f58e3"), looks := false }, kinds := [], alts := [], laidByText := true, laidKinds := [.data], laidTests := true, laidLooks := .later }
def RingDoubtUptoCardSaid : Prop := Claim7.holds Tryd.pinned (.plain (OpenSpec.upto ringDoubtSpec)) ringDoubtUptoCard

/-- THE SECOND FORM's CARD OF 'suturelaw12.RingHeals'. -/
def ringHealsUptoCard : Claim7 := { stood := { row := ringHealsUptoRow, standIns := [], harness := (true, "52c3d42226c58e97fae2e87f78d54c2963b64057ce8f2deaee91bdeb051f58e3"), looks := false }, kinds := [], alts := [], laidByText := true, laidKinds := [.data], laidTests := true, laidLooks := .later }
def RingHealsUptoCardSaid : Prop := Claim7.holds Tryd.pinned (.plain (OpenSpec.upto ringHealsSpec)) ringHealsUptoCard
end Rows
end Go.Proofs.YtjahiohlekdhoaaDoor
