/-
  NARROWER THAN 'FOR EVERY INPUT', by the rows' own cells (each row's printed sentence says how): AnchorBack: laid · AnchorJust: laid · AnchorNewest: laid · AnchorTells: laid · AnchorMarks: laid · RingSplit: laid · RingSlots: laid · RingDoubt: laid · RingHeals: laid.
  DERIVED. THE GIVEN ROWS OF THIS SEAT. 9 by the template 'for every input the law returns true; each argument reads behind the call as it read before'; 0 by the template 'total and deterministic' (their statements: YtjahiohlekdhoaaDoorTotals.lean).
  GIVEN WITH THE SEED: the statements are not yours to turn. If you find one false, say at which input.
  Laid BY PROGRAM, IN A SANDBOX (cutbox-rows.mjs): the forced cells as the released guide's own fill.sh prints them over the translation 130d1d4b53abfae1… (all of the seat's roots in one cut). By AI agents, Wed Nov 11 2026. No macro, syntax, notation, axiom, sorry.
-/
import Derived.Test.YtjahiohlekdhoaaDoorChecked
import GoSem.Claim
import GoSem.ClaimJoined
import GoSem.ClaimMapViews
import Derived.JoinedTies
import Derived.KernelRfl
namespace Go.Proofs.YtjahiohlekdhoaaDoor
/- THE CELL 'sum', in the pinned program and in every row, IS THE sha256 OF THE DUMP (.gsa) THAT YtjahiohlekdhoaaDoorProg.lean LOADS. Nothing in Lean hashes anything: it is a label: what it is worth is what the hold of that sum in a sandbox is worth. -/
noncomputable def Tryd.pinned : Pinned := { name := "ytjahiohlekdhoaadoor", sum := "130d1d4b53abfae1070d229e4a458e78721c587b1173beeabf3912bb22e86130", checked := Tryd.checked }
namespace Rows
def none {H : Type} : Left H := { results := [], args := [] }

/- WHAT THE LISTED PACKAGE-LEVEL VARIABLES READ AS WHEN THE CALL BEGINS. Each datum BY PROGRAM (the guide's laid-datum.mjs) off the statement by which the dump's own 'gosem.cut.vars' lays the variable. In a bare row this is a premise. The card (YtjahiohlekdhoaaDoorCards.lean) ties it to the program's text. -/
def laid_suture_ptr_widths {H : Type} : DataW H := .agg [.lit (.int .i64 1), .lit (.int .i64 2), .lit (.int .i64 2), .lit (.int .i64 4), .lit (.int .i64 8)]

/-- 'suturelaw09.AnchorBack': WHATEVER THE INPUT: true; the input reads as it did. -/
def anchorBackSpec : ChangeSpec := { name := "anchorBack", fn := fun _ => fun
  | [d1, d2, d3] => { results := [.lit (.bool true)], args := [d1, d2, d3] }
  | _ => none }
def anchorBackRow : OpenClaim := { program := "ytjahiohlekdhoaadoor", sum := "130d1d4b53abfae1070d229e4a458e78721c587b1173beeabf3912bb22e86130", func := "suture/suturelaw09.AnchorBack", spec := "anchorBack", unfollowed := true, recurses := true, named := ["suture/ptr.widths"], apart := false, laid := [("suture/ptr.widths", laid_suture_ptr_widths)] }
def AnchorBackSaid : Prop := anchorBackRow.holds Tryd.pinned (OpenSpec.ofChange anchorBackSpec)

/-- ITS FALSE NEIGHBOUR: 'it returns false'. Refute it at one input. -/
def anchorBackWrong : ChangeSpec := { name := "anchorBack", fn := fun _ => fun
  | [d1, d2, d3] => { results := [.lit (.bool false)], args := [d1, d2, d3] }
  | _ => none }
def AnchorBackWrongFalsely : Prop := anchorBackRow.holds Tryd.pinned (OpenSpec.ofChange anchorBackWrong)

/-- 'suturelaw09.AnchorJust': WHATEVER THE INPUT: true; the input reads as it did. -/
def anchorJustSpec : ChangeSpec := { name := "anchorJust", fn := fun _ => fun
  | [d] => { results := [.lit (.bool true)], args := [d] }
  | _ => none }
def anchorJustRow : OpenClaim := { program := "ytjahiohlekdhoaadoor", sum := "130d1d4b53abfae1070d229e4a458e78721c587b1173beeabf3912bb22e86130", func := "suture/suturelaw09.AnchorJust", spec := "anchorJust", unfollowed := true, recurses := true, named := ["suture/ptr.widths"], apart := false, laid := [("suture/ptr.widths", laid_suture_ptr_widths)] }
def AnchorJustSaid : Prop := anchorJustRow.holds Tryd.pinned (OpenSpec.ofChange anchorJustSpec)

/-- ITS FALSE NEIGHBOUR: 'it returns false'. Refute it at one input. -/
def anchorJustWrong : ChangeSpec := { name := "anchorJust", fn := fun _ => fun
  | [d] => { results := [.lit (.bool false)], args := [d] }
  | _ => none }
def AnchorJustWrongFalsely : Prop := anchorJustRow.holds Tryd.pinned (OpenSpec.ofChange anchorJustWrong)

/-- 'suturelaw09.AnchorNewest': WHATEVER THE INPUT: true; the input reads as it did. -/
def anchorNewestSpec : ChangeSpec := { name := "anchorNewest", fn := fun _ => fun
  | [d1, d2] => { results := [.lit (.bool true)], args := [d1, d2] }
  | _ => none }
def anchorNewestRow : OpenClaim := { program := "ytjahiohlekdhoaadoor", sum := "130d1d4b53abfae1070d229e4a458e78721c587b1173beeabf3912bb22e86130", func := "suture/suturelaw09.AnchorNewest", spec := "anchorNewest", unfollowed := true, recurses := true, named := ["suture/ptr.widths"], apart := false, laid := [("suture/ptr.widths", laid_suture_ptr_widths)] }
def AnchorNewestSaid : Prop := anchorNewestRow.holds Tryd.pinned (OpenSpec.ofChange anchorNewestSpec)

/-- ITS FALSE NEIGHBOUR: 'it returns false'. Refute it at one input. -/
def anchorNewestWrong : ChangeSpec := { name := "anchorNewest", fn := fun _ => fun
  | [d1, d2] => { results := [.lit (.bool false)], args := [d1, d2] }
  | _ => none }
def AnchorNewestWrongFalsely : Prop := anchorNewestRow.holds Tryd.pinned (OpenSpec.ofChange anchorNewestWrong)

/-- 'suturelaw09.AnchorTells': WHATEVER THE INPUT: true; the input reads as it did. -/
def anchorTellsSpec : ChangeSpec := { name := "anchorTells", fn := fun _ => fun
  | [d1, d2, d3, d4, d5] => { results := [.lit (.bool true)], args := [d1, d2, d3, d4, d5] }
  | _ => none }
def anchorTellsRow : OpenClaim := { program := "ytjahiohlekdhoaadoor", sum := "130d1d4b53abfae1070d229e4a458e78721c587b1173beeabf3912bb22e86130", func := "suture/suturelaw09.AnchorTells", spec := "anchorTells", unfollowed := true, recurses := true, named := ["suture/ptr.widths"], apart := false, laid := [("suture/ptr.widths", laid_suture_ptr_widths)] }
def AnchorTellsSaid : Prop := anchorTellsRow.holds Tryd.pinned (OpenSpec.ofChange anchorTellsSpec)

/-- ITS FALSE NEIGHBOUR: 'it returns false'. Refute it at one input. -/
def anchorTellsWrong : ChangeSpec := { name := "anchorTells", fn := fun _ => fun
  | [d1, d2, d3, d4, d5] => { results := [.lit (.bool false)], args := [d1, d2, d3, d4, d5] }
  | _ => none }
def AnchorTellsWrongFalsely : Prop := anchorTellsRow.holds Tryd.pinned (OpenSpec.ofChange anchorTellsWrong)

/-- 'suturelaw09.AnchorMarks': WHATEVER THE INPUT: true; the input reads as it did. -/
def anchorMarksSpec : ChangeSpec := { name := "anchorMarks", fn := fun _ => fun
  | [d1, d2] => { results := [.lit (.bool true)], args := [d1, d2] }
  | _ => none }
def anchorMarksRow : OpenClaim := { program := "ytjahiohlekdhoaadoor", sum := "130d1d4b53abfae1070d229e4a458e78721c587b1173beeabf3912bb22e86130", func := "suture/suturelaw09.AnchorMarks", spec := "anchorMarks", unfollowed := true, recurses := true, named := ["suture/ptr.widths"], apart := false, laid := [("suture/ptr.widths", laid_suture_ptr_widths)] }
def AnchorMarksSaid : Prop := anchorMarksRow.holds Tryd.pinned (OpenSpec.ofChange anchorMarksSpec)

/-- ITS FALSE NEIGHBOUR: 'it returns false'. Refute it at one input. -/
def anchorMarksWrong : ChangeSpec := { name := "anchorMarks", fn := fun _ => fun
  | [d1, d2] => { results := [.lit (.bool false)], args := [d1, d2] }
  | _ => none }
def AnchorMarksWrongFalsely : Prop := anchorMarksRow.holds Tryd.pinned (OpenSpec.ofChange anchorMarksWrong)

/-- 'suturelaw12.RingSplit': WHATEVER THE INPUT: true; the input reads as it did. -/
def ringSplitSpec : ChangeSpec := { name := "ringSplit", fn := fun _ => fun
  | [d1, d2, d3] => { results := [.lit (.bool true)], args := [d1, d2, d3] }
  | _ => none }
def ringSplitRow : OpenClaim := { program := "ytjahiohlekdhoaadoor", sum := "130d1d4b53abfae1070d229e4a458e78721c587b1173beeabf3912bb22e86130", func := "suture/suturelaw12.RingSplit", spec := "ringSplit", unfollowed := true, recurses := true, named := ["suture/ptr.widths"], apart := false, laid := [("suture/ptr.widths", laid_suture_ptr_widths)] }
def RingSplitSaid : Prop := ringSplitRow.holds Tryd.pinned (OpenSpec.ofChange ringSplitSpec)

/-- ITS FALSE NEIGHBOUR: 'it returns false'. Refute it at one input. -/
def ringSplitWrong : ChangeSpec := { name := "ringSplit", fn := fun _ => fun
  | [d1, d2, d3] => { results := [.lit (.bool false)], args := [d1, d2, d3] }
  | _ => none }
def RingSplitWrongFalsely : Prop := ringSplitRow.holds Tryd.pinned (OpenSpec.ofChange ringSplitWrong)

/-- 'suturelaw12.RingSlots': WHATEVER THE INPUT: true; the input reads as it did. -/
def ringSlotsSpec : ChangeSpec := { name := "ringSlots", fn := fun _ => fun
  | [d1, d2, d3] => { results := [.lit (.bool true)], args := [d1, d2, d3] }
  | _ => none }
def ringSlotsRow : OpenClaim := { program := "ytjahiohlekdhoaadoor", sum := "130d1d4b53abfae1070d229e4a458e78721c587b1173beeabf3912bb22e86130", func := "suture/suturelaw12.RingSlots", spec := "ringSlots", unfollowed := true, recurses := true, named := ["suture/ptr.widths"], apart := false, laid := [("suture/ptr.widths", laid_suture_ptr_widths)] }
def RingSlotsSaid : Prop := ringSlotsRow.holds Tryd.pinned (OpenSpec.ofChange ringSlotsSpec)

/-- ITS FALSE NEIGHBOUR: 'it returns false'. Refute it at one input. -/
def ringSlotsWrong : ChangeSpec := { name := "ringSlots", fn := fun _ => fun
  | [d1, d2, d3] => { results := [.lit (.bool false)], args := [d1, d2, d3] }
  | _ => none }
def RingSlotsWrongFalsely : Prop := ringSlotsRow.holds Tryd.pinned (OpenSpec.ofChange ringSlotsWrong)

/-- 'suturelaw12.RingDoubt': WHATEVER THE INPUT: true; the input reads as it did. -/
def ringDoubtSpec : ChangeSpec := { name := "ringDoubt", fn := fun _ => fun
  | [d1, d2] => { results := [.lit (.bool true)], args := [d1, d2] }
  | _ => none }
def ringDoubtRow : OpenClaim := { program := "ytjahiohlekdhoaadoor", sum := "130d1d4b53abfae1070d229e4a458e78721c587b1173beeabf3912bb22e86130", func := "suture/suturelaw12.RingDoubt", spec := "ringDoubt", unfollowed := true, recurses := true, named := ["suture/ptr.widths"], apart := false, laid := [("suture/ptr.widths", laid_suture_ptr_widths)] }
def RingDoubtSaid : Prop := ringDoubtRow.holds Tryd.pinned (OpenSpec.ofChange ringDoubtSpec)

/-- ITS FALSE NEIGHBOUR: 'it returns false'. Refute it at one input. -/
def ringDoubtWrong : ChangeSpec := { name := "ringDoubt", fn := fun _ => fun
  | [d1, d2] => { results := [.lit (.bool false)], args := [d1, d2] }
  | _ => none }
def RingDoubtWrongFalsely : Prop := ringDoubtRow.holds Tryd.pinned (OpenSpec.ofChange ringDoubtWrong)

/-- 'suturelaw12.RingHeals': WHATEVER THE INPUT: true; the input reads as it did. -/
def ringHealsSpec : ChangeSpec := { name := "ringHeals", fn := fun _ => fun
  | [d1, d2, d3] => { results := [.lit (.bool true)], args := [d1, d2, d3] }
  | _ => none }
def ringHealsRow : OpenClaim := { program := "ytjahiohlekdhoaadoor", sum := "130d1d4b53abfae1070d229e4a458e78721c587b1173beeabf3912bb22e86130", func := "suture/suturelaw12.RingHeals", spec := "ringHeals", unfollowed := true, recurses := true, named := ["suture/ptr.widths"], apart := false, laid := [("suture/ptr.widths", laid_suture_ptr_widths)] }
def RingHealsSaid : Prop := ringHealsRow.holds Tryd.pinned (OpenSpec.ofChange ringHealsSpec)

/-- ITS FALSE NEIGHBOUR: 'it returns false'. Refute it at one input. -/
def ringHealsWrong : ChangeSpec := { name := "ringHeals", fn := fun _ => fun
  | [d1, d2, d3] => { results := [.lit (.bool false)], args := [d1, d2, d3] }
  | _ => none }
def RingHealsWrongFalsely : Prop := ringHealsRow.holds Tryd.pinned (OpenSpec.ofChange ringHealsWrong)

/- THE SECOND FORM. 'bulk': how many values and letters a reading holds, each counted each time it is reached (what is shared counts as often as it is met; a slice's spare places count too). A statement '..UptoSaid' is the law's where the arguments, and the package variables that the reading takes, are together of bulk at most 1048576: NARROWER than '..Said'. Prove '..Said' where nothing that the law and all that it calls make is longer than what came in: it says more and counts as full. Else prove '..UptoSaid'. A law counts once. -/
mutual
def uptoBulk {H : Type} : DataW H → Nat
  | .lit (.string bytes) => bytes.length + 1
  | .lit _ => 1
  | .nil => 1
  | .ptr d => uptoBulk d + 1
  | .slice elems spare => uptoBulkAll elems + uptoBulkAll spare + 1
  | .agg parts => uptoBulkAll parts + 1
  | .iface _ d => uptoBulk d + 1
  | .map entries => uptoBulkEntries entries + 1
  | .held _ => 1
def uptoBulkAll {H : Type} : List (DataW H) → Nat
  | [] => 0
  | d :: r => uptoBulk d + uptoBulkAll r
def uptoBulkEntries {H : Type} : List (Lit × DataW H) → Nat
  | [] => 0
  | x :: r => uptoBulkEntry x + uptoBulkEntries r
def uptoBulkEntry {H : Type} : Lit × DataW H → Nat
  | (.string bytes, d) => bytes.length + uptoBulk d + 1
  | (_, d) => uptoBulk d + 1
 end
def uptoSmall : (H : Type) → List (DataW H) → Bool := fun _ ds => decide (uptoBulkAll ds ≤ 1048576)
def OpenSpec.upto (s : _root_.Go.ChangeSpec) : _root_.Go.OpenSpec := { _root_.Go.OpenSpec.ofChange s with cond := some uptoSmall }

/-- 'suturelaw09.AnchorBack', WHERE WHAT IT READS IS OF BULK AT MOST 1048576: true; the input reads as it did. -/
def anchorBackUptoRow : OpenClaim := { program := "ytjahiohlekdhoaadoor", sum := "130d1d4b53abfae1070d229e4a458e78721c587b1173beeabf3912bb22e86130", func := "suture/suturelaw09.AnchorBack", spec := "anchorBack", unfollowed := true, recurses := true, named := ["suture/ptr.widths"], apart := false, laid := [("suture/ptr.widths", laid_suture_ptr_widths)], narrowed := true }
def AnchorBackUptoSaid : Prop := anchorBackUptoRow.holds Tryd.pinned (OpenSpec.upto anchorBackSpec)

/-- 'suturelaw09.AnchorJust', WHERE WHAT IT READS IS OF BULK AT MOST 1048576: true; the input reads as it did. -/
def anchorJustUptoRow : OpenClaim := { program := "ytjahiohlekdhoaadoor", sum := "130d1d4b53abfae1070d229e4a458e78721c587b1173beeabf3912bb22e86130", func := "suture/suturelaw09.AnchorJust", spec := "anchorJust", unfollowed := true, recurses := true, named := ["suture/ptr.widths"], apart := false, laid := [("suture/ptr.widths", laid_suture_ptr_widths)], narrowed := true }
def AnchorJustUptoSaid : Prop := anchorJustUptoRow.holds Tryd.pinned (OpenSpec.upto anchorJustSpec)

/-- 'suturelaw09.AnchorNewest', WHERE WHAT IT READS IS OF BULK AT MOST 1048576: true; the input reads as it did. -/
def anchorNewestUptoRow : OpenClaim := { program := "ytjahiohlekdhoaadoor", sum := "130d1d4b53abfae1070d229e4a458e78721c587b1173beeabf3912bb22e86130", func := "suture/suturelaw09.AnchorNewest", spec := "anchorNewest", unfollowed := true, recurses := true, named := ["suture/ptr.widths"], apart := false, laid := [("suture/ptr.widths", laid_suture_ptr_widths)], narrowed := true }
def AnchorNewestUptoSaid : Prop := anchorNewestUptoRow.holds Tryd.pinned (OpenSpec.upto anchorNewestSpec)

/-- 'suturelaw09.AnchorTells', WHERE WHAT IT READS IS OF BULK AT MOST 1048576: true; the input reads as it did. -/
def anchorTellsUptoRow : OpenClaim := { program := "ytjahiohlekdhoaadoor", sum := "130d1d4b53abfae1070d229e4a458e78721c587b1173beeabf3912bb22e86130", func := "suture/suturelaw09.AnchorTells", spec := "anchorTells", unfollowed := true, recurses := true, named := ["suture/ptr.widths"], apart := false, laid := [("suture/ptr.widths", laid_suture_ptr_widths)], narrowed := true }
def AnchorTellsUptoSaid : Prop := anchorTellsUptoRow.holds Tryd.pinned (OpenSpec.upto anchorTellsSpec)

/-- 'suturelaw09.AnchorMarks', WHERE WHAT IT READS IS OF BULK AT MOST 1048576: true; the input reads as it did. -/
def anchorMarksUptoRow : OpenClaim := { program := "ytjahiohlekdhoaadoor", sum := "130d1d4b53abfae1070d229e4a458e78721c587b1173beeabf3912bb22e86130", func := "suture/suturelaw09.AnchorMarks", spec := "anchorMarks", unfollowed := true, recurses := true, named := ["suture/ptr.widths"], apart := false, laid := [("suture/ptr.widths", laid_suture_ptr_widths)], narrowed := true }
def AnchorMarksUptoSaid : Prop := anchorMarksUptoRow.holds Tryd.pinned (OpenSpec.upto anchorMarksSpec)

/-- 'suturelaw12.RingSplit', WHERE WHAT IT READS IS OF BULK AT MOST 1048576: true; the input reads as it did. -/
def ringSplitUptoRow : OpenClaim := { program := "ytjahiohlekdhoaadoor", sum := "130d1d4b53abfae1070d229e4a458e78721c587b1173beeabf3912bb22e86130", func := "suture/suturelaw12.RingSplit", spec := "ringSplit", unfollowed := true, recurses := true, named := ["suture/ptr.widths"], apart := false, laid := [("suture/ptr.widths", laid_suture_ptr_widths)], narrowed := true }
def RingSplitUptoSaid : Prop := ringSplitUptoRow.holds Tryd.pinned (OpenSpec.upto ringSplitSpec)

/-- 'suturelaw12.RingSlots', WHERE WHAT IT READS IS OF BULK AT MOST 1048576: true; the input reads as it did. -/
def ringSlotsUptoRow : OpenClaim := { program := "ytjahiohlekdhoaadoor", sum := "130d1d4b53abfae1070d229e4a458e78721c587b1173beeabf3912bb22e86130", func := "suture/suturelaw12.RingSlots", spec := "ringSlots", unfollowed := true, recurses := true, named := ["suture/ptr.widths"], apart := false, laid := [("suture/ptr.widths", laid_suture_ptr_widths)], narrowed := true }
def RingSlotsUptoSaid : Prop := ringSlotsUptoRow.holds Tryd.pinned (OpenSpec.upto ringSlotsSpec)

/-- 'suturelaw12.RingDoubt', WHERE WHAT IT READS IS OF BULK AT MOST 1048576: true; the input reads as it did. -/
def ringDoubtUptoRow : OpenClaim := { program := "ytjahiohlekdhoaadoor", sum := "130d1d4b53abfae1070d229e4a458e78721c587b1173beeabf3912bb22e86130", func := "suture/suturelaw12.RingDoubt", spec := "ringDoubt", unfollowed := true, recurses := true, named := ["suture/ptr.widths"], apart := false, laid := [("suture/ptr.widths", laid_suture_ptr_widths)], narrowed := true }
def RingDoubtUptoSaid : Prop := ringDoubtUptoRow.holds Tryd.pinned (OpenSpec.upto ringDoubtSpec)

/-- 'suturelaw12.RingHeals', WHERE WHAT IT READS IS OF BULK AT MOST 1048576: true; the input reads as it did. -/
def ringHealsUptoRow : OpenClaim := { program := "ytjahiohlekdhoaadoor", sum := "130d1d4b53abfae1070d229e4a458e78721c587b1173beeabf3912bb22e86130", func := "suture/suturelaw12.RingHeals", spec := "ringHeals", unfollowed := true, recurses := true, named := ["suture/ptr.widths"], apart := false, laid := [("suture/ptr.widths", laid_suture_ptr_widths)], narrowed := true }
def RingHealsUptoSaid : Prop := ringHealsUptoRow.holds Tryd.pinned (OpenSpec.upto ringHealsSpec)

end Rows
end Go.Proofs.YtjahiohlekdhoaaDoor
