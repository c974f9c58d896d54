/-
  NARROWER THAN 'FOR EVERY INPUT', by the rows' own cells (each row's printed sentence says how): BoundTells: loops, laid · BoundWindows: loops, laid · BoundHolds: loops, laid.
  DERIVED. THE GIVEN ROWS OF THIS SEAT. 3 by the template 'for every input the law returns true; each argument reads behind the call as it read before'; 0 by the template 'total and deterministic' (their statements: YtfmbcoeallmnnaaGreatDoorTotals.lean).
  GIVEN WITH THE SEED: the statements are not yours to turn. If you find one false, say at which input.
  Laid BY PROGRAM, IN A SANDBOX (cutbox-rows.mjs): the forced cells as the released guide's own fill.sh prints them over the translation 378e9c96ab0ac982… (all of the seat's roots in one cut). By AI agents, Wed Nov 11 2026. No macro, syntax, notation, axiom, sorry.
-/
import Derived.Test.YtfmbcoeallmnnaaGreatDoorChecked
import GoSem.Claim
import GoSem.ClaimJoined
import GoSem.ClaimMapViews
import Derived.JoinedTies
import Derived.KernelRfl
namespace Go.Proofs.YtfmbcoeallmnnaaGreatDoor
/- THE CELL 'sum', in the pinned program and in every row, IS THE sha256 OF THE DUMP (.gsa) THAT YtfmbcoeallmnnaaGreatDoorProg.lean LOADS. Nothing in Lean hashes anything: it is a label: what it is worth is what the hold of that sum in a sandbox is worth. -/
noncomputable def Tryz.pinned : Pinned := { name := "ytfmbcoeallmnnaagreatdoor", sum := "378e9c96ab0ac9822f5db8b13e157156f7145aa4308be8ab2fce79b597af7da0", checked := Tryz.checked }
namespace Rows
def none {H : Type} : Left H := { results := [], args := [] }

/- WHAT THE LISTED PACKAGE-LEVEL VARIABLES READ AS WHEN THE CALL BEGINS. Each datum BY PROGRAM (the guide's laid-datum.mjs) off the statement by which the dump's own 'gosem.cut.vars' lays the variable. In a bare row this is a premise. The card (YtfmbcoeallmnnaaGreatDoorCards.lean) ties it to the program's text. -/
def laid_tideline_bound_whole {H : Type} : DataW H := .agg [.lit (.int .i64 (-4611687117939015680)), .lit (.int .i64 4611687117939015679)]

/-- 'tidelinelaw17.BoundTells': WHATEVER THE INPUT: true; the input reads as it did. -/
def boundTellsSpec : ChangeSpec := { name := "boundTells", fn := fun _ => fun
  | [d1, d2] => { results := [.lit (.bool true)], args := [d1, d2] }
  | _ => none }
def boundTellsRow : OpenClaim := { program := "ytfmbcoeallmnnaagreatdoor", sum := "378e9c96ab0ac9822f5db8b13e157156f7145aa4308be8ab2fce79b597af7da0", func := "tideline/tidelinelaw17.BoundTells", spec := "boundTells", unfollowed := true, recurses := true, named := ["tideline/bound.whole"], loops := true, apart := false, laid := [("tideline/bound.whole", laid_tideline_bound_whole)] }
def BoundTellsSaid : Prop := boundTellsRow.holds Tryz.pinned (OpenSpec.ofChange boundTellsSpec)

/-- ITS FALSE NEIGHBOUR: 'it returns false'. Refute it at one input. -/
def boundTellsWrong : ChangeSpec := { name := "boundTells", fn := fun _ => fun
  | [d1, d2] => { results := [.lit (.bool false)], args := [d1, d2] }
  | _ => none }
def BoundTellsWrongFalsely : Prop := boundTellsRow.holds Tryz.pinned (OpenSpec.ofChange boundTellsWrong)

/-- 'tidelinelaw17.BoundWindows': WHATEVER THE INPUT: true; the input reads as it did. -/
def boundWindowsSpec : ChangeSpec := { name := "boundWindows", fn := fun _ => fun
  | [d1, d2, d3] => { results := [.lit (.bool true)], args := [d1, d2, d3] }
  | _ => none }
def boundWindowsRow : OpenClaim := { program := "ytfmbcoeallmnnaagreatdoor", sum := "378e9c96ab0ac9822f5db8b13e157156f7145aa4308be8ab2fce79b597af7da0", func := "tideline/tidelinelaw17.BoundWindows", spec := "boundWindows", unfollowed := true, recurses := true, named := ["tideline/bound.whole"], loops := true, apart := false, laid := [("tideline/bound.whole", laid_tideline_bound_whole)] }
def BoundWindowsSaid : Prop := boundWindowsRow.holds Tryz.pinned (OpenSpec.ofChange boundWindowsSpec)

/-- ITS FALSE NEIGHBOUR: 'it returns false'. Refute it at one input. -/
def boundWindowsWrong : ChangeSpec := { name := "boundWindows", fn := fun _ => fun
  | [d1, d2, d3] => { results := [.lit (.bool false)], args := [d1, d2, d3] }
  | _ => none }
def BoundWindowsWrongFalsely : Prop := boundWindowsRow.holds Tryz.pinned (OpenSpec.ofChange boundWindowsWrong)

/-- 'tidelinelaw17.BoundHolds': WHATEVER THE INPUT: true; the input reads as it did. -/
def boundHoldsSpec : ChangeSpec := { name := "boundHolds", fn := fun _ => fun
  | [d1, d2, d3, d4] => { results := [.lit (.bool true)], args := [d1, d2, d3, d4] }
  | _ => none }
def boundHoldsRow : OpenClaim := { program := "ytfmbcoeallmnnaagreatdoor", sum := "378e9c96ab0ac9822f5db8b13e157156f7145aa4308be8ab2fce79b597af7da0", func := "tideline/tidelinelaw17.BoundHolds", spec := "boundHolds", unfollowed := true, recurses := true, named := ["tideline/bound.whole"], loops := true, apart := false, laid := [("tideline/bound.whole", laid_tideline_bound_whole)] }
def BoundHoldsSaid : Prop := boundHoldsRow.holds Tryz.pinned (OpenSpec.ofChange boundHoldsSpec)

/-- ITS FALSE NEIGHBOUR: 'it returns false'. Refute it at one input. -/
def boundHoldsWrong : ChangeSpec := { name := "boundHolds", fn := fun _ => fun
  | [d1, d2, d3, d4] => { results := [.lit (.bool false)], args := [d1, d2, d3, d4] }
  | _ => none }
def BoundHoldsWrongFalsely : Prop := boundHoldsRow.holds Tryz.pinned (OpenSpec.ofChange boundHoldsWrong)

/- THE SECOND FORM. 'bulk': how many values and letters a reading holds, each counted each time it is reached (what is shared counts as often as it is met; a slice's spare places count too). A statement '..UptoSaid' is the law's where the arguments, and the package variables that the reading takes, are together of bulk at most 1048576: NARROWER than '..Said'. Prove '..Said' where nothing that the law and all that it calls make is longer than what came in: it says more and counts as full. Else prove '..UptoSaid'. A law counts once. -/
mutual
def uptoBulk {H : Type} : DataW H → Nat
  | .lit (.string bytes) => bytes.length + 1
  | .lit _ => 1
  | .nil => 1
  | .ptr d => uptoBulk d + 1
  | .slice elems spare => uptoBulkAll elems + uptoBulkAll spare + 1
  | .agg parts => uptoBulkAll parts + 1
  | .iface _ d => uptoBulk d + 1
  | .map entries => uptoBulkEntries entries + 1
  | .held _ => 1
def uptoBulkAll {H : Type} : List (DataW H) → Nat
  | [] => 0
  | d :: r => uptoBulk d + uptoBulkAll r
def uptoBulkEntries {H : Type} : List (Lit × DataW H) → Nat
  | [] => 0
  | x :: r => uptoBulkEntry x + uptoBulkEntries r
def uptoBulkEntry {H : Type} : Lit × DataW H → Nat
  | (.string bytes, d) => bytes.length + uptoBulk d + 1
  | (_, d) => uptoBulk d + 1
 end
def uptoSmall : (H : Type) → List (DataW H) → Bool := fun _ ds => decide (uptoBulkAll ds ≤ 1048576)
def OpenSpec.upto (s : _root_.Go.ChangeSpec) : _root_.Go.OpenSpec := { _root_.Go.OpenSpec.ofChange s with cond := some uptoSmall }

/-- 'tidelinelaw17.BoundTells', WHERE WHAT IT READS IS OF BULK AT MOST 1048576: true; the input reads as it did. -/
def boundTellsUptoRow : OpenClaim := { program := "ytfmbcoeallmnnaagreatdoor", sum := "378e9c96ab0ac9822f5db8b13e157156f7145aa4308be8ab2fce79b597af7da0", func := "tideline/tidelinelaw17.BoundTells", spec := "boundTells", unfollowed := true, recurses := true, named := ["tideline/bound.whole"], loops := true, apart := false, laid := [("tideline/bound.whole", laid_tideline_bound_whole)], narrowed := true }
def BoundTellsUptoSaid : Prop := boundTellsUptoRow.holds Tryz.pinned (OpenSpec.upto boundTellsSpec)

/-- 'tidelinelaw17.BoundWindows', WHERE WHAT IT READS IS OF BULK AT MOST 1048576: true; the input reads as it did. -/
def boundWindowsUptoRow : OpenClaim := { program := "ytfmbcoeallmnnaagreatdoor", sum := "378e9c96ab0ac9822f5db8b13e157156f7145aa4308be8ab2fce79b597af7da0", func := "tideline/tidelinelaw17.BoundWindows", spec := "boundWindows", unfollowed := true, recurses := true, named := ["tideline/bound.whole"], loops := true, apart := false, laid := [("tideline/bound.whole", laid_tideline_bound_whole)], narrowed := true }
def BoundWindowsUptoSaid : Prop := boundWindowsUptoRow.holds Tryz.pinned (OpenSpec.upto boundWindowsSpec)

/-- 'tidelinelaw17.BoundHolds', WHERE WHAT IT READS IS OF BULK AT MOST 1048576: true; the input reads as it did. -/
def boundHoldsUptoRow : OpenClaim := { program := "ytfmbcoeallmnnaagreatdoor", sum := "378e9c96ab0ac9822f5db8b13e157156f7145aa4308be8ab2fce79b597af7da0", func := "tideline/tidelinelaw17.BoundHolds", spec := "boundHolds", unfollowed := true, recurses := true, named := ["tideline/bound.whole"], loops := true, apart := false, laid := [("tideline/bound.whole", laid_tideline_bound_whole)], narrowed := true }
def BoundHoldsUptoSaid : Prop := boundHoldsUptoRow.holds Tryz.pinned (OpenSpec.upto boundHoldsSpec)

end Rows
end Go.Proofs.YtfmbcoeallmnnaaGreatDoor
