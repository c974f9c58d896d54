/-
  NARROWER THAN 'FOR EVERY INPUT', by the rows' own cells (each row's printed sentence says how): ExprLiterals: loops · ExprTypes: loops · ExprTells: loops.
  DERIVED. THE GIVEN ROWS OF THIS SEAT. 6 by the template 'for every input the law returns true; each argument reads behind the call as it read before'; 0 by the template 'total and deterministic' (their statements: YtlfahfoffdbpfaaTotals.lean).
  GIVEN WITH THE SEED: the statements are not yours to turn. If you find one false, say at which input.
  Laid BY PROGRAM, IN A SANDBOX (cutbox-rows.mjs): the forced cells as the released guide's own fill.sh prints them over the translation adf13a42ac41a81c… (all of the seat's roots in one cut). By AI agents, Wed Nov 11 2026. No macro, syntax, notation, axiom, sorry.
-/
import Derived.Test.YtlfahfoffdbpfaaChecked
import GoSem.Claim
import GoSem.ClaimJoined
import GoSem.ClaimMapViews
import Derived.JoinedTies
import Derived.KernelRfl
namespace Go.Proofs.Ytlfahfoffdbpfaa
/- THE CELL 'sum', in the pinned program and in every row, IS THE sha256 OF THE DUMP (.gsa) THAT YtlfahfoffdbpfaaProg.lean LOADS. Nothing in Lean hashes anything: it is a label: what it is worth is what the hold of that sum in a sandbox is worth. -/
noncomputable def Try.pinned : Pinned := { name := "ytlfahfoffdbpfaa", sum := "adf13a42ac41a81c46e8796f4a78a2902ef3d570efa8ddd1b63fe202ac875e24", checked := Try.checked }
namespace Rows
def none {H : Type} : Left H := { results := [], args := [] }

/-- 'tidelinelaw15.ExprLogic': WHATEVER THE INPUT: true; the input reads as it did. -/
def exprLogicSpec : ChangeSpec := { name := "exprLogic", fn := fun _ => fun
  | [d1, d2, d3] => { results := [.lit (.bool true)], args := [d1, d2, d3] }
  | _ => none }
def exprLogicRow : OpenClaim := { program := "ytlfahfoffdbpfaa", sum := "adf13a42ac41a81c46e8796f4a78a2902ef3d570efa8ddd1b63fe202ac875e24", func := "tideline/tidelinelaw15.ExprLogic", spec := "exprLogic", unfollowed := true, recurses := true, apart := false }
def ExprLogicSaid : Prop := exprLogicRow.holds Try.pinned (OpenSpec.ofChange exprLogicSpec)

/-- ITS FALSE NEIGHBOUR: 'it returns false'. Refute it at one input. -/
def exprLogicWrong : ChangeSpec := { name := "exprLogic", fn := fun _ => fun
  | [d1, d2, d3] => { results := [.lit (.bool false)], args := [d1, d2, d3] }
  | _ => none }
def ExprLogicWrongFalsely : Prop := exprLogicRow.holds Try.pinned (OpenSpec.ofChange exprLogicWrong)

/-- 'tidelinelaw15.ExprNumbers': WHATEVER THE INPUT: true; the input reads as it did. -/
def exprNumbersSpec : ChangeSpec := { name := "exprNumbers", fn := fun _ => fun
  | [d1, d2, d3] => { results := [.lit (.bool true)], args := [d1, d2, d3] }
  | _ => none }
def exprNumbersRow : OpenClaim := { program := "ytlfahfoffdbpfaa", sum := "adf13a42ac41a81c46e8796f4a78a2902ef3d570efa8ddd1b63fe202ac875e24", func := "tideline/tidelinelaw15.ExprNumbers", spec := "exprNumbers", unfollowed := true, recurses := true, apart := false }
def ExprNumbersSaid : Prop := exprNumbersRow.holds Try.pinned (OpenSpec.ofChange exprNumbersSpec)

/-- ITS FALSE NEIGHBOUR: 'it returns false'. Refute it at one input. -/
def exprNumbersWrong : ChangeSpec := { name := "exprNumbers", fn := fun _ => fun
  | [d1, d2, d3] => { results := [.lit (.bool false)], args := [d1, d2, d3] }
  | _ => none }
def ExprNumbersWrongFalsely : Prop := exprNumbersRow.holds Try.pinned (OpenSpec.ofChange exprNumbersWrong)

/-- 'tidelinelaw15.ExprOrders': WHATEVER THE INPUT: true; the input reads as it did. -/
def exprOrdersSpec : ChangeSpec := { name := "exprOrders", fn := fun _ => fun
  | [d1, d2] => { results := [.lit (.bool true)], args := [d1, d2] }
  | _ => none }
def exprOrdersRow : OpenClaim := { program := "ytlfahfoffdbpfaa", sum := "adf13a42ac41a81c46e8796f4a78a2902ef3d570efa8ddd1b63fe202ac875e24", func := "tideline/tidelinelaw15.ExprOrders", spec := "exprOrders", unfollowed := true, recurses := true, apart := false }
def ExprOrdersSaid : Prop := exprOrdersRow.holds Try.pinned (OpenSpec.ofChange exprOrdersSpec)

/-- ITS FALSE NEIGHBOUR: 'it returns false'. Refute it at one input. -/
def exprOrdersWrong : ChangeSpec := { name := "exprOrders", fn := fun _ => fun
  | [d1, d2] => { results := [.lit (.bool false)], args := [d1, d2] }
  | _ => none }
def ExprOrdersWrongFalsely : Prop := exprOrdersRow.holds Try.pinned (OpenSpec.ofChange exprOrdersWrong)

/-- 'tidelinelaw15.ExprLiterals': WHATEVER THE INPUT: true; the input reads as it did. -/
def exprLiteralsSpec : ChangeSpec := { name := "exprLiterals", fn := fun _ => fun
  | [d1, d2, d3] => { results := [.lit (.bool true)], args := [d1, d2, d3] }
  | _ => none }
def exprLiteralsRow : OpenClaim := { program := "ytlfahfoffdbpfaa", sum := "adf13a42ac41a81c46e8796f4a78a2902ef3d570efa8ddd1b63fe202ac875e24", func := "tideline/tidelinelaw15.ExprLiterals", spec := "exprLiterals", unfollowed := true, recurses := true, loops := true, apart := false }
def ExprLiteralsSaid : Prop := exprLiteralsRow.holds Try.pinned (OpenSpec.ofChange exprLiteralsSpec)

/-- ITS FALSE NEIGHBOUR: 'it returns false'. Refute it at one input. -/
def exprLiteralsWrong : ChangeSpec := { name := "exprLiterals", fn := fun _ => fun
  | [d1, d2, d3] => { results := [.lit (.bool false)], args := [d1, d2, d3] }
  | _ => none }
def ExprLiteralsWrongFalsely : Prop := exprLiteralsRow.holds Try.pinned (OpenSpec.ofChange exprLiteralsWrong)

/-- 'tidelinelaw15.ExprTypes': WHATEVER THE INPUT: true; the input reads as it did. -/
def exprTypesSpec : ChangeSpec := { name := "exprTypes", fn := fun _ => fun
  | [d1, d2, d3] => { results := [.lit (.bool true)], args := [d1, d2, d3] }
  | _ => none }
def exprTypesRow : OpenClaim := { program := "ytlfahfoffdbpfaa", sum := "adf13a42ac41a81c46e8796f4a78a2902ef3d570efa8ddd1b63fe202ac875e24", func := "tideline/tidelinelaw15.ExprTypes", spec := "exprTypes", unfollowed := true, recurses := true, loops := true, apart := false }
def ExprTypesSaid : Prop := exprTypesRow.holds Try.pinned (OpenSpec.ofChange exprTypesSpec)

/-- ITS FALSE NEIGHBOUR: 'it returns false'. Refute it at one input. -/
def exprTypesWrong : ChangeSpec := { name := "exprTypes", fn := fun _ => fun
  | [d1, d2, d3] => { results := [.lit (.bool false)], args := [d1, d2, d3] }
  | _ => none }
def ExprTypesWrongFalsely : Prop := exprTypesRow.holds Try.pinned (OpenSpec.ofChange exprTypesWrong)

/-- 'tidelinelaw15.ExprTells': WHATEVER THE INPUT: true; the input reads as it did. -/
def exprTellsSpec : ChangeSpec := { name := "exprTells", fn := fun _ => fun
  | [d1, d2, d3, d4] => { results := [.lit (.bool true)], args := [d1, d2, d3, d4] }
  | _ => none }
def exprTellsRow : OpenClaim := { program := "ytlfahfoffdbpfaa", sum := "adf13a42ac41a81c46e8796f4a78a2902ef3d570efa8ddd1b63fe202ac875e24", func := "tideline/tidelinelaw15.ExprTells", spec := "exprTells", unfollowed := true, recurses := true, loops := true, apart := false }
def ExprTellsSaid : Prop := exprTellsRow.holds Try.pinned (OpenSpec.ofChange exprTellsSpec)

/-- ITS FALSE NEIGHBOUR: 'it returns false'. Refute it at one input. -/
def exprTellsWrong : ChangeSpec := { name := "exprTells", fn := fun _ => fun
  | [d1, d2, d3, d4] => { results := [.lit (.bool false)], args := [d1, d2, d3, d4] }
  | _ => none }
def ExprTellsWrongFalsely : Prop := exprTellsRow.holds Try.pinned (OpenSpec.ofChange exprTellsWrong)

/- THE SECOND FORM. 'bulk': how many values and letters a reading holds, each counted each time it is reached (what is shared counts as often as it is met; a slice's spare places count too). A statement '..UptoSaid' is the law's where the arguments, and the package variables that the reading takes, are together of bulk at most 1048576: NARROWER than '..Said'. Prove '..Said' where nothing that the law and all that it calls make is longer than what came in: it says more and counts as full. Else prove '..UptoSaid'. A law counts once. -/
mutual
def uptoBulk {H : Type} : DataW H → Nat
  | .lit (.string bytes) => bytes.length + 1
  | .lit _ => 1
  | .nil => 1
  | .ptr d => uptoBulk d + 1
  | .slice elems spare => uptoBulkAll elems + uptoBulkAll spare + 1
  | .agg parts => uptoBulkAll parts + 1
  | .iface _ d => uptoBulk d + 1
  | .map entries => uptoBulkEntries entries + 1
  | .held _ => 1
def uptoBulkAll {H : Type} : List (DataW H) → Nat
  | [] => 0
  | d :: r => uptoBulk d + uptoBulkAll r
def uptoBulkEntries {H : Type} : List (Lit × DataW H) → Nat
  | [] => 0
  | x :: r => uptoBulkEntry x + uptoBulkEntries r
def uptoBulkEntry {H : Type} : Lit × DataW H → Nat
  | (.string bytes, d) => bytes.length + uptoBulk d + 1
  | (_, d) => uptoBulk d + 1
 end
def uptoSmall : (H : Type) → List (DataW H) → Bool := fun _ ds => decide (uptoBulkAll ds ≤ 1048576)
def OpenSpec.upto (s : _root_.Go.ChangeSpec) : _root_.Go.OpenSpec := { _root_.Go.OpenSpec.ofChange s with cond := some uptoSmall }

/-- 'tidelinelaw15.ExprLogic', WHERE WHAT IT READS IS OF BULK AT MOST 1048576: true; the input reads as it did. -/
def exprLogicUptoRow : OpenClaim := { program := "ytlfahfoffdbpfaa", sum := "adf13a42ac41a81c46e8796f4a78a2902ef3d570efa8ddd1b63fe202ac875e24", func := "tideline/tidelinelaw15.ExprLogic", spec := "exprLogic", unfollowed := true, recurses := true, apart := false, narrowed := true }
def ExprLogicUptoSaid : Prop := exprLogicUptoRow.holds Try.pinned (OpenSpec.upto exprLogicSpec)

/-- 'tidelinelaw15.ExprNumbers', WHERE WHAT IT READS IS OF BULK AT MOST 1048576: true; the input reads as it did. -/
def exprNumbersUptoRow : OpenClaim := { program := "ytlfahfoffdbpfaa", sum := "adf13a42ac41a81c46e8796f4a78a2902ef3d570efa8ddd1b63fe202ac875e24", func := "tideline/tidelinelaw15.ExprNumbers", spec := "exprNumbers", unfollowed := true, recurses := true, apart := false, narrowed := true }
def ExprNumbersUptoSaid : Prop := exprNumbersUptoRow.holds Try.pinned (OpenSpec.upto exprNumbersSpec)

/-- 'tidelinelaw15.ExprOrders', WHERE WHAT IT READS IS OF BULK AT MOST 1048576: true; the input reads as it did. -/
def exprOrdersUptoRow : OpenClaim := { program := "ytlfahfoffdbpfaa", sum := "adf13a42ac41a81c46e8796f4a78a2902ef3d570efa8ddd1b63fe202ac875e24", func := "tideline/tidelinelaw15.ExprOrders", spec := "exprOrders", unfollowed := true, recurses := true, apart := false, narrowed := true }
def ExprOrdersUptoSaid : Prop := exprOrdersUptoRow.holds Try.pinned (OpenSpec.upto exprOrdersSpec)

/-- 'tidelinelaw15.ExprLiterals', WHERE WHAT IT READS IS OF BULK AT MOST 1048576: true; the input reads as it did. -/
def exprLiteralsUptoRow : OpenClaim := { program := "ytlfahfoffdbpfaa", sum := "adf13a42ac41a81c46e8796f4a78a2902ef3d570efa8ddd1b63fe202ac875e24", func := "tideline/tidelinelaw15.ExprLiterals", spec := "exprLiterals", unfollowed := true, recurses := true, loops := true, apart := false, narrowed := true }
def ExprLiteralsUptoSaid : Prop := exprLiteralsUptoRow.holds Try.pinned (OpenSpec.upto exprLiteralsSpec)

/-- 'tidelinelaw15.ExprTypes', WHERE WHAT IT READS IS OF BULK AT MOST 1048576: true; the input reads as it did. -/
def exprTypesUptoRow : OpenClaim := { program := "ytlfahfoffdbpfaa", sum := "adf13a42ac41a81c46e8796f4a78a2902ef3d570efa8ddd1b63fe202ac875e24", func := "tideline/tidelinelaw15.ExprTypes", spec := "exprTypes", unfollowed := true, recurses := true, loops := true, apart := false, narrowed := true }
def ExprTypesUptoSaid : Prop := exprTypesUptoRow.holds Try.pinned (OpenSpec.upto exprTypesSpec)

/-- 'tidelinelaw15.ExprTells', WHERE WHAT IT READS IS OF BULK AT MOST 1048576: true; the input reads as it did. -/
def exprTellsUptoRow : OpenClaim := { program := "ytlfahfoffdbpfaa", sum := "adf13a42ac41a81c46e8796f4a78a2902ef3d570efa8ddd1b63fe202ac875e24", func := "tideline/tidelinelaw15.ExprTells", spec := "exprTells", unfollowed := true, recurses := true, loops := true, apart := false, narrowed := true }
def ExprTellsUptoSaid : Prop := exprTellsUptoRow.holds Try.pinned (OpenSpec.upto exprTellsSpec)

end Rows
end Go.Proofs.Ytlfahfoffdbpfaa
