/- ExprNumbers: what is asked of a bucket. Printed by gen_num2.py. -/
import Derived.Test.YtlfahfoffdbpfaaNum
import Derived.Deep.DeepCutAuto
namespace Go.Proofs.Ytlfahfoffdbpfaa
open Go.ChangeShapes Go.WideShapes Go.ChangeAt Go.RowKit
set_option linter.unusedVariables false
set_option linter.unusedSimpArgs false

def Bk (width a : Int) (k : Val) (e : Int) : Prop := ∀ g w, Blk w g 36 #[.int .u8 1, .int .u8 2, .int .i64 a, .string ByteArray.empty, .string ByteArray.empty, .int .i64 0, .slice none 0 0] → Calls Try.prog 14 #[.agg #[.int .u8 20, .int .u8 0, .int .i64 0, .string ⟨#[]⟩, .string ⟨#[]⟩, .int .i64 width, .slice (some ⟨g, 0, none⟩) 1 1], .slice none 0 0, .slice none 0 0] w fun en w' => en = .returned (.tuple #[.agg #[.int .u8 k.k, .int .i64 k.n, .string k.s], .int .i64 e]) ∧ Below w.heap.size w w'
end Go.Proofs.Ytlfahfoffdbpfaa
