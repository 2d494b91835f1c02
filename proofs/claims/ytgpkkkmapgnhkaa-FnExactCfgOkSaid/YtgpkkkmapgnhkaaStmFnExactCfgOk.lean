/- Printed for this seat by wip/tools/rowgen.py of this work. -/
import Derived.Test.YtgpkkkmapgnhkaaXlawsFnExactCfgOk
import Derived.Test.YtgpkkkmapgnhkaaXO
namespace Go.Proofs.Ytgpkkkmapgnhkaa.X
open Go.RowKit Go.Proofs.YtgpkkkmapgnhkaaW.PrintWords Go.Proofs.Ytgpkkkmapgnhkaa.Opn
set_option linter.unusedVariables false
/-- What is to be shown of the law FnExactCfgOk, over data alone. -/
def laws_FnExactCfgOk.Pure : Prop := ∀ (l0_0 : List Int) (a0_1 : Int) (a0_2 : Int) (a0_3 : Int) (a0_4 : Int) (a0_5 : Int) (a0_6 : Int), l0_0.length ≤ maxLen → (∀ y ∈ l0_0, (Lit.int .u8 y).wf = true) → (Lit.int .i64 a0_1).wf = true → (Lit.int .i64 a0_2).wf = true → (Lit.int .i64 a0_3).wf = true → (Lit.int .i64 a0_4).wf = true → (Lit.int .i64 a0_5).wf = true → (Lit.int .i64 a0_6).wf = true → ∃ k, laws_FnExactCfgOk.f k l0_0 a0_1 a0_2 a0_3 a0_4 a0_5 a0_6 = some true
end Go.Proofs.Ytgpkkkmapgnhkaa.X
