/-
  No cell of these rows narrows 'for every input' (looked for: loops, veiled, ifaces, maps, wideKeys, modest, calm, conditions, laid).
  DERIVED. THE GIVEN ROWS OF THIS SEAT. 7 by the template 'for every input the law returns true; each argument reads behind the call as it read before'; 0 by the template 'total and deterministic' (their statements: YtoifpgkfpdeglaaTotals.lean).
  GIVEN WITH THE SEED: the statements are not yours to turn. If you find one false, say at which input.
  Laid BY PROGRAM, IN A SANDBOX (cutbox-rows.mjs): the forced cells as the released guide's own fill.sh prints them over the translation e766c9d498d007f8… (all of the seat's roots in one cut). By AI agents, Wed Nov 11 2026. No macro, syntax, notation, axiom, sorry.
-/
import Derived.Test.YtoifpgkfpdeglaaChecked
import GoSem.Claim
import GoSem.ClaimJoined
import GoSem.ClaimMapViews
import Derived.JoinedTies
import Derived.KernelRfl
namespace Go.Proofs.Ytoifpgkfpdeglaa
/- THE CELL 'sum', in the pinned program and in every row, IS THE sha256 OF THE DUMP (.gsa) THAT YtoifpgkfpdeglaaProg.lean LOADS. Nothing in Lean hashes anything: it is a label: what it is worth is what the hold of that sum in a sandbox is worth. -/
noncomputable def Try.pinned : Pinned := { name := "ytoifpgkfpdeglaa", sum := "e766c9d498d007f88fab1268f9bfa7afd013d00c8d5c316857e221eb9b5adc60", checked := Try.checked }
namespace Rows
def none {H : Type} : Left H := { results := [], args := [] }

/-- 'laws.FnOpCover': WHATEVER THE INPUT: true; the input reads as it did. -/
def fnOpCoverSpec : ChangeSpec := { name := "fnOpCover", fn := fun _ => fun
  | [d] => { results := [.lit (.bool true)], args := [d] }
  | _ => none }
def fnOpCoverRow : OpenClaim := { program := "ytoifpgkfpdeglaa", sum := "e766c9d498d007f88fab1268f9bfa7afd013d00c8d5c316857e221eb9b5adc60", func := "loop.example/easel/laws.FnOpCover", spec := "fnOpCover", unfollowed := true, recurses := true, apart := false }
def FnOpCoverSaid : Prop := fnOpCoverRow.holds Try.pinned (OpenSpec.ofChange fnOpCoverSpec)

/-- ITS FALSE NEIGHBOUR: 'it returns false'. Refute it at one input. -/
def fnOpCoverWrong : ChangeSpec := { name := "fnOpCover", fn := fun _ => fun
  | [d] => { results := [.lit (.bool false)], args := [d] }
  | _ => none }
def FnOpCoverWrongFalsely : Prop := fnOpCoverRow.holds Try.pinned (OpenSpec.ofChange fnOpCoverWrong)

/-- 'laws.FnOpSize': WHATEVER THE INPUT: true; the input reads as it did. -/
def fnOpSizeSpec : ChangeSpec := { name := "fnOpSize", fn := fun _ => fun
  | [d1, d2] => { results := [.lit (.bool true)], args := [d1, d2] }
  | _ => none }
def fnOpSizeRow : OpenClaim := { program := "ytoifpgkfpdeglaa", sum := "e766c9d498d007f88fab1268f9bfa7afd013d00c8d5c316857e221eb9b5adc60", func := "loop.example/easel/laws.FnOpSize", spec := "fnOpSize", unfollowed := true, recurses := true, apart := false }
def FnOpSizeSaid : Prop := fnOpSizeRow.holds Try.pinned (OpenSpec.ofChange fnOpSizeSpec)

/-- ITS FALSE NEIGHBOUR: 'it returns false'. Refute it at one input. -/
def fnOpSizeWrong : ChangeSpec := { name := "fnOpSize", fn := fun _ => fun
  | [d1, d2] => { results := [.lit (.bool false)], args := [d1, d2] }
  | _ => none }
def FnOpSizeWrongFalsely : Prop := fnOpSizeRow.holds Try.pinned (OpenSpec.ofChange fnOpSizeWrong)

/-- 'laws.FnOpTurn': WHATEVER THE INPUT: true; the input reads as it did. -/
def fnOpTurnSpec : ChangeSpec := { name := "fnOpTurn", fn := fun _ => fun
  | [d] => { results := [.lit (.bool true)], args := [d] }
  | _ => none }
def fnOpTurnRow : OpenClaim := { program := "ytoifpgkfpdeglaa", sum := "e766c9d498d007f88fab1268f9bfa7afd013d00c8d5c316857e221eb9b5adc60", func := "loop.example/easel/laws.FnOpTurn", spec := "fnOpTurn", unfollowed := true, recurses := true, apart := false }
def FnOpTurnSaid : Prop := fnOpTurnRow.holds Try.pinned (OpenSpec.ofChange fnOpTurnSpec)

/-- ITS FALSE NEIGHBOUR: 'it returns false'. Refute it at one input. -/
def fnOpTurnWrong : ChangeSpec := { name := "fnOpTurn", fn := fun _ => fun
  | [d] => { results := [.lit (.bool false)], args := [d] }
  | _ => none }
def FnOpTurnWrongFalsely : Prop := fnOpTurnRow.holds Try.pinned (OpenSpec.ofChange fnOpTurnWrong)

/-- 'laws.FnOpEach': WHATEVER THE INPUT: true; the input reads as it did. -/
def fnOpEachSpec : ChangeSpec := { name := "fnOpEach", fn := fun _ => fun
  | [d1, d2] => { results := [.lit (.bool true)], args := [d1, d2] }
  | _ => none }
def fnOpEachRow : OpenClaim := { program := "ytoifpgkfpdeglaa", sum := "e766c9d498d007f88fab1268f9bfa7afd013d00c8d5c316857e221eb9b5adc60", func := "loop.example/easel/laws.FnOpEach", spec := "fnOpEach", unfollowed := true, recurses := true, apart := false }
def FnOpEachSaid : Prop := fnOpEachRow.holds Try.pinned (OpenSpec.ofChange fnOpEachSpec)

/-- ITS FALSE NEIGHBOUR: 'it returns false'. Refute it at one input. -/
def fnOpEachWrong : ChangeSpec := { name := "fnOpEach", fn := fun _ => fun
  | [d1, d2] => { results := [.lit (.bool false)], args := [d1, d2] }
  | _ => none }
def FnOpEachWrongFalsely : Prop := fnOpEachRow.holds Try.pinned (OpenSpec.ofChange fnOpEachWrong)

/-- 'laws.FnExactOpDo': WHATEVER THE INPUT: true; the input reads as it did. -/
def fnExactOpDoSpec : ChangeSpec := { name := "fnExactOpDo", fn := fun _ => fun
  | [d1, d2] => { results := [.lit (.bool true)], args := [d1, d2] }
  | _ => none }
def fnExactOpDoRow : OpenClaim := { program := "ytoifpgkfpdeglaa", sum := "e766c9d498d007f88fab1268f9bfa7afd013d00c8d5c316857e221eb9b5adc60", func := "loop.example/easel/laws.FnExactOpDo", spec := "fnExactOpDo", unfollowed := true, recurses := true, apart := false }
def FnExactOpDoSaid : Prop := fnExactOpDoRow.holds Try.pinned (OpenSpec.ofChange fnExactOpDoSpec)

/-- ITS FALSE NEIGHBOUR: 'it returns false'. Refute it at one input. -/
def fnExactOpDoWrong : ChangeSpec := { name := "fnExactOpDo", fn := fun _ => fun
  | [d1, d2] => { results := [.lit (.bool false)], args := [d1, d2] }
  | _ => none }
def FnExactOpDoWrongFalsely : Prop := fnExactOpDoRow.holds Try.pinned (OpenSpec.ofChange fnExactOpDoWrong)

/-- 'laws.FnOpsDo': WHATEVER THE INPUT: true; the input reads as it did. -/
def fnOpsDoSpec : ChangeSpec := { name := "fnOpsDo", fn := fun _ => fun
  | [d] => { results := [.lit (.bool true)], args := [d] }
  | _ => none }
def fnOpsDoRow : OpenClaim := { program := "ytoifpgkfpdeglaa", sum := "e766c9d498d007f88fab1268f9bfa7afd013d00c8d5c316857e221eb9b5adc60", func := "loop.example/easel/laws.FnOpsDo", spec := "fnOpsDo", unfollowed := true, recurses := true, apart := false }
def FnOpsDoSaid : Prop := fnOpsDoRow.holds Try.pinned (OpenSpec.ofChange fnOpsDoSpec)

/-- ITS FALSE NEIGHBOUR: 'it returns false'. Refute it at one input. -/
def fnOpsDoWrong : ChangeSpec := { name := "fnOpsDo", fn := fun _ => fun
  | [d] => { results := [.lit (.bool false)], args := [d] }
  | _ => none }
def FnOpsDoWrongFalsely : Prop := fnOpsDoRow.holds Try.pinned (OpenSpec.ofChange fnOpsDoWrong)

/-- 'laws.FnExactOpsDo': WHATEVER THE INPUT: true; the input reads as it did. -/
def fnExactOpsDoSpec : ChangeSpec := { name := "fnExactOpsDo", fn := fun _ => fun
  | [d1, d2] => { results := [.lit (.bool true)], args := [d1, d2] }
  | _ => none }
def fnExactOpsDoRow : OpenClaim := { program := "ytoifpgkfpdeglaa", sum := "e766c9d498d007f88fab1268f9bfa7afd013d00c8d5c316857e221eb9b5adc60", func := "loop.example/easel/laws.FnExactOpsDo", spec := "fnExactOpsDo", unfollowed := true, recurses := true, apart := false }
def FnExactOpsDoSaid : Prop := fnExactOpsDoRow.holds Try.pinned (OpenSpec.ofChange fnExactOpsDoSpec)

/-- ITS FALSE NEIGHBOUR: 'it returns false'. Refute it at one input. -/
def fnExactOpsDoWrong : ChangeSpec := { name := "fnExactOpsDo", fn := fun _ => fun
  | [d1, d2] => { results := [.lit (.bool false)], args := [d1, d2] }
  | _ => none }
def FnExactOpsDoWrongFalsely : Prop := fnExactOpsDoRow.holds Try.pinned (OpenSpec.ofChange fnExactOpsDoWrong)

/- THE SECOND FORM. 'bulk': how many values and letters a reading holds, each counted each time it is reached (what is shared counts as often as it is met; a slice's spare places count too). A statement '..UptoSaid' is the law's where the arguments, and the package variables that the reading takes, are together of bulk at most 1048576: NARROWER than '..Said'. Prove '..Said' where nothing that the law and all that it calls make is longer than what came in: it says more and counts as full. Else prove '..UptoSaid'. A law counts once. -/
mutual
def uptoBulk {H : Type} : DataW H → Nat
  | .lit (.string bytes) => bytes.length + 1
  | .lit _ => 1
  | .nil => 1
  | .ptr d => uptoBulk d + 1
  | .slice elems spare => uptoBulkAll elems + uptoBulkAll spare + 1
  | .agg parts => uptoBulkAll parts + 1
  | .iface _ d => uptoBulk d + 1
  | .map entries => uptoBulkEntries entries + 1
  | .held _ => 1
def uptoBulkAll {H : Type} : List (DataW H) → Nat
  | [] => 0
  | d :: r => uptoBulk d + uptoBulkAll r
def uptoBulkEntries {H : Type} : List (Lit × DataW H) → Nat
  | [] => 0
  | x :: r => uptoBulkEntry x + uptoBulkEntries r
def uptoBulkEntry {H : Type} : Lit × DataW H → Nat
  | (.string bytes, d) => bytes.length + uptoBulk d + 1
  | (_, d) => uptoBulk d + 1
 end
def uptoSmall : (H : Type) → List (DataW H) → Bool := fun _ ds => decide (uptoBulkAll ds ≤ 1048576)
def OpenSpec.upto (s : _root_.Go.ChangeSpec) : _root_.Go.OpenSpec := { _root_.Go.OpenSpec.ofChange s with cond := some uptoSmall }

/-- 'laws.FnOpCover', WHERE WHAT IT READS IS OF BULK AT MOST 1048576: true; the input reads as it did. -/
def fnOpCoverUptoRow : OpenClaim := { program := "ytoifpgkfpdeglaa", sum := "e766c9d498d007f88fab1268f9bfa7afd013d00c8d5c316857e221eb9b5adc60", func := "loop.example/easel/laws.FnOpCover", spec := "fnOpCover", unfollowed := true, recurses := true, apart := false, narrowed := true }
def FnOpCoverUptoSaid : Prop := fnOpCoverUptoRow.holds Try.pinned (OpenSpec.upto fnOpCoverSpec)

/-- 'laws.FnOpSize', WHERE WHAT IT READS IS OF BULK AT MOST 1048576: true; the input reads as it did. -/
def fnOpSizeUptoRow : OpenClaim := { program := "ytoifpgkfpdeglaa", sum := "e766c9d498d007f88fab1268f9bfa7afd013d00c8d5c316857e221eb9b5adc60", func := "loop.example/easel/laws.FnOpSize", spec := "fnOpSize", unfollowed := true, recurses := true, apart := false, narrowed := true }
def FnOpSizeUptoSaid : Prop := fnOpSizeUptoRow.holds Try.pinned (OpenSpec.upto fnOpSizeSpec)

/-- 'laws.FnOpTurn', WHERE WHAT IT READS IS OF BULK AT MOST 1048576: true; the input reads as it did. -/
def fnOpTurnUptoRow : OpenClaim := { program := "ytoifpgkfpdeglaa", sum := "e766c9d498d007f88fab1268f9bfa7afd013d00c8d5c316857e221eb9b5adc60", func := "loop.example/easel/laws.FnOpTurn", spec := "fnOpTurn", unfollowed := true, recurses := true, apart := false, narrowed := true }
def FnOpTurnUptoSaid : Prop := fnOpTurnUptoRow.holds Try.pinned (OpenSpec.upto fnOpTurnSpec)

/-- 'laws.FnOpEach', WHERE WHAT IT READS IS OF BULK AT MOST 1048576: true; the input reads as it did. -/
def fnOpEachUptoRow : OpenClaim := { program := "ytoifpgkfpdeglaa", sum := "e766c9d498d007f88fab1268f9bfa7afd013d00c8d5c316857e221eb9b5adc60", func := "loop.example/easel/laws.FnOpEach", spec := "fnOpEach", unfollowed := true, recurses := true, apart := false, narrowed := true }
def FnOpEachUptoSaid : Prop := fnOpEachUptoRow.holds Try.pinned (OpenSpec.upto fnOpEachSpec)

/-- 'laws.FnExactOpDo', WHERE WHAT IT READS IS OF BULK AT MOST 1048576: true; the input reads as it did. -/
def fnExactOpDoUptoRow : OpenClaim := { program := "ytoifpgkfpdeglaa", sum := "e766c9d498d007f88fab1268f9bfa7afd013d00c8d5c316857e221eb9b5adc60", func := "loop.example/easel/laws.FnExactOpDo", spec := "fnExactOpDo", unfollowed := true, recurses := true, apart := false, narrowed := true }
def FnExactOpDoUptoSaid : Prop := fnExactOpDoUptoRow.holds Try.pinned (OpenSpec.upto fnExactOpDoSpec)

/-- 'laws.FnOpsDo', WHERE WHAT IT READS IS OF BULK AT MOST 1048576: true; the input reads as it did. -/
def fnOpsDoUptoRow : OpenClaim := { program := "ytoifpgkfpdeglaa", sum := "e766c9d498d007f88fab1268f9bfa7afd013d00c8d5c316857e221eb9b5adc60", func := "loop.example/easel/laws.FnOpsDo", spec := "fnOpsDo", unfollowed := true, recurses := true, apart := false, narrowed := true }
def FnOpsDoUptoSaid : Prop := fnOpsDoUptoRow.holds Try.pinned (OpenSpec.upto fnOpsDoSpec)

/-- 'laws.FnExactOpsDo', WHERE WHAT IT READS IS OF BULK AT MOST 1048576: true; the input reads as it did. -/
def fnExactOpsDoUptoRow : OpenClaim := { program := "ytoifpgkfpdeglaa", sum := "e766c9d498d007f88fab1268f9bfa7afd013d00c8d5c316857e221eb9b5adc60", func := "loop.example/easel/laws.FnExactOpsDo", spec := "fnExactOpsDo", unfollowed := true, recurses := true, apart := false, narrowed := true }
def FnExactOpsDoUptoSaid : Prop := fnExactOpsDoUptoRow.holds Try.pinned (OpenSpec.upto fnExactOpsDoSpec)

end Rows
end Go.Proofs.Ytoifpgkfpdeglaa
