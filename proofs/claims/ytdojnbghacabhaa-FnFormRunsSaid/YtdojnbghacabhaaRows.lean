/-
  No cell of these rows narrows 'for every input' (looked for: loops, veiled, ifaces, maps, wideKeys, modest, calm, conditions, laid).
  DERIVED. THE GIVEN ROWS OF THIS SEAT. 5 by the template 'for every input the law returns true; each argument reads behind the call as it read before'; 0 by the template 'total and deterministic' (their statements: YtdojnbghacabhaaTotals.lean).
  GIVEN WITH THE SEED: the statements are not yours to turn. If you find one false, say at which input.
  Laid BY PROGRAM, IN A SANDBOX (cutbox-rows.mjs): the forced cells as the released guide's own fill.sh prints them over the translation 4ba7f8ef0a1b3f51… (all of the seat's roots in one cut). By AI agents, Wed Nov 11 2026. No macro, syntax, notation, axiom, sorry.
-/
import Derived.Test.YtdojnbghacabhaaChecked
import GoSem.Claim
import GoSem.ClaimJoined
import GoSem.ClaimMapViews
import Derived.JoinedTies
import Derived.KernelRfl
namespace Go.Proofs.Ytdojnbghacabhaa
/- THE CELL 'sum', in the pinned program and in every row, IS THE sha256 OF THE DUMP (.gsa) THAT YtdojnbghacabhaaProg.lean LOADS. Nothing in Lean hashes anything: it is a label: what it is worth is what the hold of that sum in a sandbox is worth. -/
noncomputable def Try.pinned : Pinned := { name := "ytdojnbghacabhaa", sum := "4ba7f8ef0a1b3f518660d07a78cb38ebb8cea4de0555113f5019d469b073fdd6", checked := Try.checked }
namespace Rows
def none {H : Type} : Left H := { results := [], args := [] }

/-- 'laws.FnFormRuns': WHATEVER THE INPUT: true; the input reads as it did. -/
def fnFormRunsSpec : ChangeSpec := { name := "fnFormRuns", fn := fun _ => fun
  | [d] => { results := [.lit (.bool true)], args := [d] }
  | _ => none }
def fnFormRunsRow : OpenClaim := { program := "ytdojnbghacabhaa", sum := "4ba7f8ef0a1b3f518660d07a78cb38ebb8cea4de0555113f5019d469b073fdd6", func := "loop.example/easel/laws.FnFormRuns", spec := "fnFormRuns", unfollowed := true, recurses := true, apart := false }
def FnFormRunsSaid : Prop := fnFormRunsRow.holds Try.pinned (OpenSpec.ofChange fnFormRunsSpec)

/-- ITS FALSE NEIGHBOUR: 'it returns false'. Refute it at one input. -/
def fnFormRunsWrong : ChangeSpec := { name := "fnFormRuns", fn := fun _ => fun
  | [d] => { results := [.lit (.bool false)], args := [d] }
  | _ => none }
def FnFormRunsWrongFalsely : Prop := fnFormRunsRow.holds Try.pinned (OpenSpec.ofChange fnFormRunsWrong)

/-- 'laws.FnFormLong': WHATEVER THE INPUT: true; the input reads as it did. -/
def fnFormLongSpec : ChangeSpec := { name := "fnFormLong", fn := fun _ => fun
  | [d] => { results := [.lit (.bool true)], args := [d] }
  | _ => none }
def fnFormLongRow : OpenClaim := { program := "ytdojnbghacabhaa", sum := "4ba7f8ef0a1b3f518660d07a78cb38ebb8cea4de0555113f5019d469b073fdd6", func := "loop.example/easel/laws.FnFormLong", spec := "fnFormLong", unfollowed := true, recurses := true, apart := false }
def FnFormLongSaid : Prop := fnFormLongRow.holds Try.pinned (OpenSpec.ofChange fnFormLongSpec)

/-- ITS FALSE NEIGHBOUR: 'it returns false'. Refute it at one input. -/
def fnFormLongWrong : ChangeSpec := { name := "fnFormLong", fn := fun _ => fun
  | [d] => { results := [.lit (.bool false)], args := [d] }
  | _ => none }
def FnFormLongWrongFalsely : Prop := fnFormLongRow.holds Try.pinned (OpenSpec.ofChange fnFormLongWrong)

/-- 'laws.FnRasApart': WHATEVER THE INPUT: true; the input reads as it did. -/
def fnRasApartSpec : ChangeSpec := { name := "fnRasApart", fn := fun _ => fun
  | [d1, d2] => { results := [.lit (.bool true)], args := [d1, d2] }
  | _ => none }
def fnRasApartRow : OpenClaim := { program := "ytdojnbghacabhaa", sum := "4ba7f8ef0a1b3f518660d07a78cb38ebb8cea4de0555113f5019d469b073fdd6", func := "loop.example/easel/laws.FnRasApart", spec := "fnRasApart", unfollowed := true, recurses := true, apart := false }
def FnRasApartSaid : Prop := fnRasApartRow.holds Try.pinned (OpenSpec.ofChange fnRasApartSpec)

/-- ITS FALSE NEIGHBOUR: 'it returns false'. Refute it at one input. -/
def fnRasApartWrong : ChangeSpec := { name := "fnRasApart", fn := fun _ => fun
  | [d1, d2] => { results := [.lit (.bool false)], args := [d1, d2] }
  | _ => none }
def FnRasApartWrongFalsely : Prop := fnRasApartRow.holds Try.pinned (OpenSpec.ofChange fnRasApartWrong)

/-- 'laws.FnExactFormPut': WHATEVER THE INPUT: true; the input reads as it did. -/
def fnExactFormPutSpec : ChangeSpec := { name := "fnExactFormPut", fn := fun _ => fun
  | [d] => { results := [.lit (.bool true)], args := [d] }
  | _ => none }
def fnExactFormPutRow : OpenClaim := { program := "ytdojnbghacabhaa", sum := "4ba7f8ef0a1b3f518660d07a78cb38ebb8cea4de0555113f5019d469b073fdd6", func := "loop.example/easel/laws.FnExactFormPut", spec := "fnExactFormPut", unfollowed := true, recurses := true, apart := false }
def FnExactFormPutSaid : Prop := fnExactFormPutRow.holds Try.pinned (OpenSpec.ofChange fnExactFormPutSpec)

/-- ITS FALSE NEIGHBOUR: 'it returns false'. Refute it at one input. -/
def fnExactFormPutWrong : ChangeSpec := { name := "fnExactFormPut", fn := fun _ => fun
  | [d] => { results := [.lit (.bool false)], args := [d] }
  | _ => none }
def FnExactFormPutWrongFalsely : Prop := fnExactFormPutRow.holds Try.pinned (OpenSpec.ofChange fnExactFormPutWrong)

/-- 'laws.FnExactFormWrite': WHATEVER THE INPUT: true; the input reads as it did. -/
def fnExactFormWriteSpec : ChangeSpec := { name := "fnExactFormWrite", fn := fun _ => fun
  | [d1, d2, d3] => { results := [.lit (.bool true)], args := [d1, d2, d3] }
  | _ => none }
def fnExactFormWriteRow : OpenClaim := { program := "ytdojnbghacabhaa", sum := "4ba7f8ef0a1b3f518660d07a78cb38ebb8cea4de0555113f5019d469b073fdd6", func := "loop.example/easel/laws.FnExactFormWrite", spec := "fnExactFormWrite", unfollowed := true, recurses := true, apart := false }
def FnExactFormWriteSaid : Prop := fnExactFormWriteRow.holds Try.pinned (OpenSpec.ofChange fnExactFormWriteSpec)

/-- ITS FALSE NEIGHBOUR: 'it returns false'. Refute it at one input. -/
def fnExactFormWriteWrong : ChangeSpec := { name := "fnExactFormWrite", fn := fun _ => fun
  | [d1, d2, d3] => { results := [.lit (.bool false)], args := [d1, d2, d3] }
  | _ => none }
def FnExactFormWriteWrongFalsely : Prop := fnExactFormWriteRow.holds Try.pinned (OpenSpec.ofChange fnExactFormWriteWrong)

/- THE SECOND FORM. 'bulk': how many values and letters a reading holds, each counted each time it is reached (what is shared counts as often as it is met; a slice's spare places count too). A statement '..UptoSaid' is the law's where the arguments, and the package variables that the reading takes, are together of bulk at most 1048576: NARROWER than '..Said'. Prove '..Said' where nothing that the law and all that it calls make is longer than what came in: it says more and counts as full. Else prove '..UptoSaid'. A law counts once. -/
mutual
def uptoBulk {H : Type} : DataW H → Nat
  | .lit (.string bytes) => bytes.length + 1
  | .lit _ => 1
  | .nil => 1
  | .ptr d => uptoBulk d + 1
  | .slice elems spare => uptoBulkAll elems + uptoBulkAll spare + 1
  | .agg parts => uptoBulkAll parts + 1
  | .iface _ d => uptoBulk d + 1
  | .map entries => uptoBulkEntries entries + 1
  | .held _ => 1
def uptoBulkAll {H : Type} : List (DataW H) → Nat
  | [] => 0
  | d :: r => uptoBulk d + uptoBulkAll r
def uptoBulkEntries {H : Type} : List (Lit × DataW H) → Nat
  | [] => 0
  | x :: r => uptoBulkEntry x + uptoBulkEntries r
def uptoBulkEntry {H : Type} : Lit × DataW H → Nat
  | (.string bytes, d) => bytes.length + uptoBulk d + 1
  | (_, d) => uptoBulk d + 1
 end
def uptoSmall : (H : Type) → List (DataW H) → Bool := fun _ ds => decide (uptoBulkAll ds ≤ 1048576)
def OpenSpec.upto (s : _root_.Go.ChangeSpec) : _root_.Go.OpenSpec := { _root_.Go.OpenSpec.ofChange s with cond := some uptoSmall }

/-- 'laws.FnFormRuns', WHERE WHAT IT READS IS OF BULK AT MOST 1048576: true; the input reads as it did. -/
def fnFormRunsUptoRow : OpenClaim := { program := "ytdojnbghacabhaa", sum := "4ba7f8ef0a1b3f518660d07a78cb38ebb8cea4de0555113f5019d469b073fdd6", func := "loop.example/easel/laws.FnFormRuns", spec := "fnFormRuns", unfollowed := true, recurses := true, apart := false, narrowed := true }
def FnFormRunsUptoSaid : Prop := fnFormRunsUptoRow.holds Try.pinned (OpenSpec.upto fnFormRunsSpec)

/-- 'laws.FnFormLong', WHERE WHAT IT READS IS OF BULK AT MOST 1048576: true; the input reads as it did. -/
def fnFormLongUptoRow : OpenClaim := { program := "ytdojnbghacabhaa", sum := "4ba7f8ef0a1b3f518660d07a78cb38ebb8cea4de0555113f5019d469b073fdd6", func := "loop.example/easel/laws.FnFormLong", spec := "fnFormLong", unfollowed := true, recurses := true, apart := false, narrowed := true }
def FnFormLongUptoSaid : Prop := fnFormLongUptoRow.holds Try.pinned (OpenSpec.upto fnFormLongSpec)

/-- 'laws.FnRasApart', WHERE WHAT IT READS IS OF BULK AT MOST 1048576: true; the input reads as it did. -/
def fnRasApartUptoRow : OpenClaim := { program := "ytdojnbghacabhaa", sum := "4ba7f8ef0a1b3f518660d07a78cb38ebb8cea4de0555113f5019d469b073fdd6", func := "loop.example/easel/laws.FnRasApart", spec := "fnRasApart", unfollowed := true, recurses := true, apart := false, narrowed := true }
def FnRasApartUptoSaid : Prop := fnRasApartUptoRow.holds Try.pinned (OpenSpec.upto fnRasApartSpec)

/-- 'laws.FnExactFormPut', WHERE WHAT IT READS IS OF BULK AT MOST 1048576: true; the input reads as it did. -/
def fnExactFormPutUptoRow : OpenClaim := { program := "ytdojnbghacabhaa", sum := "4ba7f8ef0a1b3f518660d07a78cb38ebb8cea4de0555113f5019d469b073fdd6", func := "loop.example/easel/laws.FnExactFormPut", spec := "fnExactFormPut", unfollowed := true, recurses := true, apart := false, narrowed := true }
def FnExactFormPutUptoSaid : Prop := fnExactFormPutUptoRow.holds Try.pinned (OpenSpec.upto fnExactFormPutSpec)

/-- 'laws.FnExactFormWrite', WHERE WHAT IT READS IS OF BULK AT MOST 1048576: true; the input reads as it did. -/
def fnExactFormWriteUptoRow : OpenClaim := { program := "ytdojnbghacabhaa", sum := "4ba7f8ef0a1b3f518660d07a78cb38ebb8cea4de0555113f5019d469b073fdd6", func := "loop.example/easel/laws.FnExactFormWrite", spec := "fnExactFormWrite", unfollowed := true, recurses := true, apart := false, narrowed := true }
def FnExactFormWriteUptoSaid : Prop := fnExactFormWriteUptoRow.holds Try.pinned (OpenSpec.upto fnExactFormWriteSpec)

end Rows
end Go.Proofs.Ytdojnbghacabhaa
