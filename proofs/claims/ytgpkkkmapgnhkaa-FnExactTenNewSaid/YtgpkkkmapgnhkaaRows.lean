/-
  No cell of these rows narrows 'for every input' (looked for: loops, veiled, ifaces, maps, wideKeys, modest, calm, conditions, laid).
  DERIVED. THE GIVEN ROWS OF THIS SEAT. 10 by the template 'for every input the law returns true; each argument reads behind the call as it read before'; 0 by the template 'total and deterministic' (their statements: YtgpkkkmapgnhkaaTotals.lean).
  GIVEN WITH THE SEED: the statements are not yours to turn. If you find one false, say at which input.
  Laid BY PROGRAM, IN A SANDBOX (cutbox-rows.mjs): the forced cells as the released guide's own fill.sh prints them over the translation a3a65f9c735845bb… (all of the seat's roots in one cut). By AI agents, Wed Nov 11 2026. No macro, syntax, notation, axiom, sorry.
-/
import Derived.Test.YtgpkkkmapgnhkaaChecked
import GoSem.Claim
import GoSem.ClaimJoined
import GoSem.ClaimMapViews
import Derived.JoinedTies
import Derived.KernelRfl
namespace Go.Proofs.Ytgpkkkmapgnhkaa
/- THE CELL 'sum', in the pinned program and in every row, IS THE sha256 OF THE DUMP (.gsa) THAT YtgpkkkmapgnhkaaProg.lean LOADS. Nothing in Lean hashes anything: it is a label: what it is worth is what the hold of that sum in a sandbox is worth. -/
noncomputable def Try.pinned : Pinned := { name := "ytgpkkkmapgnhkaa", sum := "a3a65f9c735845bbec14718a47a5e40e21597dd1c9a92f8d6b079b1cec3da266", checked := Try.checked }
namespace Rows
def none {H : Type} : Left H := { results := [], args := [] }

/-- 'laws.FnCfgOk': WHATEVER THE INPUT: true; the input reads as it did. -/
def fnCfgOkSpec : ChangeSpec := { name := "fnCfgOk", fn := fun _ => fun
  | [d] => { results := [.lit (.bool true)], args := [d] }
  | _ => none }
def fnCfgOkRow : OpenClaim := { program := "ytgpkkkmapgnhkaa", sum := "a3a65f9c735845bbec14718a47a5e40e21597dd1c9a92f8d6b079b1cec3da266", func := "loop.example/easel/laws.FnCfgOk", spec := "fnCfgOk", apart := false }
def FnCfgOkSaid : Prop := fnCfgOkRow.holds Try.pinned (OpenSpec.ofChange fnCfgOkSpec)

/-- ITS FALSE NEIGHBOUR: 'it returns false'. Refute it at one input. -/
def fnCfgOkWrong : ChangeSpec := { name := "fnCfgOk", fn := fun _ => fun
  | [d] => { results := [.lit (.bool false)], args := [d] }
  | _ => none }
def FnCfgOkWrongFalsely : Prop := fnCfgOkRow.holds Try.pinned (OpenSpec.ofChange fnCfgOkWrong)

/-- 'laws.FnExactCfgOk': WHATEVER THE INPUT: true; the input reads as it did. -/
def fnExactCfgOkSpec : ChangeSpec := { name := "fnExactCfgOk", fn := fun _ => fun
  | [d] => { results := [.lit (.bool true)], args := [d] }
  | _ => none }
def fnExactCfgOkRow : OpenClaim := { program := "ytgpkkkmapgnhkaa", sum := "a3a65f9c735845bbec14718a47a5e40e21597dd1c9a92f8d6b079b1cec3da266", func := "loop.example/easel/laws.FnExactCfgOk", spec := "fnExactCfgOk", apart := false }
def FnExactCfgOkSaid : Prop := fnExactCfgOkRow.holds Try.pinned (OpenSpec.ofChange fnExactCfgOkSpec)

/-- ITS FALSE NEIGHBOUR: 'it returns false'. Refute it at one input. -/
def fnExactCfgOkWrong : ChangeSpec := { name := "fnExactCfgOk", fn := fun _ => fun
  | [d] => { results := [.lit (.bool false)], args := [d] }
  | _ => none }
def FnExactCfgOkWrongFalsely : Prop := fnExactCfgOkRow.holds Try.pinned (OpenSpec.ofChange fnExactCfgOkWrong)

/-- 'laws.FnExactAskOk': WHATEVER THE INPUT: true; the input reads as it did. -/
def fnExactAskOkSpec : ChangeSpec := { name := "fnExactAskOk", fn := fun _ => fun
  | [d] => { results := [.lit (.bool true)], args := [d] }
  | _ => none }
def fnExactAskOkRow : OpenClaim := { program := "ytgpkkkmapgnhkaa", sum := "a3a65f9c735845bbec14718a47a5e40e21597dd1c9a92f8d6b079b1cec3da266", func := "loop.example/easel/laws.FnExactAskOk", spec := "fnExactAskOk", apart := false }
def FnExactAskOkSaid : Prop := fnExactAskOkRow.holds Try.pinned (OpenSpec.ofChange fnExactAskOkSpec)

/-- ITS FALSE NEIGHBOUR: 'it returns false'. Refute it at one input. -/
def fnExactAskOkWrong : ChangeSpec := { name := "fnExactAskOk", fn := fun _ => fun
  | [d] => { results := [.lit (.bool false)], args := [d] }
  | _ => none }
def FnExactAskOkWrongFalsely : Prop := fnExactAskOkRow.holds Try.pinned (OpenSpec.ofChange fnExactAskOkWrong)

/-- 'laws.FnAskOk': WHATEVER THE INPUT: true; the input reads as it did. -/
def fnAskOkSpec : ChangeSpec := { name := "fnAskOk", fn := fun _ => fun
  | [d] => { results := [.lit (.bool true)], args := [d] }
  | _ => none }
def fnAskOkRow : OpenClaim := { program := "ytgpkkkmapgnhkaa", sum := "a3a65f9c735845bbec14718a47a5e40e21597dd1c9a92f8d6b079b1cec3da266", func := "loop.example/easel/laws.FnAskOk", spec := "fnAskOk", apart := false }
def FnAskOkSaid : Prop := fnAskOkRow.holds Try.pinned (OpenSpec.ofChange fnAskOkSpec)

/-- ITS FALSE NEIGHBOUR: 'it returns false'. Refute it at one input. -/
def fnAskOkWrong : ChangeSpec := { name := "fnAskOk", fn := fun _ => fun
  | [d] => { results := [.lit (.bool false)], args := [d] }
  | _ => none }
def FnAskOkWrongFalsely : Prop := fnAskOkRow.holds Try.pinned (OpenSpec.ofChange fnAskOkWrong)

/-- 'laws.FnExactHouOf': WHATEVER THE INPUT: true; the input reads as it did. -/
def fnExactHouOfSpec : ChangeSpec := { name := "fnExactHouOf", fn := fun _ => fun
  | [d1, d2] => { results := [.lit (.bool true)], args := [d1, d2] }
  | _ => none }
def fnExactHouOfRow : OpenClaim := { program := "ytgpkkkmapgnhkaa", sum := "a3a65f9c735845bbec14718a47a5e40e21597dd1c9a92f8d6b079b1cec3da266", func := "loop.example/easel/laws.FnExactHouOf", spec := "fnExactHouOf", apart := false }
def FnExactHouOfSaid : Prop := fnExactHouOfRow.holds Try.pinned (OpenSpec.ofChange fnExactHouOfSpec)

/-- ITS FALSE NEIGHBOUR: 'it returns false'. Refute it at one input. -/
def fnExactHouOfWrong : ChangeSpec := { name := "fnExactHouOf", fn := fun _ => fun
  | [d1, d2] => { results := [.lit (.bool false)], args := [d1, d2] }
  | _ => none }
def FnExactHouOfWrongFalsely : Prop := fnExactHouOfRow.holds Try.pinned (OpenSpec.ofChange fnExactHouOfWrong)

/-- 'laws.FnTenNew': WHATEVER THE INPUT: true; the input reads as it did. -/
def fnTenNewSpec : ChangeSpec := { name := "fnTenNew", fn := fun _ => fun
  | [d] => { results := [.lit (.bool true)], args := [d] }
  | _ => none }
def fnTenNewRow : OpenClaim := { program := "ytgpkkkmapgnhkaa", sum := "a3a65f9c735845bbec14718a47a5e40e21597dd1c9a92f8d6b079b1cec3da266", func := "loop.example/easel/laws.FnTenNew", spec := "fnTenNew", apart := false }
def FnTenNewSaid : Prop := fnTenNewRow.holds Try.pinned (OpenSpec.ofChange fnTenNewSpec)

/-- ITS FALSE NEIGHBOUR: 'it returns false'. Refute it at one input. -/
def fnTenNewWrong : ChangeSpec := { name := "fnTenNew", fn := fun _ => fun
  | [d] => { results := [.lit (.bool false)], args := [d] }
  | _ => none }
def FnTenNewWrongFalsely : Prop := fnTenNewRow.holds Try.pinned (OpenSpec.ofChange fnTenNewWrong)

/-- 'laws.FnExactTenNew': WHATEVER THE INPUT: true; the input reads as it did. -/
def fnExactTenNewSpec : ChangeSpec := { name := "fnExactTenNew", fn := fun _ => fun
  | [d] => { results := [.lit (.bool true)], args := [d] }
  | _ => none }
def fnExactTenNewRow : OpenClaim := { program := "ytgpkkkmapgnhkaa", sum := "a3a65f9c735845bbec14718a47a5e40e21597dd1c9a92f8d6b079b1cec3da266", func := "loop.example/easel/laws.FnExactTenNew", spec := "fnExactTenNew", apart := false }
def FnExactTenNewSaid : Prop := fnExactTenNewRow.holds Try.pinned (OpenSpec.ofChange fnExactTenNewSpec)

/-- ITS FALSE NEIGHBOUR: 'it returns false'. Refute it at one input. -/
def fnExactTenNewWrong : ChangeSpec := { name := "fnExactTenNew", fn := fun _ => fun
  | [d] => { results := [.lit (.bool false)], args := [d] }
  | _ => none }
def FnExactTenNewWrongFalsely : Prop := fnExactTenNewRow.holds Try.pinned (OpenSpec.ofChange fnExactTenNewWrong)

/-- 'laws.FnExactHouNew': WHATEVER THE INPUT: true; the input reads as it did. -/
def fnExactHouNewSpec : ChangeSpec := { name := "fnExactHouNew", fn := fun _ => fun
  | [d] => { results := [.lit (.bool true)], args := [d] }
  | _ => none }
def fnExactHouNewRow : OpenClaim := { program := "ytgpkkkmapgnhkaa", sum := "a3a65f9c735845bbec14718a47a5e40e21597dd1c9a92f8d6b079b1cec3da266", func := "loop.example/easel/laws.FnExactHouNew", spec := "fnExactHouNew", apart := false }
def FnExactHouNewSaid : Prop := fnExactHouNewRow.holds Try.pinned (OpenSpec.ofChange fnExactHouNewSpec)

/-- ITS FALSE NEIGHBOUR: 'it returns false'. Refute it at one input. -/
def fnExactHouNewWrong : ChangeSpec := { name := "fnExactHouNew", fn := fun _ => fun
  | [d] => { results := [.lit (.bool false)], args := [d] }
  | _ => none }
def FnExactHouNewWrongFalsely : Prop := fnExactHouNewRow.holds Try.pinned (OpenSpec.ofChange fnExactHouNewWrong)

/-- 'laws.FnExactTenOk': WHATEVER THE INPUT: true; the input reads as it did. -/
def fnExactTenOkSpec : ChangeSpec := { name := "fnExactTenOk", fn := fun _ => fun
  | [d1, d2] => { results := [.lit (.bool true)], args := [d1, d2] }
  | _ => none }
def fnExactTenOkRow : OpenClaim := { program := "ytgpkkkmapgnhkaa", sum := "a3a65f9c735845bbec14718a47a5e40e21597dd1c9a92f8d6b079b1cec3da266", func := "loop.example/easel/laws.FnExactTenOk", spec := "fnExactTenOk", apart := false }
def FnExactTenOkSaid : Prop := fnExactTenOkRow.holds Try.pinned (OpenSpec.ofChange fnExactTenOkSpec)

/-- ITS FALSE NEIGHBOUR: 'it returns false'. Refute it at one input. -/
def fnExactTenOkWrong : ChangeSpec := { name := "fnExactTenOk", fn := fun _ => fun
  | [d1, d2] => { results := [.lit (.bool false)], args := [d1, d2] }
  | _ => none }
def FnExactTenOkWrongFalsely : Prop := fnExactTenOkRow.holds Try.pinned (OpenSpec.ofChange fnExactTenOkWrong)

/-- 'laws.FnExactHouOk': WHATEVER THE INPUT: true; the input reads as it did. -/
def fnExactHouOkSpec : ChangeSpec := { name := "fnExactHouOk", fn := fun _ => fun
  | [d1, d2] => { results := [.lit (.bool true)], args := [d1, d2] }
  | _ => none }
def fnExactHouOkRow : OpenClaim := { program := "ytgpkkkmapgnhkaa", sum := "a3a65f9c735845bbec14718a47a5e40e21597dd1c9a92f8d6b079b1cec3da266", func := "loop.example/easel/laws.FnExactHouOk", spec := "fnExactHouOk", apart := false }
def FnExactHouOkSaid : Prop := fnExactHouOkRow.holds Try.pinned (OpenSpec.ofChange fnExactHouOkSpec)

/-- ITS FALSE NEIGHBOUR: 'it returns false'. Refute it at one input. -/
def fnExactHouOkWrong : ChangeSpec := { name := "fnExactHouOk", fn := fun _ => fun
  | [d1, d2] => { results := [.lit (.bool false)], args := [d1, d2] }
  | _ => none }
def FnExactHouOkWrongFalsely : Prop := fnExactHouOkRow.holds Try.pinned (OpenSpec.ofChange fnExactHouOkWrong)

/- THE SECOND FORM. 'bulk': how many values and letters a reading holds, each counted each time it is reached (what is shared counts as often as it is met; a slice's spare places count too). A statement '..UptoSaid' is the law's where the arguments, and the package variables that the reading takes, are together of bulk at most 1048576: NARROWER than '..Said'. Prove '..Said' where nothing that the law and all that it calls make is longer than what came in: it says more and counts as full. Else prove '..UptoSaid'. A law counts once. -/
mutual
def uptoBulk {H : Type} : DataW H → Nat
  | .lit (.string bytes) => bytes.length + 1
  | .lit _ => 1
  | .nil => 1
  | .ptr d => uptoBulk d + 1
  | .slice elems spare => uptoBulkAll elems + uptoBulkAll spare + 1
  | .agg parts => uptoBulkAll parts + 1
  | .iface _ d => uptoBulk d + 1
  | .map entries => uptoBulkEntries entries + 1
  | .held _ => 1
def uptoBulkAll {H : Type} : List (DataW H) → Nat
  | [] => 0
  | d :: r => uptoBulk d + uptoBulkAll r
def uptoBulkEntries {H : Type} : List (Lit × DataW H) → Nat
  | [] => 0
  | x :: r => uptoBulkEntry x + uptoBulkEntries r
def uptoBulkEntry {H : Type} : Lit × DataW H → Nat
  | (.string bytes, d) => bytes.length + uptoBulk d + 1
  | (_, d) => uptoBulk d + 1
 end
def uptoSmall : (H : Type) → List (DataW H) → Bool := fun _ ds => decide (uptoBulkAll ds ≤ 1048576)
def OpenSpec.upto (s : _root_.Go.ChangeSpec) : _root_.Go.OpenSpec := { _root_.Go.OpenSpec.ofChange s with cond := some uptoSmall }

/-- 'laws.FnCfgOk', WHERE WHAT IT READS IS OF BULK AT MOST 1048576: true; the input reads as it did. -/
def fnCfgOkUptoRow : OpenClaim := { program := "ytgpkkkmapgnhkaa", sum := "a3a65f9c735845bbec14718a47a5e40e21597dd1c9a92f8d6b079b1cec3da266", func := "loop.example/easel/laws.FnCfgOk", spec := "fnCfgOk", apart := false, narrowed := true }
def FnCfgOkUptoSaid : Prop := fnCfgOkUptoRow.holds Try.pinned (OpenSpec.upto fnCfgOkSpec)

/-- 'laws.FnExactCfgOk', WHERE WHAT IT READS IS OF BULK AT MOST 1048576: true; the input reads as it did. -/
def fnExactCfgOkUptoRow : OpenClaim := { program := "ytgpkkkmapgnhkaa", sum := "a3a65f9c735845bbec14718a47a5e40e21597dd1c9a92f8d6b079b1cec3da266", func := "loop.example/easel/laws.FnExactCfgOk", spec := "fnExactCfgOk", apart := false, narrowed := true }
def FnExactCfgOkUptoSaid : Prop := fnExactCfgOkUptoRow.holds Try.pinned (OpenSpec.upto fnExactCfgOkSpec)

/-- 'laws.FnExactAskOk', WHERE WHAT IT READS IS OF BULK AT MOST 1048576: true; the input reads as it did. -/
def fnExactAskOkUptoRow : OpenClaim := { program := "ytgpkkkmapgnhkaa", sum := "a3a65f9c735845bbec14718a47a5e40e21597dd1c9a92f8d6b079b1cec3da266", func := "loop.example/easel/laws.FnExactAskOk", spec := "fnExactAskOk", apart := false, narrowed := true }
def FnExactAskOkUptoSaid : Prop := fnExactAskOkUptoRow.holds Try.pinned (OpenSpec.upto fnExactAskOkSpec)

/-- 'laws.FnAskOk', WHERE WHAT IT READS IS OF BULK AT MOST 1048576: true; the input reads as it did. -/
def fnAskOkUptoRow : OpenClaim := { program := "ytgpkkkmapgnhkaa", sum := "a3a65f9c735845bbec14718a47a5e40e21597dd1c9a92f8d6b079b1cec3da266", func := "loop.example/easel/laws.FnAskOk", spec := "fnAskOk", apart := false, narrowed := true }
def FnAskOkUptoSaid : Prop := fnAskOkUptoRow.holds Try.pinned (OpenSpec.upto fnAskOkSpec)

/-- 'laws.FnExactHouOf', WHERE WHAT IT READS IS OF BULK AT MOST 1048576: true; the input reads as it did. -/
def fnExactHouOfUptoRow : OpenClaim := { program := "ytgpkkkmapgnhkaa", sum := "a3a65f9c735845bbec14718a47a5e40e21597dd1c9a92f8d6b079b1cec3da266", func := "loop.example/easel/laws.FnExactHouOf", spec := "fnExactHouOf", apart := false, narrowed := true }
def FnExactHouOfUptoSaid : Prop := fnExactHouOfUptoRow.holds Try.pinned (OpenSpec.upto fnExactHouOfSpec)

/-- 'laws.FnTenNew', WHERE WHAT IT READS IS OF BULK AT MOST 1048576: true; the input reads as it did. -/
def fnTenNewUptoRow : OpenClaim := { program := "ytgpkkkmapgnhkaa", sum := "a3a65f9c735845bbec14718a47a5e40e21597dd1c9a92f8d6b079b1cec3da266", func := "loop.example/easel/laws.FnTenNew", spec := "fnTenNew", apart := false, narrowed := true }
def FnTenNewUptoSaid : Prop := fnTenNewUptoRow.holds Try.pinned (OpenSpec.upto fnTenNewSpec)

/-- 'laws.FnExactTenNew', WHERE WHAT IT READS IS OF BULK AT MOST 1048576: true; the input reads as it did. -/
def fnExactTenNewUptoRow : OpenClaim := { program := "ytgpkkkmapgnhkaa", sum := "a3a65f9c735845bbec14718a47a5e40e21597dd1c9a92f8d6b079b1cec3da266", func := "loop.example/easel/laws.FnExactTenNew", spec := "fnExactTenNew", apart := false, narrowed := true }
def FnExactTenNewUptoSaid : Prop := fnExactTenNewUptoRow.holds Try.pinned (OpenSpec.upto fnExactTenNewSpec)

/-- 'laws.FnExactHouNew', WHERE WHAT IT READS IS OF BULK AT MOST 1048576: true; the input reads as it did. -/
def fnExactHouNewUptoRow : OpenClaim := { program := "ytgpkkkmapgnhkaa", sum := "a3a65f9c735845bbec14718a47a5e40e21597dd1c9a92f8d6b079b1cec3da266", func := "loop.example/easel/laws.FnExactHouNew", spec := "fnExactHouNew", apart := false, narrowed := true }
def FnExactHouNewUptoSaid : Prop := fnExactHouNewUptoRow.holds Try.pinned (OpenSpec.upto fnExactHouNewSpec)

/-- 'laws.FnExactTenOk', WHERE WHAT IT READS IS OF BULK AT MOST 1048576: true; the input reads as it did. -/
def fnExactTenOkUptoRow : OpenClaim := { program := "ytgpkkkmapgnhkaa", sum := "a3a65f9c735845bbec14718a47a5e40e21597dd1c9a92f8d6b079b1cec3da266", func := "loop.example/easel/laws.FnExactTenOk", spec := "fnExactTenOk", apart := false, narrowed := true }
def FnExactTenOkUptoSaid : Prop := fnExactTenOkUptoRow.holds Try.pinned (OpenSpec.upto fnExactTenOkSpec)

/-- 'laws.FnExactHouOk', WHERE WHAT IT READS IS OF BULK AT MOST 1048576: true; the input reads as it did. -/
def fnExactHouOkUptoRow : OpenClaim := { program := "ytgpkkkmapgnhkaa", sum := "a3a65f9c735845bbec14718a47a5e40e21597dd1c9a92f8d6b079b1cec3da266", func := "loop.example/easel/laws.FnExactHouOk", spec := "fnExactHouOk", apart := false, narrowed := true }
def FnExactHouOkUptoSaid : Prop := fnExactHouOkUptoRow.holds Try.pinned (OpenSpec.upto fnExactHouOkSpec)

end Rows
end Go.Proofs.Ytgpkkkmapgnhkaa
