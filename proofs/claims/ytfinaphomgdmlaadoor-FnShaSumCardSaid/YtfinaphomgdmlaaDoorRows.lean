/-
  NARROWER THAN 'FOR EVERY INPUT', by the rows' own cells (each row's printed sentence says how): FnExactShaSum: laid · FnShaSum: laid · FnExactShaMac: laid · FnMacKey: laid · FnShaMac: laid.
  DERIVED. THE GIVEN ROWS OF THIS SEAT. 5 by the template 'for every input the law returns true; each argument reads behind the call as it read before'; 0 by the template 'total and deterministic' (their statements: YtfinaphomgdmlaaDoorTotals.lean).
  GIVEN WITH THE SEED: the statements are not yours to turn. If you find one false, say at which input.
  Laid BY PROGRAM, IN A SANDBOX (cutbox-rows.mjs): the forced cells as the released guide's own fill.sh prints them over the translation 26df1c390303c364… (all of the seat's roots in one cut). By AI agents, Wed Nov 11 2026. No macro, syntax, notation, axiom, sorry.
-/
import Derived.Test.YtfinaphomgdmlaaDoorChecked
import GoSem.Claim
import GoSem.ClaimJoined
import GoSem.ClaimMapViews
import Derived.JoinedTies
import Derived.KernelRfl
namespace Go.Proofs.YtfinaphomgdmlaaDoor
/- THE CELL 'sum', in the pinned program and in every row, IS THE sha256 OF THE DUMP (.gsa) THAT YtfinaphomgdmlaaDoorProg.lean LOADS. Nothing in Lean hashes anything: it is a label: what it is worth is what the hold of that sum in a sandbox is worth. -/
noncomputable def Tryd.pinned : Pinned := { name := "ytfinaphomgdmlaadoor", sum := "26df1c390303c3646bc0499f332eb2d3b44bc1d1419dc9a9632456594c6d60d2", checked := Tryd.checked }
namespace Rows
def none {H : Type} : Left H := { results := [], args := [] }

/- WHAT THE LISTED PACKAGE-LEVEL VARIABLES READ AS WHEN THE CALL BEGINS. Each datum BY PROGRAM (the guide's laid-datum.mjs) off the statement by which the dump's own 'gosem.cut.vars' lays the variable. In a bare row this is a premise. The card (YtfinaphomgdmlaaDoorCards.lean) ties it to the program's text. -/
def laid_loop_example_easel_impl_shaStart {H : Type} : DataW H := .agg [.lit (.int .u32 1779033703), .lit (.int .u32 3144134277), .lit (.int .u32 1013904242), .lit (.int .u32 2773480762), .lit (.int .u32 1359893119), .lit (.int .u32 2600822924), .lit (.int .u32 528734635), .lit (.int .u32 1541459225)]
def laid_loop_example_easel_impl_shaRounds {H : Type} : DataW H := .agg [.lit (.int .u32 1116352408), .lit (.int .u32 1899447441), .lit (.int .u32 3049323471), .lit (.int .u32 3921009573), .lit (.int .u32 961987163), .lit (.int .u32 1508970993), .lit (.int .u32 2453635748), .lit (.int .u32 2870763221), .lit (.int .u32 3624381080), .lit (.int .u32 310598401), .lit (.int .u32 607225278), .lit (.int .u32 1426881987), .lit (.int .u32 1925078388), .lit (.int .u32 2162078206), .lit (.int .u32 2614888103), .lit (.int .u32 3248222580), .lit (.int .u32 3835390401), .lit (.int .u32 4022224774), .lit (.int .u32 264347078), .lit (.int .u32 604807628), .lit (.int .u32 770255983), .lit (.int .u32 1249150122), .lit (.int .u32 1555081692), .lit (.int .u32 1996064986), .lit (.int .u32 2554220882), .lit (.int .u32 2821834349), .lit (.int .u32 2952996808), .lit (.int .u32 3210313671), .lit (.int .u32 3336571891), .lit (.int .u32 3584528711), .lit (.int .u32 113926993), .lit (.int .u32 338241895), .lit (.int .u32 666307205), .lit (.int .u32 773529912), .lit (.int .u32 1294757372), .lit (.int .u32 1396182291), .lit (.int .u32 1695183700), .lit (.int .u32 1986661051), .lit (.int .u32 2177026350), .lit (.int .u32 2456956037), .lit (.int .u32 2730485921), .lit (.int .u32 2820302411), .lit (.int .u32 3259730800), .lit (.int .u32 3345764771), .lit (.int .u32 3516065817), .lit (.int .u32 3600352804), .lit (.int .u32 4094571909), .lit (.int .u32 275423344), .lit (.int .u32 430227734), .lit (.int .u32 506948616), .lit (.int .u32 659060556), .lit (.int .u32 883997877), .lit (.int .u32 958139571), .lit (.int .u32 1322822218), .lit (.int .u32 1537002063), .lit (.int .u32 1747873779), .lit (.int .u32 1955562222), .lit (.int .u32 2024104815), .lit (.int .u32 2227730452), .lit (.int .u32 2361852424), .lit (.int .u32 2428436474), .lit (.int .u32 2756734187), .lit (.int .u32 3204031479), .lit (.int .u32 3329325298)]

/-- 'laws.FnExactShaSum': WHATEVER THE INPUT: true; the input reads as it did. -/
def fnExactShaSumSpec : ChangeSpec := { name := "fnExactShaSum", vars := ["loop.example/easel/impl.shaStart", "loop.example/easel/impl.shaRounds"], fn := fun _ => fun
  | [d, g1, g2] => { results := [.lit (.bool true)], args := [d], vars := [g1, g2] }
  | _ => none }
def fnExactShaSumRow : OpenClaim := { program := "ytfinaphomgdmlaadoor", sum := "26df1c390303c3646bc0499f332eb2d3b44bc1d1419dc9a9632456594c6d60d2", func := "loop.example/easel/laws.FnExactShaSum", spec := "fnExactShaSum", named := ["loop.example/easel/impl.shaStart", "loop.example/easel/impl.shaRounds"], apart := false, laid := [("loop.example/easel/impl.shaStart", laid_loop_example_easel_impl_shaStart), ("loop.example/easel/impl.shaRounds", laid_loop_example_easel_impl_shaRounds)] }
def FnExactShaSumSaid : Prop := fnExactShaSumRow.holds Tryd.pinned (OpenSpec.ofChange fnExactShaSumSpec)

/-- ITS FALSE NEIGHBOUR: 'it returns false'. Refute it at one input. -/
def fnExactShaSumWrong : ChangeSpec := { name := "fnExactShaSum", vars := ["loop.example/easel/impl.shaStart", "loop.example/easel/impl.shaRounds"], fn := fun _ => fun
  | [d, g1, g2] => { results := [.lit (.bool false)], args := [d], vars := [g1, g2] }
  | _ => none }
def FnExactShaSumWrongFalsely : Prop := fnExactShaSumRow.holds Tryd.pinned (OpenSpec.ofChange fnExactShaSumWrong)

/-- 'laws.FnShaSum': WHATEVER THE INPUT: true; the input reads as it did. -/
def fnShaSumSpec : ChangeSpec := { name := "fnShaSum", vars := ["loop.example/easel/impl.shaStart", "loop.example/easel/impl.shaRounds"], fn := fun _ => fun
  | [d, g1, g2] => { results := [.lit (.bool true)], args := [d], vars := [g1, g2] }
  | _ => none }
def fnShaSumRow : OpenClaim := { program := "ytfinaphomgdmlaadoor", sum := "26df1c390303c3646bc0499f332eb2d3b44bc1d1419dc9a9632456594c6d60d2", func := "loop.example/easel/laws.FnShaSum", spec := "fnShaSum", named := ["loop.example/easel/impl.shaStart", "loop.example/easel/impl.shaRounds"], apart := false, laid := [("loop.example/easel/impl.shaStart", laid_loop_example_easel_impl_shaStart), ("loop.example/easel/impl.shaRounds", laid_loop_example_easel_impl_shaRounds)] }
def FnShaSumSaid : Prop := fnShaSumRow.holds Tryd.pinned (OpenSpec.ofChange fnShaSumSpec)

/-- ITS FALSE NEIGHBOUR: 'it returns false'. Refute it at one input. -/
def fnShaSumWrong : ChangeSpec := { name := "fnShaSum", vars := ["loop.example/easel/impl.shaStart", "loop.example/easel/impl.shaRounds"], fn := fun _ => fun
  | [d, g1, g2] => { results := [.lit (.bool false)], args := [d], vars := [g1, g2] }
  | _ => none }
def FnShaSumWrongFalsely : Prop := fnShaSumRow.holds Tryd.pinned (OpenSpec.ofChange fnShaSumWrong)

/-- 'laws.FnExactShaMac': WHATEVER THE INPUT: true; the input reads as it did. -/
def fnExactShaMacSpec : ChangeSpec := { name := "fnExactShaMac", vars := ["loop.example/easel/impl.shaStart", "loop.example/easel/impl.shaRounds"], fn := fun _ => fun
  | [d1, d2, g1, g2] => { results := [.lit (.bool true)], args := [d1, d2], vars := [g1, g2] }
  | _ => none }
def fnExactShaMacRow : OpenClaim := { program := "ytfinaphomgdmlaadoor", sum := "26df1c390303c3646bc0499f332eb2d3b44bc1d1419dc9a9632456594c6d60d2", func := "loop.example/easel/laws.FnExactShaMac", spec := "fnExactShaMac", named := ["loop.example/easel/impl.shaStart", "loop.example/easel/impl.shaRounds"], apart := false, laid := [("loop.example/easel/impl.shaStart", laid_loop_example_easel_impl_shaStart), ("loop.example/easel/impl.shaRounds", laid_loop_example_easel_impl_shaRounds)] }
def FnExactShaMacSaid : Prop := fnExactShaMacRow.holds Tryd.pinned (OpenSpec.ofChange fnExactShaMacSpec)

/-- ITS FALSE NEIGHBOUR: 'it returns false'. Refute it at one input. -/
def fnExactShaMacWrong : ChangeSpec := { name := "fnExactShaMac", vars := ["loop.example/easel/impl.shaStart", "loop.example/easel/impl.shaRounds"], fn := fun _ => fun
  | [d1, d2, g1, g2] => { results := [.lit (.bool false)], args := [d1, d2], vars := [g1, g2] }
  | _ => none }
def FnExactShaMacWrongFalsely : Prop := fnExactShaMacRow.holds Tryd.pinned (OpenSpec.ofChange fnExactShaMacWrong)

/-- 'laws.FnMacKey': WHATEVER THE INPUT: true; the input reads as it did. -/
def fnMacKeySpec : ChangeSpec := { name := "fnMacKey", vars := ["loop.example/easel/impl.shaStart", "loop.example/easel/impl.shaRounds"], fn := fun _ => fun
  | [d, g1, g2] => { results := [.lit (.bool true)], args := [d], vars := [g1, g2] }
  | _ => none }
def fnMacKeyRow : OpenClaim := { program := "ytfinaphomgdmlaadoor", sum := "26df1c390303c3646bc0499f332eb2d3b44bc1d1419dc9a9632456594c6d60d2", func := "loop.example/easel/laws.FnMacKey", spec := "fnMacKey", named := ["loop.example/easel/impl.shaStart", "loop.example/easel/impl.shaRounds"], apart := false, laid := [("loop.example/easel/impl.shaStart", laid_loop_example_easel_impl_shaStart), ("loop.example/easel/impl.shaRounds", laid_loop_example_easel_impl_shaRounds)] }
def FnMacKeySaid : Prop := fnMacKeyRow.holds Tryd.pinned (OpenSpec.ofChange fnMacKeySpec)

/-- ITS FALSE NEIGHBOUR: 'it returns false'. Refute it at one input. -/
def fnMacKeyWrong : ChangeSpec := { name := "fnMacKey", vars := ["loop.example/easel/impl.shaStart", "loop.example/easel/impl.shaRounds"], fn := fun _ => fun
  | [d, g1, g2] => { results := [.lit (.bool false)], args := [d], vars := [g1, g2] }
  | _ => none }
def FnMacKeyWrongFalsely : Prop := fnMacKeyRow.holds Tryd.pinned (OpenSpec.ofChange fnMacKeyWrong)

/-- 'laws.FnShaMac': WHATEVER THE INPUT: true; the input reads as it did. -/
def fnShaMacSpec : ChangeSpec := { name := "fnShaMac", vars := ["loop.example/easel/impl.shaStart", "loop.example/easel/impl.shaRounds"], fn := fun _ => fun
  | [d, g1, g2] => { results := [.lit (.bool true)], args := [d], vars := [g1, g2] }
  | _ => none }
def fnShaMacRow : OpenClaim := { program := "ytfinaphomgdmlaadoor", sum := "26df1c390303c3646bc0499f332eb2d3b44bc1d1419dc9a9632456594c6d60d2", func := "loop.example/easel/laws.FnShaMac", spec := "fnShaMac", named := ["loop.example/easel/impl.shaStart", "loop.example/easel/impl.shaRounds"], apart := false, laid := [("loop.example/easel/impl.shaStart", laid_loop_example_easel_impl_shaStart), ("loop.example/easel/impl.shaRounds", laid_loop_example_easel_impl_shaRounds)] }
def FnShaMacSaid : Prop := fnShaMacRow.holds Tryd.pinned (OpenSpec.ofChange fnShaMacSpec)

/-- ITS FALSE NEIGHBOUR: 'it returns false'. Refute it at one input. -/
def fnShaMacWrong : ChangeSpec := { name := "fnShaMac", vars := ["loop.example/easel/impl.shaStart", "loop.example/easel/impl.shaRounds"], fn := fun _ => fun
  | [d, g1, g2] => { results := [.lit (.bool false)], args := [d], vars := [g1, g2] }
  | _ => none }
def FnShaMacWrongFalsely : Prop := fnShaMacRow.holds Tryd.pinned (OpenSpec.ofChange fnShaMacWrong)

/- THE SECOND FORM. 'bulk': how many values and letters a reading holds, each counted each time it is reached (what is shared counts as often as it is met; a slice's spare places count too). A statement '..UptoSaid' is the law's where the arguments, and the package variables that the reading takes, are together of bulk at most 1048576: NARROWER than '..Said'. Prove '..Said' where nothing that the law and all that it calls make is longer than what came in: it says more and counts as full. Else prove '..UptoSaid'. A law counts once. -/
mutual
def uptoBulk {H : Type} : DataW H → Nat
  | .lit (.string bytes) => bytes.length + 1
  | .lit _ => 1
  | .nil => 1
  | .ptr d => uptoBulk d + 1
  | .slice elems spare => uptoBulkAll elems + uptoBulkAll spare + 1
  | .agg parts => uptoBulkAll parts + 1
  | .iface _ d => uptoBulk d + 1
  | .map entries => uptoBulkEntries entries + 1
  | .held _ => 1
def uptoBulkAll {H : Type} : List (DataW H) → Nat
  | [] => 0
  | d :: r => uptoBulk d + uptoBulkAll r
def uptoBulkEntries {H : Type} : List (Lit × DataW H) → Nat
  | [] => 0
  | x :: r => uptoBulkEntry x + uptoBulkEntries r
def uptoBulkEntry {H : Type} : Lit × DataW H → Nat
  | (.string bytes, d) => bytes.length + uptoBulk d + 1
  | (_, d) => uptoBulk d + 1
 end
def uptoSmall : (H : Type) → List (DataW H) → Bool := fun _ ds => decide (uptoBulkAll ds ≤ 1048576)
def OpenSpec.upto (s : _root_.Go.ChangeSpec) : _root_.Go.OpenSpec := { _root_.Go.OpenSpec.ofChange s with cond := some uptoSmall }

/-- 'laws.FnExactShaSum', WHERE WHAT IT READS IS OF BULK AT MOST 1048576: true; the input reads as it did. -/
def fnExactShaSumUptoRow : OpenClaim := { program := "ytfinaphomgdmlaadoor", sum := "26df1c390303c3646bc0499f332eb2d3b44bc1d1419dc9a9632456594c6d60d2", func := "loop.example/easel/laws.FnExactShaSum", spec := "fnExactShaSum", named := ["loop.example/easel/impl.shaStart", "loop.example/easel/impl.shaRounds"], apart := false, laid := [("loop.example/easel/impl.shaStart", laid_loop_example_easel_impl_shaStart), ("loop.example/easel/impl.shaRounds", laid_loop_example_easel_impl_shaRounds)], narrowed := true }
def FnExactShaSumUptoSaid : Prop := fnExactShaSumUptoRow.holds Tryd.pinned (OpenSpec.upto fnExactShaSumSpec)

/-- 'laws.FnShaSum', WHERE WHAT IT READS IS OF BULK AT MOST 1048576: true; the input reads as it did. -/
def fnShaSumUptoRow : OpenClaim := { program := "ytfinaphomgdmlaadoor", sum := "26df1c390303c3646bc0499f332eb2d3b44bc1d1419dc9a9632456594c6d60d2", func := "loop.example/easel/laws.FnShaSum", spec := "fnShaSum", named := ["loop.example/easel/impl.shaStart", "loop.example/easel/impl.shaRounds"], apart := false, laid := [("loop.example/easel/impl.shaStart", laid_loop_example_easel_impl_shaStart), ("loop.example/easel/impl.shaRounds", laid_loop_example_easel_impl_shaRounds)], narrowed := true }
def FnShaSumUptoSaid : Prop := fnShaSumUptoRow.holds Tryd.pinned (OpenSpec.upto fnShaSumSpec)

/-- 'laws.FnExactShaMac', WHERE WHAT IT READS IS OF BULK AT MOST 1048576: true; the input reads as it did. -/
def fnExactShaMacUptoRow : OpenClaim := { program := "ytfinaphomgdmlaadoor", sum := "26df1c390303c3646bc0499f332eb2d3b44bc1d1419dc9a9632456594c6d60d2", func := "loop.example/easel/laws.FnExactShaMac", spec := "fnExactShaMac", named := ["loop.example/easel/impl.shaStart", "loop.example/easel/impl.shaRounds"], apart := false, laid := [("loop.example/easel/impl.shaStart", laid_loop_example_easel_impl_shaStart), ("loop.example/easel/impl.shaRounds", laid_loop_example_easel_impl_shaRounds)], narrowed := true }
def FnExactShaMacUptoSaid : Prop := fnExactShaMacUptoRow.holds Tryd.pinned (OpenSpec.upto fnExactShaMacSpec)

/-- 'laws.FnMacKey', WHERE WHAT IT READS IS OF BULK AT MOST 1048576: true; the input reads as it did. -/
def fnMacKeyUptoRow : OpenClaim := { program := "ytfinaphomgdmlaadoor", sum := "26df1c390303c3646bc0499f332eb2d3b44bc1d1419dc9a9632456594c6d60d2", func := "loop.example/easel/laws.FnMacKey", spec := "fnMacKey", named := ["loop.example/easel/impl.shaStart", "loop.example/easel/impl.shaRounds"], apart := false, laid := [("loop.example/easel/impl.shaStart", laid_loop_example_easel_impl_shaStart), ("loop.example/easel/impl.shaRounds", laid_loop_example_easel_impl_shaRounds)], narrowed := true }
def FnMacKeyUptoSaid : Prop := fnMacKeyUptoRow.holds Tryd.pinned (OpenSpec.upto fnMacKeySpec)

/-- 'laws.FnShaMac', WHERE WHAT IT READS IS OF BULK AT MOST 1048576: true; the input reads as it did. -/
def fnShaMacUptoRow : OpenClaim := { program := "ytfinaphomgdmlaadoor", sum := "26df1c390303c3646bc0499f332eb2d3b44bc1d1419dc9a9632456594c6d60d2", func := "loop.example/easel/laws.FnShaMac", spec := "fnShaMac", named := ["loop.example/easel/impl.shaStart", "loop.example/easel/impl.shaRounds"], apart := false, laid := [("loop.example/easel/impl.shaStart", laid_loop_example_easel_impl_shaStart), ("loop.example/easel/impl.shaRounds", laid_loop_example_easel_impl_shaRounds)], narrowed := true }
def FnShaMacUptoSaid : Prop := fnShaMacUptoRow.holds Tryd.pinned (OpenSpec.upto fnShaMacSpec)

end Rows
end Go.Proofs.YtfinaphomgdmlaaDoor
