/- For every input the law FnExactAskText returns true, and its arguments read afterwards as they read before. Conditions: the listed package-level variables begin as the program's text lays them (tied by the card). -/
import Derived.Test.YtiihhjfdgojkeaaDoorRows
import Derived.Test.YtiihhjfdgojkeaaDoorMFnExactAskText4
import Derived.WalkKit
import Derived.Test.YtiihhjfdgojkeaaDoorTie
import Derived.Test.YtiihhjfdgojkeaaDoorCards
import Derived.SevenTiedAt
import Derived.ProofKit
import Derived.OpenShut
import Derived.ShutString
import Derived.ChangeOld
import Derived.Below
import Derived.SizedLaws
namespace Go.Proofs.YtiihhjfdgojkeaaDoor.fnExactAskText
open Go.ChangeShapes Go.WideShapes Go.ChangeAt Go.RowKit Go.Proofs.YtiihhjfdgojkeaaDoorW.PrintWords Go.Proofs.YtiihhjfdgojkeaaDoor.Opn Go.Proofs.YtiihhjfdgojkeaaDoor.X
open Go.ChangeMaps (open_string shut_string)
set_option linter.unusedVariables false
theorem own : ownKnob Tryd.prog.godebug = none := by kernel_rfl
theorem laidOut : laidOutB Tryd.prog = true := by kernel_rfl
set_option maxHeartbeats 4000000 in
set_option maxRecDepth 100000 in
theorem lifted (os : Os) (started : os.Started) (H : Type) (enc : TypeId × Value → H) :
    ReturnsInHanded {} Tryd.checked os 4 .any (fun w args => (Rows.fnExactAskTextSpec.pre enc Tryd.prog Tryd.f4 [] false w args ∧ laidMetH Tryd.prog X.laid4 w) ∧ sizedMet enc Tryd.prog Tryd.f4 (OpenSpec.ofChange Rows.fnExactAskTextSpec) false w args) (Rows.fnExactAskTextSpec.post enc Tryd.prog Tryd.f4 false true false false) := by
  refine returnsInHanded_of_change_and (C := Tryd.checked) (X := fun w _ => laidMetH Tryd.prog X.laid4 w) (fun _ _ _ hh h => h.of_heap hh) own started (by kernel_rfl) Tryd.func4
    (ChangeSpec.witness_shaped (enc := enc) (C := Tryd.checked) (os := os) (X := fun w _ => laidMetH Tryd.prog X.laid4 w) false (World.doorLaid Tryd.prog 400 os) #[.agg #[.slice none 0 0, .string ByteArray.empty, .int .i64 0]] 8 rfl (World.shaped_of_RefB (by kernel_rfl) (by kernel_rfl)) (by kernel_rfl) (by kernel_rfl) (by kernel_rfl) (X.door_met os _)) ?_
  intro W base args ds gs before hval0 hW hcnd hsz0 hL _
  have hval : ∀ (j : Nat) t v, Tryd.f4.params[j]? = some t → args[j]? = some v → Value.okWide Tryd.prog W .any base t v := hval0
  have hW' := hW
  obtain ⟨p, q, hA0, hV, rfl, hfz, hnd⟩ := hW
  have hA : DataW.TrodAll enc Tryd.prog W 0 (fun _ => true) true Tryd.f4.params.toList args.toList ds p := hA0
  rw [Tryd.params4] at hA hval
  obtain ⟨v0, vs0, d0, ds0, p0, q0, hargs, rfl, rfl, h0, r0⟩ := trodAll_cons hA
  obtain ⟨rfl, rfl, rfl⟩ := trodAll_nil r0
  obtain rfl : args = #[v0] := by cases args; simp_all
  obtain ⟨g1_, rfl⟩ := X.vars1 hV
  have k0 := h0
  have lt0 : ∀ x ∈ p0, x.block < W.heap.size := by obtain ⟨m, hm⟩ := k0; exact DataW.trod_lt m _ _ _ hm
  obtain ⟨⟨cs0⟩, rfl, _⟩ := okWide_struct Tryd.underlying30 (hval 0 30 v0 rfl rfl)
  obtain ⟨⟨l0_0, a0_1, a0_2⟩, hK0, ⟨⟨gl0_0, gm0_0⟩, g0_1, g0_2⟩⟩ := Opens.of_trod (d := (Kd.pair (Kd.slice 23 k23) (Kd.pair Kd.string (Kd.int .i64)))) (opens_struct Tryd.underlying30 (by kernel_rfl) (opensF_cons rfl (opens_slice Tryd.underlying28 (by kernel_rfl) op23) (opensF_cons rfl (opens_string Tryd.underlying9 (by kernel_rfl)) (opensF_one rfl (opens_int Tryd.underlying3 (by kernel_rfl)))))) h0
  replace hK0 : Kd.K (Kd.pair (Kd.slice 23 k23) (Kd.pair Kd.string (Kd.int .i64))) W _ cs0 := hK0
  obtain ⟨_, _, rfl, ⟨A0_0, c0_0, rfl, hc0_0, hr0_0⟩, ⟨_, _, rfl, rfl, rfl⟩⟩ := hK0
  (try dsimp only at hr0_0 hc0_0 gl0_0 gm0_0)
  clear hA0 hval0 hsz0
  obtain ⟨k, hP⟩ := Pure.FnExactAskText l0_0 a0_1 a0_2 gl0_0 gm0_0 g0_1 g0_2
  refine (laws_FnExactAskText.calls k A0_0 c0_0 l0_0 a0_1 a0_2 true W hr0_0 hc0_0 hP rfl (X.glob_of hL)).mono fun e W' ⟨he, hd⟩ => ?_
  have bel : Below W.heap.size W W' := hd
  subst he
  exact ⟨_, rfl, _, _, _, [], _, _, hW', trodAll_mk1 (shut_bool Tryd.underlying4 _), (trodAll_cons_mk (Below.trod laidOut (by kernel_rfl) (of_decide_eq_true (by kernel_rfl)) k0 bel lt0) trodAll_mk0), bel.trodVars laidOut (by kernel_rfl) hV, bel.frame _, fun h => by cases h⟩
theorem over : Rows.fnExactAskTextRow.holds Tryd.pinned (OpenSpec.ofChange Rows.fnExactAskTextSpec) :=
  OpenClaim.holds_of_wide 4 Tryd.f4 rfl rfl rfl rfl rfl rfl rfl ⟨rfl, rfl, rfl, rfl, rfl⟩ rfl rfl rfl rfl rfl (by kernel_rfl) Tryd.func4 (by kernel_rfl)
    (of_decide_eq_true (by kernel_rfl)) (by unfold Func.isWrapper; first | (rw [if_pos (by decide +kernel)]; kernel_rfl) | (rw [if_neg (by decide +kernel)]; exact ⟨rfl, rfl⟩))
    (fun os started H enc _ => lifted os started H enc)
theorem proved : Rows.FnExactAskTextCardSaid :=
  Claim7.holds_tied_plain_at .later [] [.data, .data, .data, .data] true (true, "2f5cfa5779d263a7e5040386bce811721cdcbbd34abfbcd501d0bfa4cacc8297") false
    over (fun _ h => by cases h) (by kernel_rfl) (fun _ h => by cases h) fnExactAskText_row_tie rfl ⟨rfl, rfl⟩ (by kernel_rfl) rfl
    (fun f fn hf hfn => by
      obtain rfl : f = 4 := Option.some.inj ((show Tryd.prog.funcNamed "loop.example/easel/laws.FnExactAskText" = some 4 by kernel_rfl).symm.trans hf) |>.symm
      obtain rfl : fn = Tryd.f4 := (Option.some.inj (Tryd.func4.symm.trans hfn)).symm
      exact ⟨by kernel_rfl, fun j t ht => by
        rw [Tryd.params4] at ht
        have hm : t ∈ [30] := by simpa using Array.mem_of_getElem? ht
        have hall : ([30].all fun u => !Tryd.prog.wantsStandIn u) = true := by kernel_rfl
        exact (show Tryd.prog.wantsStandIn t = false by simpa using List.all_eq_true.1 hall t hm)⟩)
    (by kernel_rfl)
#print axioms proved
end Go.Proofs.YtiihhjfdgojkeaaDoor.fnExactAskText
namespace Go.Proofs.YtiihhjfdgojkeaaDoor
/-- The tied card, under a short name, for the claim. -/
theorem fnExactAskText_holds : Rows.FnExactAskTextCardSaid := fnExactAskText.proved
end Go.Proofs.YtiihhjfdgojkeaaDoor
