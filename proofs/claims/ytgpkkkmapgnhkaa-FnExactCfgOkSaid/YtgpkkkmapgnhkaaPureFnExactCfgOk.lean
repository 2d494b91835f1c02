/- The law FnExactCfgOk over data: the program's CfgOk answers what the reference's answers, and its argument stays as it was. No condition. -/
import Derived.Test.YtgpkkkmapgnhkaaEq
import Derived.Test.YtgpkkkmapgnhkaaStmFnExactCfgOk
namespace Go.Proofs.Ytgpkkkmapgnhkaa.Pure
open Go.RowKit Go.Proofs.YtgpkkkmapgnhkaaW.PrintWords Go.Proofs.Ytgpkkkmapgnhkaa.Pl Go.Proofs.Ytgpkkkmapgnhkaa.X
set_option linter.unusedSimpArgs false

theorem within_l1In (a b c : Int) : impl_within.f a b c = spec_l1In.f a b c := rfl
theorem cfgOk_same (l : List Int) (a b c d e f : Int) : impl_CfgOk.f l a b c d e f = spec_CfgOk.f l a b c d e f := rfl
theorem l1In_some (a b c : Int) : spec_l1In.f a b c = some (decide (b ≤ a ∧ a ≤ c)) := by
  unfold spec_l1In.f
  by_cases h : b ≤ a <;> simp [h]
theorem cfgOk_some (l : List Int) (a b c d e f : Int) : ∃ r, spec_CfgOk.f l a b c d e f = some r := by
  unfold spec_CfgOk.f
  simp only [l1In_some, Option.bind_some]
  repeat' split
  all_goals exact ⟨_, rfl⟩

theorem FnExactCfgOk : laws_FnExactCfgOk.Pure := by
  intro l0 a1 a2 a3 a4 a5 a6 hl _ _ _ _ _ _ _
  have hm : maxLen = 9223372036854775807 := rfl
  unfold laws_FnExactCfgOk.f laws_szTenCfg.f laws_szByteS.f
  by_cases hb : l0.length ≤ 1048576
  · have hw : wrap64 (1048576 - (l0.length : Int)) = 1048576 - (l0.length : Int) := wrap_id (by omega) (by omega)
    obtain ⟨K, hK⟩ := toByteS_ev l0 hb
    obtain ⟨K', hK'⟩ := eqByteS_ev l0 hb
    obtain ⟨r, hr⟩ := cfgOk_some l0 a1 a2 a3 a4 a5 a6
    refine ⟨max K K', ?_⟩
    rw [hw, if_neg (by omega)]
    simp only [Option.bind_some]
    rw [if_neg (by omega)]
    simp [laws_toTenCfg.f, laws_eqTenCfg.f, hK _ (Nat.le_max_left K K'), hK' _ (Nat.le_max_right K K'), cfgOk_same, hr]
  · have hw : wrap64 (1048576 - (l0.length : Int)) = 1048576 - (l0.length : Int) := wrap_id (by omega) (by omega)
    refine ⟨0, ?_⟩
    rw [hw, if_pos (by omega)]
    simp
end Go.Proofs.Ytgpkkkmapgnhkaa.Pure
