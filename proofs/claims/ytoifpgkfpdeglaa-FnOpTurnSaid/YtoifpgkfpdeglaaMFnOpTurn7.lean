/- Lemmas and contracts for the law FnOpTurn, part 7: of the program's functions, and over data alone. No condition. -/
import Derived.Test.YtoifpgkfpdeglaaMFnOpTurn6
namespace Go.Proofs.Ytoifpgkfpdeglaa.Pure
open Go.RowKit Go.Proofs.YtoifpgkfpdeglaaW.PrintWords Go.Proofs.Ytoifpgkfpdeglaa.Pl Go.Proofs.Ytoifpgkfpdeglaa.X
set_option linter.unusedSimpArgs false
set_option linter.unusedVariables false

theorem okFlipX : OkO ⟨2, 0, 0, 0, 0⟩ := Or.inr (Or.inl ⟨by decide, rfl, rfl, rfl, rfl⟩)
theorem okFlipY : OkO ⟨3, 0, 0, 0, 0⟩ := Or.inr (Or.inl ⟨by decide, rfl, rfl, rfl, rfl⟩)
theorem FnOpTurn : laws_FnOpTurn.Pure := by
  intro l0 _ _ hwf
  have hu := bytes_wf hwf
  by_cases hlen : (l0.length : Int) > 1048576
  · exact ⟨0, by unfold laws_FnOpTurn.f; rw [if_pos hlen]⟩
  obtain ⟨⟨a, b, l, o0, o1, o2, o3, o4⟩, ⟨K0, h0⟩, hl100⟩ := drawOpDo_tot hu
  dsimp only at h0 hl100
  obtain ⟨K1, h1⟩ := spec_RasOk_ev a b l
  dsimp only at h1
  cases hr : rasOkB a b l with
  | false =>
    rw [hr] at h1
    obtain ⟨K2, h2⟩ := impl_RasOk_ev a b l
    rw [hr] at h2
    dsimp only at h2
    refine ⟨K0 + K1 + K2, ?_⟩
    unfold laws_FnOpTurn.f
    rw [if_neg hlen, h0 _ (by omega)]
    simp only [Option.bind_some]
    rw [h1 _ (by omega)]
    simp only [Option.bind_some, Bool.false_eq_true, if_false]
    rw [h2 _ (by omega)]
    simp only [Option.bind_some, Bool.false_eq_true, if_false]
    rw [eaOk_some]
    rfl
  | true =>
    rw [hr] at h1
    obtain ⟨wd, hg, rfl, rfl, hv⟩ := (rasOkB_iff a b l).1 hr
    have hl := hv.2.2.1
    -- one turn, two, three, four
    have v1 : Valid hg wd (picM ⟨4, 0, 0, 0, 0⟩ wd hg l) := valid_picM okTurn hv rfl
    have v2 : Valid wd hg (picM ⟨4, 0, 0, 0, 0⟩ hg wd (picM ⟨4, 0, 0, 0, 0⟩ wd hg l)) := valid_picM okTurn v1 rfl
    have v3 : Valid hg wd (picM ⟨4, 0, 0, 0, 0⟩ wd hg (picM ⟨4, 0, 0, 0, 0⟩ hg wd (picM ⟨4, 0, 0, 0, 0⟩ wd hg l))) := valid_picM okTurn v2 rfl
    have vx : Valid wd hg (picM ⟨2, 0, 0, 0, 0⟩ wd hg l) := valid_picM okFlipX hv rfl
    have vy : Valid wd hg (picM ⟨3, 0, 0, 0, 0⟩ wd hg l) := valid_picM okFlipY hv rfl
    have g1 : eaI [⟨4, 0, 0, 0, 0⟩] wd hg l = ((hg : Int), (wd : Int), picM ⟨4, 0, 0, 0, 0⟩ wd hg l) := eaI_ok hv okTurn rfl []
    have g2 : eaI [⟨4, 0, 0, 0, 0⟩, ⟨4, 0, 0, 0, 0⟩, ⟨4, 0, 0, 0, 0⟩] hg wd (picM ⟨4, 0, 0, 0, 0⟩ wd hg l) = ((wd : Int), (hg : Int), l) := by
      rw [eaI_ok v1 okTurn rfl]
      show eaI [⟨4, 0, 0, 0, 0⟩, ⟨4, 0, 0, 0, 0⟩] wd hg _ = _
      rw [eaI_ok v2 okTurn rfl]
      show eaI [⟨4, 0, 0, 0, 0⟩] hg wd _ = _
      rw [eaI_ok v3 okTurn rfl]
      show ((wd : Int), (hg : Int), _) = _
      rw [turn_four hl]
    have g3 : eaI [⟨4, 0, 0, 0, 0⟩, ⟨4, 0, 0, 0, 0⟩] wd hg l = ((wd : Int), (hg : Int), picM ⟨4, 0, 0, 0, 0⟩ hg wd (picM ⟨4, 0, 0, 0, 0⟩ wd hg l)) := by
      rw [eaI_ok hv okTurn rfl]
      exact eaI_ok v1 okTurn rfl []
    have g4 : eaI [⟨2, 0, 0, 0, 0⟩, ⟨3, 0, 0, 0, 0⟩] wd hg l = ((wd : Int), (hg : Int), picM ⟨4, 0, 0, 0, 0⟩ hg wd (picM ⟨4, 0, 0, 0, 0⟩ wd hg l)) := by
      rw [eaI_ok hv okFlipX rfl, ← flipX_flipY]
      exact eaI_ok vx okFlipY rfl []
    have g5 : eaI [⟨4, 0, 0, 0, 0⟩, ⟨2, 0, 0, 0, 0⟩] wd hg l = ((hg : Int), (wd : Int), picM ⟨2, 0, 0, 0, 0⟩ hg wd (picM ⟨4, 0, 0, 0, 0⟩ wd hg l)) := by
      rw [eaI_ok hv okTurn rfl]
      exact eaI_ok v1 okFlipX rfl []
    have g6 : eaI [⟨3, 0, 0, 0, 0⟩, ⟨4, 0, 0, 0, 0⟩] wd hg l = ((hg : Int), (wd : Int), picM ⟨2, 0, 0, 0, 0⟩ hg wd (picM ⟨4, 0, 0, 0, 0⟩ wd hg l)) := by
      rw [eaI_ok hv okFlipY rfl, turn_flip]
      exact eaI_ok vy okTurn rfl []
    have hd : doI wd hg l ⟨4, 0, 0, 0, 0⟩ = ((hg : Int), (wd : Int), picM ⟨4, 0, 0, 0, 0⟩ wd hg l, true) := by
      have := doI_out (o := ⟨4, 0, 0, 0, 0⟩) hr ((okB_iff _).2 okTurn)
      rw [this]
      rfl
    have hle : wd * hg ≤ 6 * 6 := Nat.mul_le_mul hv.1.2 hv.2.1.2
    have hle' : hg * wd ≤ 6 * 6 := Nat.mul_le_mul hv.2.1.2 hv.1.2
    obtain ⟨K2, h2⟩ := spec_OpDo_ev wd hg l ⟨4, 0, 0, 0, 0⟩
    dsimp only at h2
    rw [hd] at h2
    obtain ⟨A1, a1⟩ := eaDo_ev [⟨4, 0, 0, 0, 0⟩] (by simp) wd hg l
    obtain ⟨A2, a2⟩ := eaDo_ev [⟨4, 0, 0, 0, 0⟩, ⟨4, 0, 0, 0, 0⟩, ⟨4, 0, 0, 0, 0⟩] (by simp) hg wd (picM ⟨4, 0, 0, 0, 0⟩ wd hg l)
    obtain ⟨A3, a3⟩ := eaDo_ev [⟨4, 0, 0, 0, 0⟩, ⟨4, 0, 0, 0, 0⟩] (by simp) wd hg l
    obtain ⟨A4, a4⟩ := eaDo_ev [⟨2, 0, 0, 0, 0⟩, ⟨3, 0, 0, 0, 0⟩] (by simp) wd hg l
    obtain ⟨A5, a5⟩ := eaDo_ev [⟨4, 0, 0, 0, 0⟩, ⟨2, 0, 0, 0, 0⟩] (by simp) wd hg l
    obtain ⟨A6, a6⟩ := eaDo_ev [⟨3, 0, 0, 0, 0⟩, ⟨4, 0, 0, 0, 0⟩] (by simp) wd hg l
    rw [g1] at a1
    rw [g2] at a2
    rw [g3] at a3
    rw [g4] at a4
    rw [g5] at a5
    rw [g6] at a6
    obtain ⟨B1, b1⟩ := eaRas_same hg wd (picM ⟨4, 0, 0, 0, 0⟩ wd hg l) (by rw [v1.2.2.1]; omega)
    obtain ⟨B2, b2⟩ := eaRas_same wd hg l (by rw [hl]; omega)
    obtain ⟨B3, b3⟩ := eaRas_same wd hg (picM ⟨4, 0, 0, 0, 0⟩ hg wd (picM ⟨4, 0, 0, 0, 0⟩ wd hg l)) (by rw [v2.2.2.1]; omega)
    have v5 : Valid hg wd (picM ⟨2, 0, 0, 0, 0⟩ hg wd (picM ⟨4, 0, 0, 0, 0⟩ wd hg l)) := valid_picM okFlipX v1 rfl
    obtain ⟨B4, b4⟩ := eaRas_same hg wd (picM ⟨2, 0, 0, 0, 0⟩ hg wd (picM ⟨4, 0, 0, 0, 0⟩ wd hg l)) (by rw [v5.2.2.1]; omega)
    dsimp only at a1 a2 a3 a4 a5 a6 b1 b2 b3 b4
    obtain ⟨n, hn⟩ : ∃ n, n = K0 + K1 + K2 + A1 + A2 + A3 + A4 + A5 + A6 + B1 + B2 + B3 + B4 := ⟨_, rfl⟩
    refine ⟨n, ?_⟩
    unfold laws_FnOpTurn.f
    rw [if_neg hlen, h0 n (by omega)]
    simp only [Option.bind_some]
    rw [h1 n (by omega)]
    simp only [Option.bind_some, if_true]
    rw [a1 n (by omega)]
    simp only [Option.bind_some]
    rw [h2 n (by omega)]
    simp only [Option.bind_some]
    rw [b1 n (by omega)]
    simp only [Option.bind_some, if_true]
    rw [a2 n (by omega)]
    simp only [Option.bind_some]
    rw [b2 n (by omega)]
    simp only [Option.bind_some, if_true]
    rw [a3 n (by omega)]
    simp only [Option.bind_some]
    rw [a4 n (by omega)]
    simp only [Option.bind_some]
    rw [b3 n (by omega)]
    simp only [Option.bind_some, if_true]
    rw [a5 n (by omega)]
    simp only [Option.bind_some]
    rw [a6 n (by omega)]
    simp only [Option.bind_some]
    rw [b4 n (by omega)]
    rfl
end Go.Proofs.Ytoifpgkfpdeglaa.Pure
