/- What the laws' own functions come to: copies are the same, what is the same is told to be so. -/
import Derived.Test.YtgpkkkmapgnhkaaPl
import Derived.Test.YtgpkkkmapgnhkaaXlawstoByteS
import Derived.Test.YtgpkkkmapgnhkaaXlawseqByteS
namespace Go.Proofs.Ytgpkkkmapgnhkaa.X
open Go.RowKit Go.Proofs.YtgpkkkmapgnhkaaW.PrintWords Go.Proofs.Ytgpkkkmapgnhkaa.Pl
set_option linter.unusedSimpArgs false

theorem toByteS_ev (l : List Int) (hl : l.length ≤ 1048576) : Ev (fun k => laws_toByteS.f k l) l := by
  have := ev_up (α := List Int) l.length (fun k i (s : List Int) => laws_toByteS.l0 k l s i) (fun i s => s.length = l.length ∧ s.take i = l.take i) (fun r => r = l) ?_ ?_ 0 (List.replicate l.length 0) (by omega) ⟨by simp, by simp⟩
  · obtain ⟨r, h, rfl⟩ := this
    refine Ev.congr (fun k => ?_) h
    simp [laws_toByteS.f]
    omega
  · rintro i s hi ⟨h1, h2⟩
    refine Or.inl ⟨s.set i (l.getD i 0), ⟨by simpa using h1, set_take_next l s 0 i hi h1 h2⟩, fun r h => ?_⟩
    refine Ev.step (fun k => ?_) h
    simp only [laws_toByteS.l0]
    rw [if_pos (by omega), if_pos (by omega), if_pos (by omega), wrap_succ (by omega)]
    simp [rd_nat]
  · rintro s ⟨h1, h2⟩
    refine ⟨l, ev_succ ⟨0, fun k _ => ?_⟩, rfl⟩
    simp only [laws_toByteS.l0]
    rw [if_neg (by omega)]
    rw [List.take_of_length_le (by omega), List.take_of_length_le (by omega)] at h2
    rw [h2]

theorem eqByteS_ev (l : List Int) (hl : l.length ≤ 1048576) : Ev (fun k => laws_eqByteS.f k l l) true := by
  have := ev_up (α := Bool) l.length (fun k i (_ : Unit) => laws_eqByteS.l0 k l l i) (fun _ _ => True) (fun r => r = true) ?_ ?_ 0 () (by omega) trivial
  · obtain ⟨r, h, rfl⟩ := this
    refine Ev.congr (fun k => ?_) h
    simp [laws_eqByteS.f]
  · rintro i s hi -
    refine Or.inl ⟨(), trivial, fun r h => ?_⟩
    refine Ev.step (fun k => ?_) h
    simp only [laws_eqByteS.l0]
    rw [if_pos (by omega), if_pos (by omega), if_pos (by omega), wrap_succ (by omega)]; simp
  · rintro s -
    refine ⟨true, ev_succ ⟨0, fun k _ => ?_⟩, rfl⟩
    simp only [laws_eqByteS.l0]
    rw [if_neg (by omega)]
end Go.Proofs.Ytgpkkkmapgnhkaa.X
