/- Plain lemmas on loops that are told by rounds: no program in sight. -/
import Derived.Test.YtgpkkkmapgnhkaaWWords
namespace Go.Proofs.Ytgpkkkmapgnhkaa.Pl
open Go.RowKit Go.Proofs.YtgpkkkmapgnhkaaW.PrintWords

theorem wrap_id {x : Int} (h0 : -9223372036854775808 ≤ x) (h1 : x ≤ 9223372036854775807) : wrap64 x = x := by
  unfold wrap64; omega
theorem wrap_succ {i : Nat} (h : i < 9223372036854775807) : wrap64 ((i : Int) + 1) = ((i + 1 : Nat) : Int) := by
  unfold wrap64; omega

/-- From a round on: with a round more. -/
theorem ev_succ {α : Type} {g : Nat → Option α} {r : α} (h : Ev (fun k => g (k + 1)) r) : Ev g r := by
  obtain ⟨K, h⟩ := h
  refine ⟨K + 1, fun n hn => ?_⟩
  obtain ⟨m, rfl⟩ : ∃ m, n = m + 1 := ⟨n - 1, by omega⟩
  exact h m (by omega)

/-- A loop whose counter goes up to n: at each round it answers, or goes on. -/
theorem ev_up {α σ : Type} (n : Nat) (g : Nat → Int → σ → Option α) (Inv : Nat → σ → Prop) (post : α → Prop)
    (hstep : ∀ i s, i < n → Inv i s → (∃ s', Inv (i + 1) s' ∧ ∀ r, Ev (fun k => g k ((i + 1 : Nat) : Int) s') r → Ev (fun k => g k (i : Int) s) r) ∨ ∃ r, Ev (fun k => g k (i : Int) s) r ∧ post r)
    (hend : ∀ s, Inv n s → ∃ r, Ev (fun k => g k (n : Int) s) r ∧ post r) :
    ∀ i s, i ≤ n → Inv i s → ∃ r, Ev (fun k => g k (i : Int) s) r ∧ post r := by
  have key : ∀ d i s, i + d = n → Inv i s → ∃ r, Ev (fun k => g k (i : Int) s) r ∧ post r := by
    intro d
    induction d with
    | zero => intro i s hi hs; have : i = n := by omega
              subst this; exact hend s hs
    | succ d ih =>
      intro i s hi hs
      rcases hstep i s (by omega) hs with ⟨s', hs', hr⟩ | h
      · obtain ⟨r, h, hp⟩ := ih (i + 1) s' (by omega) hs'
        exact ⟨r, hr r h, hp⟩
      · exact h
  intro i s hi hs
  exact key (n - i) i s (by omega) hs

/-- Any loop with a measure. -/
theorem ev_down {α σ : Type} (g : Nat → σ → Option α) (Inv : σ → Prop) (m : σ → Nat) (post : α → Prop)
    (hstep : ∀ s, Inv s → (∃ s', Inv s' ∧ m s' < m s ∧ ∀ r, Ev (fun k => g k s') r → Ev (fun k => g k s) r) ∨ ∃ r, Ev (fun k => g k s) r ∧ post r) :
    ∀ s, Inv s → ∃ r, Ev (fun k => g k s) r ∧ post r := by
  have key : ∀ d s, m s < d → Inv s → ∃ r, Ev (fun k => g k s) r ∧ post r := by
    intro d
    induction d with
    | zero => intro s h; omega
    | succ d ih =>
      intro s hd hs
      rcases hstep s hs with ⟨s', hs', hm, hr⟩ | h
      · obtain ⟨r, h, hp⟩ := ih s' (by omega) hs'
        exact ⟨r, hr r h, hp⟩
      · exact h
  intro s hs
  exact key (m s + 1) s (by omega) hs

theorem rd_nat (l : List Int) (i : Nat) : rd l (i : Int) = l.getD i 0 := rfl
theorem set_take_next {α : Type} (l m : List α) (d : α) (i : Nat) (h : i < l.length) (hm : m.length = l.length) (ht : m.take i = l.take i) : (m.set i (l.getD i d)).take (i + 1) = l.take (i + 1) := by
  rw [List.take_succ_eq_append_getElem (by simpa [hm] using h), List.take_succ_eq_append_getElem h, List.take_set_of_le (Nat.le_refl i), ht]
  simp [List.getD_eq_getElem?_getD, h]

end Go.Proofs.Ytgpkkkmapgnhkaa.Pl
