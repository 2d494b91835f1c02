/- Lemmas and contracts for the law FnExactHouOk, part 7: of the program's functions, and over data alone. No condition. -/
import Derived.Test.YtgpkkkmapgnhkaaMFnExactHouOk6
import Derived.Test.YtgpkkkmapgnhkaaMFnExactHouOk1
import Derived.Test.YtgpkkkmapgnhkaaMFnExactHouOk5
import Derived.Test.YtgpkkkmapgnhkaaMFnExactHouOk3
import Derived.Test.YtgpkkkmapgnhkaaMFnExactHouOk2
namespace Go.Proofs.Ytgpkkkmapgnhkaa.X
open Go.RowKit Go.Proofs.YtgpkkkmapgnhkaaW.PrintWords Go.Proofs.Ytgpkkkmapgnhkaa.Opn
set_option linter.unusedVariables false
def laws_FnExactHouOk.Pure : Prop := ∀ (l0 : List (S30)) (l1 : List (S83)), l0.length ≤ maxLen → (∀ y ∈ l0, g30 y) → l1.length ≤ maxLen → (∀ y ∈ l1, g83 y) → ∃ k, laws_FnExactHouOk.f k l0 l1 = some true
end Go.Proofs.Ytgpkkkmapgnhkaa.X
namespace Go.Proofs.Ytgpkkkmapgnhkaa.Pl
open Go.RowKit Go.Proofs.YtgpkkkmapgnhkaaW.PrintWords
theorem wrap_id {x : Int} (h0 : -9223372036854775808 ≤ x) (h1 : x ≤ 9223372036854775807) : wrap64 x = x := by
  unfold wrap64; omega
theorem wrap_succ {i : Nat} (h : i < 9223372036854775807) : wrap64 ((i : Int) + 1) = ((i + 1 : Nat) : Int) := by
  unfold wrap64; omega
theorem ev_succ {α : Type} {g : Nat → Option α} {r : α} (h : Ev (fun k => g (k + 1)) r) : Ev g r := by
  obtain ⟨K, h⟩ := h
  refine ⟨K + 1, fun n hn => ?_⟩
  obtain ⟨m, rfl⟩ : ∃ m, n = m + 1 := ⟨n - 1, by omega⟩
  exact h m (by omega)
theorem ev_up {α σ : Type} (n : Nat) (g : Nat → Int → σ → Option α) (Inv : Nat → σ → Prop) (post : α → Prop)
    (hstep : ∀ i s, i < n → Inv i s → (∃ s', Inv (i + 1) s' ∧ ∀ r, Ev (fun k => g k ((i + 1 : Nat) : Int) s') r → Ev (fun k => g k (i : Int) s) r) ∨ ∃ r, Ev (fun k => g k (i : Int) s) r ∧ post r)
    (hend : ∀ s, Inv n s → ∃ r, Ev (fun k => g k (n : Int) s) r ∧ post r) :
    ∀ i s, i ≤ n → Inv i s → ∃ r, Ev (fun k => g k (i : Int) s) r ∧ post r := by
  have key : ∀ d i s, i + d = n → Inv i s → ∃ r, Ev (fun k => g k (i : Int) s) r ∧ post r := by
    intro d
    induction d with
    | zero => intro i s hi hs; have : i = n := by omega
              subst this; exact hend s hs
    | succ d ih =>
      intro i s hi hs
      rcases hstep i s (by omega) hs with ⟨s', hs', hr⟩ | h
      · obtain ⟨r, h, hp⟩ := ih (i + 1) s' (by omega) hs'
        exact ⟨r, hr r h, hp⟩
      · exact h
  intro i s hi hs
  exact key (n - i) i s (by omega) hs
theorem set_take_next {α : Type} (l m : List α) (d : α) (i : Nat) (h : i < l.length) (hm : m.length = l.length) (ht : m.take i = l.take i) : (m.set i (l.getD i d)).take (i + 1) = l.take (i + 1) := by
  rw [List.take_succ_eq_append_getElem (by simpa [hm] using h), List.take_succ_eq_append_getElem h, List.take_set_of_le (Nat.le_refl i), ht]
  simp [List.getD_eq_getElem?_getD, h]
theorem getD_mem {α : Type} (l : List α) (z : α) (i : Nat) (h : i < l.length) : l.getD i z ∈ l := by
  rw [List.getD_eq_getElem?_getD, List.getElem?_eq_getElem h]; exact List.getElem_mem h
theorem ev_map {α β : Type} (c : α → β) (za : α) (zb : β) (l : List α) (g : Nat → Int → List β → Option (List β)) (hl : l.length ≤ 1048576)
    (hstep : ∀ i s, i < l.length → s.length = l.length → ∀ r, Ev (fun k => g k ((i + 1 : Nat) : Int) (s.set i (c (l.getD i za)))) r → Ev (fun k => g k (i : Int) s) r)
    (hend : ∀ k s, s.length = l.length → g (k + 1) (l.length : Int) s = some s) : Ev (fun k => g k 0 (List.replicate l.length zb)) (l.map c) := by
  obtain ⟨r, h, rfl⟩ := ev_up (α := List β) l.length (fun k i s => g k i s) (fun i s => s.length = l.length ∧ s.take i = (l.map c).take i) (fun r => r = l.map c) (by
    rintro i s hi ⟨h1, h2⟩
    refine Or.inl ⟨s.set i (c (l.getD i za)), ⟨by simpa using h1, ?_⟩, hstep i s hi h1⟩
    have := set_take_next (l.map c) s (c za) i (by simpa using hi) (by simpa using h1) h2
    have e : (l.map c).getD i (c za) = c (l.getD i za) := by
      simp [List.getD_eq_getElem?_getD, List.getElem?_eq_getElem hi]
    rw [e] at this
    exact this) (by
    rintro s ⟨h1, h2⟩
    refine ⟨l.map c, ev_succ ⟨0, fun k _ => ?_⟩, rfl⟩
    rw [List.take_of_length_le (by omega), List.take_of_length_le (by simp)] at h2
    show g (k + 1) (l.length : Int) s = _
    rw [hend k s h1, h2]) 0 (List.replicate l.length zb) (by omega) ⟨by simp, by simp⟩
  exact h
theorem ev_all (n : Nat) (g : Nat → Int → Option Bool) (hstep : ∀ i, i < n → Ev (fun k => g k ((i + 1 : Nat) : Int)) true → Ev (fun k => g k (i : Int)) true) (hend : ∀ k, g (k + 1) (n : Int) = some true) : Ev (fun k => g k 0) true := by
  have : ∀ d j, j + d = n → Ev (fun k => g k (j : Int)) true := by
    intro d
    induction d with
    | zero => intro j hj; have : j = n := by omega
              subst this; exact ev_succ ⟨0, fun k _ => hend k⟩
    | succ d ih => intro j hj; exact hstep j (by omega) (ih (j + 1) (by omega))
  exact this n 0 (by omega)
theorem ev_sum {α : Type} (l : List α) (z : α) (P : α → Prop) (g : Nat → Int → Int → Option Int)
    (hstep : ∀ (i : Nat) (x : Int), i < l.length → 0 ≤ x → x ≤ 1048576 → (∃ x', 0 ≤ x' ∧ x' ≤ 1048576 ∧ P (l.getD i z) ∧ ∀ r, Ev (fun k => g k ((i + 1 : Nat) : Int) x') r → Ev (fun k => g k (i : Int) x) r) ∨ Ev (fun k => g k (i : Int) x) (-1))
    (hend : ∀ k x, g (k + 1) (l.length : Int) x = some x) (x : Int) (h0 : 0 ≤ x) (h1 : x ≤ 1048576) : ∃ r, Ev (fun k => g k 0 x) r ∧ r ≤ 1048576 ∧ (0 ≤ r → ∀ y ∈ l, P y) := by
  obtain ⟨r, h, hp⟩ := ev_up (α := Int) l.length (fun k i s => g k i s) (fun i s => 0 ≤ s ∧ s ≤ 1048576 ∧ ∀ j, j < i → P (l.getD j z)) (fun r => r ≤ 1048576 ∧ (0 ≤ r → ∀ y ∈ l, P y)) (by
    rintro i s hi ⟨h1, h2, h3⟩
    rcases hstep i s hi h1 h2 with ⟨x', a, b, c, d⟩ | h
    · refine Or.inl ⟨x', ⟨a, b, fun j hj => ?_⟩, d⟩
      rcases Nat.lt_or_ge j i with hj' | hj'
      · exact h3 j hj'
      · have : j = i := by omega
        subst this; exact c
    · exact Or.inr ⟨-1, h, by omega, fun h => absurd h (by omega)⟩) (by
    rintro s ⟨h1, h2, h3⟩
    refine ⟨s, ev_succ ⟨0, fun k _ => hend k s⟩, h2, fun _ y hy => ?_⟩
    obtain ⟨j, hj, rfl⟩ := List.getElem_of_mem hy
    have := h3 j hj
    rwa [List.getD_eq_getElem?_getD, List.getElem?_eq_getElem hj] at this) 0 x (by omega) ⟨h0, h1, fun j hj => absurd hj (by omega)⟩
  exact ⟨r, h, hp⟩
theorem ev_allR (n : Nat) (p : Nat → Bool) (b : Bool) (g : Nat → Int → Option Bool)
    (hyes : ∀ i, i < n → p i = true → ∀ r, Ev (fun k => g k ((i + 1 : Nat) : Int)) r → Ev (fun k => g k (i : Int)) r)
    (hno : ∀ i, i < n → p i = false → Ev (fun k => g k (i : Int)) false)
    (hend : Ev (fun k => g k (n : Int)) b) : Ev (fun k => g k 0) ((List.range n).all p && b) := by
  have key : ∀ d i, i + d = n → Ev (fun k => g k (i : Int)) (((List.range' i d).all p) && b) := by
    intro d
    induction d with
    | zero => intro i hi; have : i = n := by omega
              subst this; simpa using hend
    | succ d ih =>
      intro i hi
      have := ih (i + 1) (by omega)
      rw [List.range'_succ, List.all_cons]
      cases hp : p i with
      | true => simpa using hyes i (by omega) hp _ this
      | false => simpa using hno i (by omega) hp
  have := key n 0 (by omega)
  rwa [← List.range_eq_range'] at this
theorem Ev.at_ {α : Type} {g : Nat → Option α} {r : α} (h : Ev g r) : ∃ K, ∀ k, K ≤ k → g k = some r := h
def Tot {α : Type} (g : Nat → Option α) (post : α → Prop) : Prop := ∃ r, Ev g r ∧ post r
theorem Tot.mono {α : Type} {g : Nat → Option α} {P Q : α → Prop} (h : Tot g P) (hi : ∀ r, P r → Q r) : Tot g Q := by
  obtain ⟨r, h, hp⟩ := h
  exact ⟨r, h, hi r hp⟩
theorem Tot.bind {α β : Type} {g : Nat → Option α} {f : Nat → α → Option β} {P : α → Prop} {Q : β → Prop} (h : Tot g P) (hf : ∀ a, P a → Tot (fun k => f k a) Q) : Tot (fun k => (g k).bind (f k)) Q := by
  obtain ⟨a, h, hp⟩ := h
  obtain ⟨r, h2, hq⟩ := hf a hp
  exact ⟨r, Ev.bind h h2, hq⟩
theorem Tot.succ {α : Type} {g : Nat → Option α} {Q : α → Prop} (h : Tot (fun k => g (k + 1)) Q) : Tot g Q := by
  obtain ⟨r, h, hp⟩ := h
  exact ⟨r, ev_succ h, hp⟩
theorem Tot.rounds {g : Nat → Option Bool} (h : Tot g (fun b => b = true)) : ∃ k, g k = some true := by
  obtain ⟨r, h, rfl⟩ := h
  exact h.rounds
end Go.Proofs.Ytgpkkkmapgnhkaa.Pl
namespace Go.Proofs.Ytgpkkkmapgnhkaa.X
open Go.RowKit Go.Proofs.YtgpkkkmapgnhkaaW.PrintWords Go.Proofs.Ytgpkkkmapgnhkaa.Pl
set_option linter.unusedSimpArgs false
theorem l1In_some (a b c : Int) : spec_l1In.f a b c = some (decide (b ≤ a ∧ a ≤ c)) := by
  unfold spec_l1In.f
  by_cases h : b ≤ a <;> simp [h]
theorem within_some (a b c : Int) : impl_within.f a b c = some (decide (b ≤ a ∧ a ≤ c)) := by
  unfold impl_within.f
  by_cases h : b ≤ a <;> simp [h]
theorem sizeOk_some (a : Int) : impl_sizeOk.f a = some (decide (1 ≤ a ∧ a ≤ 6)) := by
  unfold impl_sizeOk.f
  by_cases h : 1 ≤ a <;> simp [h]
theorem partOk_some (a : Int) : impl_partOk.f a = some (decide (0 ≤ a ∧ a ≤ 255)) := by
  unfold impl_partOk.f
  by_cases h : 0 ≤ a <;> simp [h]
def opOkB (o a b c d : Int) : Bool :=
  if o = 1 then decide (0 ≤ a ∧ a ≤ 5) && (decide (0 ≤ b ∧ b ≤ 5) && (decide (1 ≤ c ∧ c ≤ 6) && decide (1 ≤ d ∧ d ≤ 6)))
  else if o = 7 then decide (1 ≤ a ∧ a ≤ 6) && (decide (1 ≤ b ∧ b ≤ 6) && (decide (c = 0) && decide (d = 0)))
  else if o = 8 then decide (0 ≤ a ∧ a ≤ 255) && (decide (0 ≤ b ∧ b ≤ 255) && (decide (0 ≤ c ∧ c ≤ 255) && decide (d = 0)))
  else decide (2 ≤ o ∧ o ≤ 6) && (decide (a = 0) && (decide (b = 0) && (decide (c = 0) && decide (d = 0))))
theorem spec_OpOk_some (o a b c d : Int) : spec_OpOk.f o a b c d = some (opOkB o a b c d) := by
  unfold spec_OpOk.f opOkB
  simp only [l1In_some, Option.bind_some]
  by_cases h1 : o = 1
  · simp only [h1, if_true]
    by_cases p : 0 ≤ a ∧ a ≤ 5 <;> by_cases q : 0 ≤ b ∧ b ≤ 5 <;> by_cases r : 1 ≤ c ∧ c ≤ 6 <;> simp [p, q, r]
  · simp only [h1, if_false]
    by_cases h7 : o = 7
    · simp only [h7, if_true]
      by_cases p : 1 ≤ a ∧ a ≤ 6 <;> by_cases q : 1 ≤ b ∧ b ≤ 6 <;> by_cases r : c = 0 <;> simp [p, q, r]; rfl
    · simp only [h7, if_false]
      by_cases h8 : o = 8
      · simp only [h8, if_true]
        by_cases p : 0 ≤ a ∧ a ≤ 255 <;> by_cases q : 0 ≤ b ∧ b ≤ 255 <;> by_cases r : 0 ≤ c ∧ c ≤ 255 <;> simp [p, q, r]; rfl
      · simp only [h8, if_false]
        by_cases p : 2 ≤ o ∧ o ≤ 6 <;> by_cases q : a = 0 <;> by_cases r : b = 0 <;> by_cases s : c = 0 <;> simp [p, q, r, s]; rfl
theorem impl_OpOk_some (k : Nat) (o a b c d : Int) : impl_OpOk.f (k + 1) o a b c d = some (opOkB o a b c d) := by
  unfold impl_OpOk.f opOkB
  simp only [impl_OpOk.j0, within_some, sizeOk_some, partOk_some, Option.bind_some]
  by_cases h1 : o = 1
  · simp only [h1, if_true]
    by_cases p : 0 ≤ a ∧ a ≤ 5 <;> by_cases q : 0 ≤ b ∧ b ≤ 5 <;> by_cases r : 1 ≤ c ∧ c ≤ 6 <;> simp [p, q, r]
  · simp only [h1, if_false]
    by_cases h2 : o = 2
    · subst h2; simp; rfl
    by_cases h3 : o = 3
    · subst h3; simp; rfl
    by_cases h4 : o = 4
    · subst h4; simp; rfl
    by_cases h5 : o = 5
    · subst h5; simp; rfl
    by_cases h6 : o = 6
    · subst h6; simp; rfl
    by_cases h7 : o = 7
    · subst h7
      simp only [show ¬ ((7 : Int) = 2) by decide, show ¬ ((7 : Int) = 3) by decide, show ¬ ((7 : Int) = 4) by decide, show ¬ ((7 : Int) = 5) by decide, if_false, if_true]
      by_cases p : 1 ≤ a ∧ a ≤ 6 <;> by_cases q : 1 ≤ b ∧ b ≤ 6 <;> by_cases r : c = 0 <;> simp [p, q, r]; rfl
    by_cases h8 : o = 8
    · subst h8
      simp only [show ¬ ((8 : Int) = 2) by decide, show ¬ ((8 : Int) = 3) by decide, show ¬ ((8 : Int) = 4) by decide, show ¬ ((8 : Int) = 5) by decide, show ¬ ((8 : Int) = 7) by decide, if_false, if_true]
      by_cases p : 0 ≤ a ∧ a ≤ 255 <;> by_cases q : 0 ≤ b ∧ b ≤ 255 <;> by_cases r : 0 ≤ c ∧ c ≤ 255 <;> simp [p, q, r]; rfl
    have h9 : ¬ (2 ≤ o ∧ o ≤ 6) := by omega
    have h6' : (o == 6) = false := by simpa using h6
    simp [h2, h3, h4, h5, h7, h8, h9, h6']
abbrev Op := S146
def okB (x : Op) : Bool := opOkB x.f0 x.f1 x.f2 x.f3 x.f4
def opAt (l : List Op) (i : Nat) : Op := rd_T146 l (i : Int)
def allOkB (l : List Op) : Bool := decide (l.length ≤ 5) && (List.range l.length).all fun i => okB (opAt l i)
theorem spec_l6All_ev (l : List Op) (hl : l.length ≤ 4611686018427387904) : Ev (fun k => spec_l6All.f k l) (allOkB l) := by
  have := ev_allR l.length (fun i => okB (opAt l i)) (decide ((l.length : Int) ≤ 5)) (fun k i => spec_l6All.l0 k l i) ?_ ?_ ?_
  · have e : allOkB l = ((List.range l.length).all (fun i => okB (opAt l i)) && decide ((l.length : Int) ≤ 5)) := by
      unfold allOkB
      rw [Bool.and_comm]
      congr 1
      simp only [decide_eq_decide]
      omega
    rw [e]
    exact this
  · intro i hi hp r h
    refine Ev.step (fun k => ?_) h
    have e := spec_OpOk_some (rd_T146 l (i : Int)).f0 (rd_T146 l (i : Int)).f1 (rd_T146 l (i : Int)).f2 (rd_T146 l (i : Int)).f3 (rd_T146 l (i : Int)).f4
    simp only [spec_l6All.l0]
    rw [if_pos (by omega), if_pos (by omega), e]
    simp only [Option.bind_some]
    rw [if_pos (show opOkB (rd_T146 l (i : Int)).f0 (rd_T146 l (i : Int)).f1 (rd_T146 l (i : Int)).f2 (rd_T146 l (i : Int)).f3 (rd_T146 l (i : Int)).f4 = true from hp), wrap_succ (by omega)]
  · intro i hi hp
    refine ev_succ ⟨0, fun k _ => ?_⟩
    have e := spec_OpOk_some (rd_T146 l (i : Int)).f0 (rd_T146 l (i : Int)).f1 (rd_T146 l (i : Int)).f2 (rd_T146 l (i : Int)).f3 (rd_T146 l (i : Int)).f4
    simp only [spec_l6All.l0]
    rw [if_pos (by omega), if_pos (by omega), e]
    simp only [Option.bind_some]
    rw [if_neg (show ¬ (opOkB (rd_T146 l (i : Int)).f0 (rd_T146 l (i : Int)).f1 (rd_T146 l (i : Int)).f2 (rd_T146 l (i : Int)).f3 (rd_T146 l (i : Int)).f4 = true) from by have hp2 : opOkB (rd_T146 l (i : Int)).f0 (rd_T146 l (i : Int)).f1 (rd_T146 l (i : Int)).f2 (rd_T146 l (i : Int)).f3 (rd_T146 l (i : Int)).f4 = false := hp; rw [hp2]; decide)]
  · refine ev_succ ⟨0, fun k _ => ?_⟩
    simp only [spec_l6All.l0]
    rw [if_neg (by omega)]
theorem impl_opsOk_ev (l : List Op) (hl : l.length ≤ 4611686018427387904) : Ev (fun k => impl_opsOk.f k l) (allOkB l) := by
  by_cases h5 : l.length ≤ 5
  · have := ev_allR l.length (fun i => okB (opAt l i)) true (fun k i => impl_opsOk.l0 k l (l.length : Int) i) ?_ ?_ ?_
    · have e : allOkB l = ((List.range l.length).all (fun i => okB (opAt l i)) && true) := by
        unfold allOkB
        simp [h5]
      rw [e]
      refine Ev.congr (fun k => ?_) this
      show impl_opsOk.f k l = _
      unfold impl_opsOk.f
      rw [if_neg (by omega)]
    · intro i hi hp r h
      obtain ⟨K, h⟩ := h
      refine ⟨K + 2, fun k hk => ?_⟩
      obtain ⟨k, rfl⟩ : ∃ m, k = m + 2 := ⟨k - 2, by omega⟩
      have e := impl_OpOk_some k (rd_T146 l (i : Int)).f0 (rd_T146 l (i : Int)).f1 (rd_T146 l (i : Int)).f2 (rd_T146 l (i : Int)).f3 (rd_T146 l (i : Int)).f4
      have e2 := h (k + 1) (by omega)
      dsimp only at e2 ⊢
      simp only [impl_opsOk.l0] at e2 ⊢
      rw [if_pos (by omega), if_pos (by omega), if_pos (by omega), e]
      simp only [Option.bind_some]
      rw [if_pos (show opOkB (rd_T146 l (i : Int)).f0 (rd_T146 l (i : Int)).f1 (rd_T146 l (i : Int)).f2 (rd_T146 l (i : Int)).f3 (rd_T146 l (i : Int)).f4 = true from hp), wrap_succ (by omega)]
      exact e2
    · intro i hi hp
      refine ev_succ (ev_succ ⟨0, fun k _ => ?_⟩)
      have e := impl_OpOk_some k (rd_T146 l (i : Int)).f0 (rd_T146 l (i : Int)).f1 (rd_T146 l (i : Int)).f2 (rd_T146 l (i : Int)).f3 (rd_T146 l (i : Int)).f4
      simp only [impl_opsOk.l0]
      rw [if_pos (by omega), if_pos (by omega), if_pos (by omega), e]
      simp only [Option.bind_some]
      rw [if_neg (show ¬ (opOkB (rd_T146 l (i : Int)).f0 (rd_T146 l (i : Int)).f1 (rd_T146 l (i : Int)).f2 (rd_T146 l (i : Int)).f3 (rd_T146 l (i : Int)).f4 = true) from by have hp2 : opOkB (rd_T146 l (i : Int)).f0 (rd_T146 l (i : Int)).f1 (rd_T146 l (i : Int)).f2 (rd_T146 l (i : Int)).f3 (rd_T146 l (i : Int)).f4 = false := hp; rw [hp2]; decide)]
    · refine ev_succ ⟨0, fun k _ => ?_⟩
      simp only [impl_opsOk.l0]
      rw [if_neg (by omega)]
  · have e : allOkB l = false := by
      unfold allOkB
      simp [h5]
    rw [e]
    refine ⟨0, fun k _ => ?_⟩
    show impl_opsOk.f k l = _
    unfold impl_opsOk.f
    rw [if_pos (by omega)]
def signB (c : Int) : Bool := decide (97 ≤ c ∧ c ≤ 122) || decide (48 ≤ c ∧ c ≤ 57)
def nameB (s : ByteArray) : Bool := decide (1 ≤ s.size ∧ s.size ≤ 6) && (List.range s.size).all fun i => signB (bt s (i : Int))
theorem impl_nameOk_ev (s : ByteArray) : Ev (fun k => impl_nameOk.f k s) (nameB s) := by
  by_cases hs : 1 ≤ s.size ∧ s.size ≤ 6
  · have := ev_allR s.size (fun i => signB (bt s (i : Int))) true (fun k i => impl_nameOk.l0 k s (s.size : Int) i) ?_ ?_ ?_
    · have e : nameB s = ((List.range s.size).all (fun i => signB (bt s (i : Int))) && true) := by
        unfold nameB
        simp [hs]
      rw [e]
      refine Ev.step (fun k => ?_) this
      unfold impl_nameOk.f
      rw [if_neg (by omega)]
      simp only [impl_nameOk.j0]
      rw [if_neg (by simp; omega)]
    · intro i hi hp r h
      refine Ev.step (fun k => ?_) h
      simp only [impl_nameOk.l0]
      rw [if_pos (by omega), if_pos (by omega), if_pos (by omega), wrap_succ (by omega)]
      simp only [signB, Bool.or_eq_true, decide_eq_true_eq] at hp
      repeat' split
      all_goals first | rfl | (exfalso; omega)
    · intro i hi hp
      refine ev_succ ⟨0, fun k _ => ?_⟩
      simp only [impl_nameOk.l0]
      rw [if_pos (by omega), if_pos (by omega), if_pos (by omega)]
      simp only [signB, Bool.or_eq_false_iff, decide_eq_false_iff_not] at hp
      repeat' split
      all_goals first | rfl | (exfalso; omega)
    · refine ev_succ ⟨0, fun k _ => ?_⟩
      simp only [impl_nameOk.l0]
      rw [if_neg (by omega)]
  · have e : nameB s = false := by
      unfold nameB
      simp only [hs, decide_false, Bool.false_and]
    rw [e]
    refine ev_succ ⟨0, fun k _ => ?_⟩
    unfold impl_nameOk.f
    simp only [impl_nameOk.j0]
    split
    · rfl
    · rw [if_pos (by simp; omega)]
theorem spec_l7Path_ev (s : ByteArray) : Ev (fun k => spec_l7Path.f k s) (nameB s) := by
  by_cases hs : 1 ≤ s.size ∧ s.size ≤ 6
  · have := ev_allR s.size (fun i => signB (bt s (i : Int))) true (fun k i => spec_l7Path.l0 k s i) ?_ ?_ ?_
    · have e : nameB s = ((List.range s.size).all (fun i => signB (bt s (i : Int))) && true) := by
        unfold nameB
        simp [hs]
      rw [e]
      refine Ev.step (fun k => ?_) this
      unfold spec_l7Path.f
      rw [if_neg (by omega)]
      simp only [spec_l7Path.j0]
      rw [if_neg (by simp; omega)]
    · intro i hi hp r h
      refine Ev.step (fun k => ?_) h
      simp only [spec_l7Path.l0]
      rw [if_pos (by omega), if_pos (by omega), wrap_succ (by omega)]
      simp only [signB, Bool.or_eq_true, decide_eq_true_eq] at hp
      repeat' split
      all_goals first | rfl | (exfalso; omega)
    · intro i hi hp
      refine ev_succ ⟨0, fun k _ => ?_⟩
      simp only [spec_l7Path.l0]
      rw [if_pos (by omega), if_pos (by omega)]
      simp only [signB, Bool.or_eq_false_iff, decide_eq_false_iff_not] at hp
      repeat' split
      all_goals first | rfl | (exfalso; omega)
    · refine ev_succ ⟨0, fun k _ => ?_⟩
      simp only [spec_l7Path.l0]
      rw [if_neg (by omega)]
  · have e : nameB s = false := by
      unfold nameB
      simp only [hs, decide_false, Bool.false_and]
    rw [e]
    refine ev_succ ⟨0, fun k _ => ?_⟩
    unfold spec_l7Path.f
    simp only [spec_l7Path.j0]
    split
    · rfl
    · rw [if_pos (by simp; omega)]
end Go.Proofs.Ytgpkkkmapgnhkaa.X
namespace Go.Proofs.Ytgpkkkmapgnhkaa.X
open Go.RowKit Go.Proofs.YtgpkkkmapgnhkaaW.PrintWords Go.Proofs.Ytgpkkkmapgnhkaa.Pl
set_option linter.unusedSimpArgs false
set_option linter.unusedVariables false
abbrev Job := S124
abbrev Fil := S156
abbrev Out := S158
abbrev jobAt (l : List Job) (i : Int) : Job := rd_T124 l i
abbrev filAt (l : List Fil) (i : Int) : Fil := rd_T156 l i
abbrev outAt (l : List Out) (i : Int) : Out := rd_T158 l i
theorem all_iff {n : Nat} {p q : Nat → Bool} (h : (∀ i, i < n → p i = true) ↔ (∀ i, i < n → q i = true)) : (List.range n).all p = (List.range n).all q := by
  rw [Bool.eq_iff_iff, List.all_eq_true, List.all_eq_true]
  simpa using h
def jobQ (clock : Int) (j : Job) : Bool := nameB j.f1 && (allOkB j.f2 && decide (0 ≤ j.f3 ∧ j.f3 ≤ clock))
def jobI (clock next : Int) (l : List Job) (i : Nat) : Bool :=
  decide (wrap64 ((if (i : Int) = 0 then -1 else (jobAt l ((i : Int) - 1)).f0) + 1) ≤ (jobAt l i).f0 ∧ (jobAt l i).f0 ≤ wrap64 (next - 1)) && jobQ clock (jobAt l i)
def jobS (clock next : Int) (l : List Job) (i : Nat) : Bool :=
  decide (0 ≤ (jobAt l i).f0 ∧ (jobAt l i).f0 ≤ wrap64 (next - 1)) && (decide ((i : Int) > 0 → (jobAt l ((i : Int) - 1)).f0 < (jobAt l i).f0) && jobQ clock (jobAt l i))
theorem job_same (clock next : Int) (h0 : 0 ≤ next) (h1 : next ≤ 9999) (l : List Job) (n : Nat) : (List.range n).all (jobI clock next l) = (List.range n).all (jobS clock next l) := by
  apply all_iff
  have hw : wrap64 (next - 1) = next - 1 := wrap_id (by omega) (by omega)
  have key : ∀ i : Nat, (∀ j, j < i → jobS clock next l j = true) → jobI clock next l i = jobS clock next l i := by
    intro i hj
    unfold jobI jobS
    rw [hw]
    cases i with
    | zero =>
      have w0 : wrap64 (-1 + 1) = 0 := by unfold wrap64; omega
      rw [if_pos (by rfl), w0, show ((0 : Nat) : Int) = 0 from rfl]
      simp
    | succ i =>
      have hp := hj i (by omega)
      simp only [jobS, Bool.and_eq_true, decide_eq_true_eq, hw] at hp
      have e1 : ((i + 1 : Nat) : Int) - 1 = (i : Int) := by omega
      have e2 : ¬ (((i + 1 : Nat) : Int) = 0) := by omega
      have e3 : ((i + 1 : Nat) : Int) > 0 := by omega
      rw [e1, if_neg e2]
      have w1 : wrap64 ((jobAt l (i : Int)).f0 + 1) = (jobAt l (i : Int)).f0 + 1 := wrap_id (by omega) (by omega)
      rw [w1]
      cases jobQ clock (jobAt l ((i + 1 : Nat) : Int)) with
      | false => simp
      | true =>
        simp only [Bool.and_true]
        rw [← Bool.decide_and, decide_eq_decide]
        constructor
        · rintro ⟨a, b⟩
          exact ⟨⟨by omega, b⟩, fun _ => by omega⟩
        · rintro ⟨⟨a, b⟩, c⟩
          exact ⟨by have := c e3; omega, b⟩
  constructor
  · intro h i
    induction i using Nat.strongRecOn with
    | _ i ih =>
      intro hi
      rw [← key i (fun j hj => ih j hj (by omega))]
      exact h i hi
  · intro h i hi
    rw [key i (fun j hj => h j (by omega))]
    exact h i hi
theorem impl_jobsOk_ev (x0 : List Int) (x1 x2 x3 x4 x5 x6 : Int) (clock s1 s2 next : Int) (js : List Job) (fs : List Fil) (nas : List ByteArray) (os : List Out) (hs : js.length ≤ 1048576) (hq : ∀ y ∈ js, y.f2.length ≤ 1048576) :
    Ev (fun k => impl_jobsOk.f k x0 x1 x2 x3 x4 x5 x6 clock s1 s2 next js fs nas os) (!decide ((js.length : Int) > x3) && (List.range js.length).all (jobI clock next js)) := by
  by_cases hm : (js.length : Int) > x3
  · refine ⟨0, fun k _ => ?_⟩
    simp [impl_jobsOk.f, hm]
  · have := ev_allR js.length (jobI clock next js) true (fun k i => impl_jobsOk.l0 k (if i = 0 then -1 else (jobAt js (i - 1)).f0) js (js.length : Int) i clock s1 s2 next js fs nas os) ?_ ?_ ?_
    · have e : (!decide ((js.length : Int) > x3) && (List.range js.length).all (jobI clock next js)) = ((List.range js.length).all (jobI clock next js) && true) := by
        simp [hm]
      rw [e]
      refine Ev.congr (fun k => ?_) this
      show impl_jobsOk.f k x0 x1 x2 x3 x4 x5 x6 clock s1 s2 next js fs nas os = _
      unfold impl_jobsOk.f
      rw [if_neg hm]
      rfl
    · intro i hi hp r h
      simp only [jobI, jobQ, Bool.and_eq_true] at hp
      obtain ⟨p1, p2, p3, p4⟩ := hp
      obtain ⟨K1, e1⟩ := impl_nameOk_ev (jobAt js i).f1
      obtain ⟨K2, e2⟩ := impl_opsOk_ev (jobAt js i).f2 (by have := hq _ (getD_mem js z124 i hi); show (rd_T124 js (i : Int)).f2.length ≤ _; exact Nat.le_trans this (by omega))
      obtain ⟨K, h⟩ := h
      refine ⟨K + K1 + K2 + 1, fun k hk => ?_⟩
      obtain ⟨k, rfl⟩ : ∃ m, k = m + 1 := ⟨k - 1, by omega⟩
      have f1 := e1 k (by omega)
      have f2 := e2 k (by omega)
      have f3 := h k (by omega)
      dsimp only at f1 f2 f3
      rw [p2] at f1
      rw [p3] at f2
      have e9 : ((i + 1 : Nat) : Int) - 1 = (i : Int) := by omega
      rw [if_neg (by omega), e9] at f3
      simp only [impl_jobsOk.l0, within_some]
      rw [if_pos (by omega), if_pos (by omega), if_pos (by omega)]
      simp only [Option.bind_some]
      rw [if_pos p1]
      rw [show impl_nameOk.f k (rd_T124 js (i : Int)).f1 = _ from f1]
      simp only [Option.bind_some, if_true]
      rw [show impl_opsOk.f k (rd_T124 js (i : Int)).f2 = _ from f2]
      simp only [Option.bind_some, if_true]
      rw [if_pos p4, wrap_succ (by omega)]
      exact f3
    · intro i hi hp
      obtain ⟨K1, e1⟩ := impl_nameOk_ev (jobAt js i).f1
      obtain ⟨K2, e2⟩ := impl_opsOk_ev (jobAt js i).f2 (by have := hq _ (getD_mem js z124 i hi); show (rd_T124 js (i : Int)).f2.length ≤ _; exact Nat.le_trans this (by omega))
      refine ⟨K1 + K2 + 1, fun k hk => ?_⟩
      obtain ⟨k, rfl⟩ : ∃ m, k = m + 1 := ⟨k - 1, by omega⟩
      have f1 := e1 k (by omega)
      have f2 := e2 k (by omega)
      dsimp only at f1 f2
      simp only [impl_jobsOk.l0, within_some]
      rw [if_pos (by omega), if_pos (by omega), if_pos (by omega)]
      simp only [Option.bind_some]
      simp only [jobI, jobQ] at hp
      by_cases p1 : (decide (wrap64 ((if (i : Int) = 0 then -1 else (jobAt js ((i : Int) - 1)).f0) + 1) ≤ (jobAt js i).f0 ∧ (jobAt js i).f0 ≤ wrap64 (next - 1))) = true
      · rw [p1] at hp
        rw [if_pos p1]
        rw [show impl_nameOk.f k (rd_T124 js (i : Int)).f1 = _ from f1]
        simp only [Option.bind_some]
        cases p2 : nameB (jobAt js i).f1 with
        | false => simp
        | true =>
          rw [p2] at hp
          simp only [if_true]
          rw [show impl_opsOk.f k (rd_T124 js (i : Int)).f2 = _ from f2]
          simp only [Option.bind_some]
          cases p3 : allOkB (jobAt js i).f2 with
          | false => simp
          | true =>
            rw [p3] at hp
            simp only [if_true]
            simp only [Bool.true_and] at hp
            rw [if_neg (show ¬ (decide (0 ≤ (rd_T124 js (i : Int)).f3 ∧ (rd_T124 js (i : Int)).f3 ≤ clock) = true) from by rw [show decide (0 ≤ (rd_T124 js (i : Int)).f3 ∧ (rd_T124 js (i : Int)).f3 ≤ clock) = false from hp]; decide)]
      · rw [if_neg p1]
    · refine ev_succ ⟨0, fun k _ => ?_⟩
      simp only [impl_jobsOk.l0]
      rw [if_neg (by omega)]
theorem spec_l8Jobs_ev (x0 : List Int) (x1 x2 x3 x4 x5 x6 : Int) (clock s1 s2 next : Int) (js : List Job) (fs : List Fil) (nas : List ByteArray) (os : List Out) (hs : js.length ≤ 1048576) (hq : ∀ y ∈ js, y.f2.length ≤ 1048576) :
    Ev (fun k => spec_l8Jobs.f k x0 x1 x2 x3 x4 x5 x6 clock s1 s2 next js fs nas os) ((List.range js.length).all (jobS clock next js) && decide ((js.length : Int) ≤ x3)) := by
  refine Ev.congr (fun k => rfl) (ev_allR js.length (jobS clock next js) (decide ((js.length : Int) ≤ x3)) (fun k i => spec_l8Jobs.l0 k i x0 x1 x2 x3 x4 x5 x6 clock s1 s2 next js fs nas os) ?_ ?_ ?_)
  · intro i hi hp r h
    simp only [jobS, jobQ, Bool.and_eq_true] at hp
    obtain ⟨p1, p0, p2, p3, p4⟩ := hp
    obtain ⟨K1, e1⟩ := spec_l7Path_ev (jobAt js i).f1
    obtain ⟨K2, e2⟩ := spec_l6All_ev (jobAt js i).f2 (by have := hq _ (getD_mem js z124 i hi); show (rd_T124 js (i : Int)).f2.length ≤ _; exact Nat.le_trans this (by omega))
    obtain ⟨K, h⟩ := h
    refine ⟨K + K1 + K2 + 1, fun k hk => ?_⟩
    obtain ⟨k, rfl⟩ : ∃ m, k = m + 1 := ⟨k - 1, by omega⟩
    have f1 := e1 k (by omega)
    have f2 := e2 k (by omega)
    have f3 := h k (by omega)
    dsimp only at f1 f2 f3
    rw [p2] at f1
    rw [p3] at f2
    have f1' : spec_l7Path.f k (rd_T124 js (i : Int)).f1 = some true := f1
    have f2' : spec_l6All.f k (rd_T124 js (i : Int)).f2 = some true := f2
    have p4' : decide (0 ≤ (rd_T124 js (i : Int)).f3 ∧ (rd_T124 js (i : Int)).f3 ≤ clock) = true := p4
    simp only [spec_l8Jobs.l0, l1In_some]
    rw [if_pos (by omega), if_pos (by omega)]
    simp only [Option.bind_some]
    rw [if_pos p1, wrap_succ (by omega)]
    by_cases hz : (i : Int) > 0
    · have hw : wrap64 ((i : Int) - 1) = (i : Int) - 1 := wrap_id (by omega) (by omega)
      have hlt : ¬ ((rd_T124 js ((i : Int) - 1)).f0 ≥ (rd_T124 js (i : Int)).f0) := by
        have : (rd_T124 js ((i : Int) - 1)).f0 < (rd_T124 js (i : Int)).f0 := (of_decide_eq_true p0) hz
        omega
      rw [if_pos hz, hw, if_pos (by omega), if_pos (by omega), if_neg hlt, f1']
      simp only [Option.bind_some, if_true, f2', p4']
      exact f3
    · rw [if_neg hz, f1']
      simp only [Option.bind_some, if_true, f2', p4']
      exact f3
  · intro i hi hp
    obtain ⟨K1, e1⟩ := spec_l7Path_ev (jobAt js i).f1
    obtain ⟨K2, e2⟩ := spec_l6All_ev (jobAt js i).f2 (by have := hq _ (getD_mem js z124 i hi); show (rd_T124 js (i : Int)).f2.length ≤ _; exact Nat.le_trans this (by omega))
    refine ⟨K1 + K2 + 1, fun k hk => ?_⟩
    obtain ⟨k, rfl⟩ : ∃ m, k = m + 1 := ⟨k - 1, by omega⟩
    have f1 : spec_l7Path.f k (rd_T124 js (i : Int)).f1 = some (nameB (jobAt js i).f1) := e1 k (by omega)
    have f2 : spec_l6All.f k (rd_T124 js (i : Int)).f2 = some (allOkB (jobAt js i).f2) := e2 k (by omega)
    simp only [spec_l8Jobs.l0, l1In_some]
    rw [if_pos (by omega), if_pos (by omega)]
    simp only [Option.bind_some]
    simp only [jobS, jobQ] at hp
    by_cases p1 : decide (0 ≤ (jobAt js i).f0 ∧ (jobAt js i).f0 ≤ wrap64 (next - 1)) = true
    · rw [p1, Bool.true_and] at hp
      rw [if_pos p1]
      have tail : (decide ((i : Int) > 0 → (jobAt js ((i : Int) - 1)).f0 < (jobAt js i).f0) = true) → ∀ c, ((spec_l7Path.f k (rd_T124 js (i : Int)).f1).bind fun t => (if t = true then ((spec_l6All.f k (rd_T124 js (i : Int)).f2).bind fun t => (if t = true then ((some (decide (0 ≤ (rd_T124 js (i : Int)).f3 ∧ (rd_T124 js (i : Int)).f3 ≤ clock))).bind fun t => (if t = true then c else (some false))) else (some false))) else (some false))) = some false := by
        intro hb c
        rw [hb, Bool.true_and] at hp
        rw [f1]
        simp only [Option.bind_some]
        cases p2 : nameB (jobAt js i).f1 with
        | false => simp
        | true =>
          rw [p2, Bool.true_and] at hp
          simp only [if_true]
          rw [f2]
          simp only [Option.bind_some]
          cases p3 : allOkB (jobAt js i).f2 with
          | false => simp
          | true =>
            rw [p3, Bool.true_and] at hp
            rw [show decide (0 ≤ (rd_T124 js (i : Int)).f3 ∧ (rd_T124 js (i : Int)).f3 ≤ clock) = false from hp]
            simp
      by_cases hz : (i : Int) > 0
      · have hw : wrap64 ((i : Int) - 1) = (i : Int) - 1 := wrap_id (by omega) (by omega)
        rw [if_pos hz, hw, if_pos (by omega), if_pos (by omega)]
        by_cases hlt : (rd_T124 js ((i : Int) - 1)).f0 ≥ (rd_T124 js (i : Int)).f0
        · rw [if_pos hlt]
        · rw [if_neg hlt]
          exact tail (decide_eq_true (fun _ => by show (rd_T124 js ((i : Int) - 1)).f0 < (rd_T124 js (i : Int)).f0; omega)) _
      · rw [if_neg hz]
        exact tail (decide_eq_true (fun h => absurd h hz)) _
    · rw [if_neg p1]
  · refine ev_succ ⟨0, fun k _ => ?_⟩
    simp only [spec_l8Jobs.l0]
    rw [if_neg (by omega)]
end Go.Proofs.Ytgpkkkmapgnhkaa.X
namespace Go.Proofs.Ytgpkkkmapgnhkaa.X
open Go.RowKit Go.Proofs.YtgpkkkmapgnhkaaW.PrintWords Go.Proofs.Ytgpkkkmapgnhkaa.Pl
set_option linter.unusedSimpArgs false
end Go.Proofs.Ytgpkkkmapgnhkaa.X
namespace Go.Proofs.Ytgpkkkmapgnhkaa.Pure
open Go.RowKit Go.Proofs.YtgpkkkmapgnhkaaW.PrintWords Go.Proofs.Ytgpkkkmapgnhkaa.Pl Go.Proofs.Ytgpkkkmapgnhkaa.X
set_option linter.unusedSimpArgs false
set_option linter.unusedVariables false
def inB (n lo hi : Int) : Bool := decide (lo ≤ n ∧ n ≤ hi)
def cfgB (l : List Int) (a b c d e f : Int) : Bool := decide ((l.length : Int) ≤ 32) && (inB a 1 9 && (inB b 1 99 && (inB c 1 4 && (inB d 1 999 && (inB e 1 3 && inB f 1 999)))))
theorem l1In_val (a b c : Int) : spec_l1In.f a b c = some (inB a b c) := by
  unfold spec_l1In.f inB
  by_cases h : b ≤ a <;> simp [h]
theorem spec_CfgOk_val (l : List Int) (a b c d e f : Int) : spec_CfgOk.f l a b c d e f = some (cfgB l a b c d e f) := by
  unfold spec_CfgOk.f cfgB
  simp only [l1In_val, Option.bind_some]
  by_cases h : (l.length : Int) ≤ 32
  · rw [if_pos h, decide_eq_true h]
    cases inB a 1 9 <;> cases inB b 1 99 <;> cases inB c 1 4 <;> cases inB d 1 999 <;> cases inB e 1 3 <;> rfl
  · rw [if_neg h, decide_eq_false h]
    rfl
theorem impl_CfgOk_val (l : List Int) (a b c d e f : Int) : impl_CfgOk.f l a b c d e f = some (cfgB l a b c d e f) := (show impl_CfgOk.f l a b c d e f = spec_CfgOk.f l a b c d e f from rfl).trans (spec_CfgOk_val l a b c d e f)
end Go.Proofs.Ytgpkkkmapgnhkaa.Pure
namespace Go.Proofs.Ytgpkkkmapgnhkaa.X
open Go.RowKit Go.Proofs.YtgpkkkmapgnhkaaW.PrintWords Go.Proofs.Ytgpkkkmapgnhkaa.Pl
set_option linter.unusedSimpArgs false
set_option linter.unusedVariables false
theorem ev_noR (n : Nat) (p : Nat → Bool) (g : Nat → Int → Option Bool)
    (hyes : ∀ i, i < n → p i = true → ∀ r, Ev (fun k => g k ((i + 1 : Nat) : Int)) r → Ev (fun k => g k (i : Int)) r)
    (hno : ∀ i, i < n → p i = false → Ev (fun k => g k (i : Int)) false)
    (h : (List.range n).all p = false) : Ev (fun k => g k 0) false := by
  have key : ∀ d i, i + d = n → (List.range' i d).all p = false → Ev (fun k => g k (i : Int)) false := by
    intro d
    induction d with
    | zero => intro i hi h; simp at h
    | succ d ih =>
      intro i hi h
      rw [List.range'_succ, List.all_cons] at h
      cases hp : p i with
      | true =>
        rw [hp, Bool.true_and] at h
        exact hyes i (by omega) hp _ (ih (i + 1) (by omega) h)
      | false => exact hno i (by omega) hp
  exact key n 0 (by omega) (by rwa [← List.range_eq_range'])
def fdiff (l : List Fil) (i j : Nat) : Bool := !decide ((filAt l i).f0.toList = (filAt l j).f0.toList)
def filQ (clock : Int) (f : Fil) : Bool := nameB f.f0 && (decide (0 ≤ f.f1 ∧ f.f1 ≤ clock) && decide ((f.f2.length : Int) ≤ 220))
def filP (clock : Int) (l : List Fil) (i : Nat) : Bool := filQ clock (filAt l i) && (List.range i).all (fdiff l i)
theorem take_at (l : List Fil) (i j : Nat) (h : j < i) : rd_T156 (l.take i) (j : Int) = filAt l j := by
  show (l.take i).getD j _ = l.getD j _
  simp [List.getD_eq_getElem?_getD, List.getElem?_take, h]
theorem impl_filesOk_ev (x0 : List Int) (x1 x2 x3 x4 x5 x6 : Int) (clock s1 s2 next : Int) (js : List Job) (fs : List Fil) (nas : List ByteArray) (os : List Out) (hs : fs.length ≤ 1048576) :
    Ev (fun k => impl_filesOk.f k x0 x1 x2 x3 x4 x5 x6 clock s1 s2 next js fs nas os) (!decide ((fs.length : Int) > x5) && (List.range fs.length).all (filP clock fs)) := by
  by_cases hm : (fs.length : Int) > x5
  · refine ⟨0, fun k _ => ?_⟩
    simp [impl_filesOk.f, hm]
  · have hyes1 : ∀ i, i < fs.length → ∀ j, j < i → fdiff fs i j = true → ∀ r, Ev (fun k => impl_filesOk.l1 k fs (fs.length : Int) i (fs.take i) (i : Int) ((j + 1 : Nat) : Int) clock s1 s2 next js fs nas os (filAt fs i).f0 (filAt fs i).f1 (filAt fs i).f2) r → Ev (fun k => impl_filesOk.l1 k fs (fs.length : Int) i (fs.take i) (i : Int) (j : Int) clock s1 s2 next js fs nas os (filAt fs i).f0 (filAt fs i).f1 (filAt fs i).f2) r := by
      intro i hi j hj hd r h
      refine Ev.step (fun k => ?_) h
      simp only [impl_filesOk.l1, take_at fs i j hj]
      rw [if_pos (by omega), if_pos (by omega), if_pos (by rw [List.length_take]; omega), if_neg (by simpa [fdiff] using hd), wrap_succ (by omega)]
    have hno1 : ∀ i, i < fs.length → ∀ j, j < i → fdiff fs i j = false → Ev (fun k => impl_filesOk.l1 k fs (fs.length : Int) i (fs.take i) (i : Int) (j : Int) clock s1 s2 next js fs nas os (filAt fs i).f0 (filAt fs i).f1 (filAt fs i).f2) false := by
      intro i hi j hj hd
      refine ev_succ ⟨0, fun k _ => ?_⟩
      simp only [impl_filesOk.l1, take_at fs i j hj]
      rw [if_pos (by omega), if_pos (by omega), if_pos (by rw [List.length_take]; omega), if_pos (by simpa [fdiff] using hd)]
    have hj1 : ∀ i, i < fs.length → ∀ r, Ev (fun k => impl_filesOk.l1 k fs (fs.length : Int) i (fs.take i) (i : Int) 0 clock s1 s2 next js fs nas os (filAt fs i).f0 (filAt fs i).f1 (filAt fs i).f2) r → filQ clock (filAt fs i) = true → Ev (fun k => impl_filesOk.l0 k fs (fs.length : Int) i clock s1 s2 next js fs nas os) r := by
      intro i hi r ⟨K, h⟩ hq
      obtain ⟨K1, e1⟩ := impl_nameOk_ev (filAt fs i).f0
      refine ⟨K + K1 + 2, fun k hk => ?_⟩
      obtain ⟨k, rfl⟩ : ∃ m, k = m + 2 := ⟨k - 2, by omega⟩
      have f1 := e1 (k + 1) (by omega)
      have f3 := h k (by omega)
      dsimp only at f1 f3
      simp only [filQ, Bool.and_eq_true] at hq
      obtain ⟨p1, p2, p3⟩ := hq
      rw [p1] at f1
      simp only [impl_filesOk.l0, within_some]
      rw [if_pos (by omega), if_pos (by omega), if_pos (by omega)]
      rw [show impl_nameOk.f (k + 1) (rd_T156 fs (i : Int)).f0 = _ from f1]
      simp only [Option.bind_some, if_true]
      rw [if_pos p2]
      simp only [impl_filesOk.j1]
      rw [if_neg (show ¬ (decide (((rd_T156 fs (i : Int)).f2.length : Int) > 220) = true) by have := of_decide_eq_true p3; simp only [filAt] at this; simpa using this), if_pos (by omega), if_pos (by omega)]
      have et : ((fs.take i).length : Int) = (i : Int) := by rw [List.length_take]; omega
      simp only [Option.bind_some, Int.toNat_natCast, et]
      exact f3
    have := ev_allR fs.length (filP clock fs) true (fun k i => impl_filesOk.l0 k fs (fs.length : Int) i clock s1 s2 next js fs nas os) ?_ ?_ ?_
    · have e : (!decide ((fs.length : Int) > x5) && (List.range fs.length).all (filP clock fs)) = ((List.range fs.length).all (filP clock fs) && true) := by
        simp [hm]
      rw [e]
      refine Ev.congr (fun k => ?_) this
      show impl_filesOk.f k x0 x1 x2 x3 x4 x5 x6 clock s1 s2 next js fs nas os = _
      unfold impl_filesOk.f
      rw [if_neg hm]
    · intro i hi hp r h
      simp only [filP, Bool.and_eq_true] at hp
      obtain ⟨pq, pd⟩ := hp
      obtain ⟨K, h⟩ := h
      have hend : Ev (fun k => impl_filesOk.l1 k fs (fs.length : Int) i (fs.take i) (i : Int) (i : Int) clock s1 s2 next js fs nas os (filAt fs i).f0 (filAt fs i).f1 (filAt fs i).f2) r := by
        refine ⟨K + 1, fun k hk => ?_⟩
        obtain ⟨k, rfl⟩ : ∃ m, k = m + 1 := ⟨k - 1, by omega⟩
        have f3 := h k (by omega)
        dsimp only at f3
        simp only [impl_filesOk.l1]
        rw [if_neg (by omega), wrap_succ (by omega)]
        exact f3
      refine hj1 i hi r ?_ pq
      cases r with
      | true =>
        have := ev_allR i (fdiff fs i) true (fun k j => impl_filesOk.l1 k fs (fs.length : Int) i (fs.take i) (i : Int) j clock s1 s2 next js fs nas os (filAt fs i).f0 (filAt fs i).f1 (filAt fs i).f2) (hyes1 i hi) (hno1 i hi) hend
        rwa [pd] at this
      | false =>
        have := ev_allR i (fdiff fs i) false (fun k j => impl_filesOk.l1 k fs (fs.length : Int) i (fs.take i) (i : Int) j clock s1 s2 next js fs nas os (filAt fs i).f0 (filAt fs i).f1 (filAt fs i).f2) (hyes1 i hi) (hno1 i hi) hend
        rwa [pd] at this
    · intro i hi hp
      cases hq : filQ clock (filAt fs i) with
      | true =>
        simp only [filP, hq, Bool.true_and] at hp
        exact hj1 i hi false (ev_noR i (fdiff fs i) (fun k j => impl_filesOk.l1 k fs (fs.length : Int) i (fs.take i) (i : Int) j clock s1 s2 next js fs nas os (filAt fs i).f0 (filAt fs i).f1 (filAt fs i).f2) (hyes1 i hi) (hno1 i hi) hp) hq
      | false =>
        obtain ⟨K1, e1⟩ := impl_nameOk_ev (filAt fs i).f0
        refine ⟨K1 + 2, fun k hk => ?_⟩
        obtain ⟨k, rfl⟩ : ∃ m, k = m + 2 := ⟨k - 2, by omega⟩
        have f1 := e1 (k + 1) (by omega)
        dsimp only at f1
        simp only [impl_filesOk.l0, within_some]
        rw [if_pos (by omega), if_pos (by omega), if_pos (by omega)]
        rw [show impl_nameOk.f (k + 1) (rd_T156 fs (i : Int)).f0 = _ from f1]
        simp only [Option.bind_some]
        simp only [filQ] at hq
        cases p1 : nameB (filAt fs i).f0 with
        | false => simp [impl_filesOk.j1]
        | true =>
          rw [p1, Bool.true_and] at hq
          simp only [if_true]
          by_cases p2 : decide (0 ≤ (rd_T156 fs (i : Int)).f1 ∧ (rd_T156 fs (i : Int)).f1 ≤ clock) = true
          · rw [if_pos p2]
            rw [show decide (0 ≤ (filAt fs i).f1 ∧ (filAt fs i).f1 ≤ clock) = true from p2, Bool.true_and] at hq
            have : decide (((rd_T156 fs (i : Int)).f2.length : Int) > 220) = true := by
              have := of_decide_eq_false hq
              simp only [filAt] at this
              exact decide_eq_true (by omega)
            simp only [impl_filesOk.j1, this, if_true]
          · rw [if_neg p2]
            simp only [impl_filesOk.j1, if_true]
    · refine ev_succ ⟨0, fun k _ => ?_⟩
      simp only [impl_filesOk.l0]
      rw [if_neg (by omega)]
theorem spec_l8Kept_ev (fs : List Fil) (hs : fs.length ≤ 1048576) (i : Nat) (hi : i < fs.length) :
    ∃ v, Ev (fun k => spec_l8Kept.f k (fs.take i) (filAt fs i).f0) v ∧ (v ≥ 0 ↔ (List.range i).all (fdiff fs i) = false) := by
  have et : ((fs.take i).length : Int) = (i : Int) := by rw [List.length_take]; omega
  obtain ⟨r, h, hp⟩ := ev_up (α := Int) (σ := Unit) i (fun k j _ => spec_l8Kept.l0 k (fs.take i) (filAt fs i).f0 j) (fun j _ => ∀ j', j' < j → fdiff fs i j' = true) (fun v => v ≥ 0 ↔ (List.range i).all (fdiff fs i) = false) (by
    rintro j - hj hI
    cases hd : fdiff fs i j with
    | true =>
      refine Or.inl ⟨(), fun j' hj' => ?_, fun r h => ?_⟩
      · rcases Nat.lt_or_ge j' j with h | h
        · exact hI j' h
        · have : j' = j := by omega
          subst this; exact hd
      · refine Ev.step (fun k => ?_) h
        simp only [spec_l8Kept.l0, take_at fs i j hj]
        have hd2 : ¬ ((filAt fs j).f0.toList = (filAt fs i).f0.toList) := by
          simp only [fdiff, Bool.not_eq_true', decide_eq_false_iff_not] at hd
          exact fun e => hd e.symm
        rw [if_pos (by omega), if_pos (by omega), if_neg hd2, wrap_succ (by omega)]
    | false =>
      refine Or.inr ⟨(j : Int), ev_succ ⟨0, fun k _ => ?_⟩, ?_⟩
      · simp only [spec_l8Kept.l0, take_at fs i j hj]
        have hd2 : (filAt fs j).f0.toList = (filAt fs i).f0.toList := by
          simp only [fdiff, Bool.not_eq_false', decide_eq_true_eq] at hd
          exact hd.symm
        rw [if_pos (by omega), if_pos (by omega), if_pos hd2]
      · refine ⟨fun _ => ?_, fun _ => by omega⟩
        rw [List.all_eq_false]
        exact ⟨j, by simpa using hj, by rw [hd]; decide⟩) (by
    rintro - hI
    refine ⟨-1, ev_succ ⟨0, fun k _ => ?_⟩, ?_⟩
    · simp only [spec_l8Kept.l0]
      rw [if_neg (by omega)]
    · refine ⟨fun h => absurd h (by omega), fun h => ?_⟩
      rw [List.all_eq_false] at h
      obtain ⟨x, hx, hn⟩ := h
      exact absurd (hI x (by simpa using hx)) hn) 0 () (by omega) (fun j' hj' => absurd hj' (by omega))
  exact ⟨r, h, hp⟩
theorem spec_l8Files_ev (x0 : List Int) (x1 x2 x3 x4 x5 x6 : Int) (clock s1 s2 next : Int) (js : List Job) (fs : List Fil) (nas : List ByteArray) (os : List Out) (hs : fs.length ≤ 1048576) :
    Ev (fun k => spec_l8Files.f k x0 x1 x2 x3 x4 x5 x6 clock s1 s2 next js fs nas os) ((List.range fs.length).all (filP clock fs) && decide ((fs.length : Int) ≤ x5)) := by
  have go : ∀ i, i < fs.length → ∃ K, ∀ k, K ≤ k → spec_l8Files.l0 (k + 1) i x0 x1 x2 x3 x4 x5 x6 clock s1 s2 next js fs nas os = if filP clock fs i = true then spec_l8Files.l0 k ((i + 1 : Nat) : Int) x0 x1 x2 x3 x4 x5 x6 clock s1 s2 next js fs nas os else some false := by
    intro i hi
    obtain ⟨K1, e1⟩ := spec_l7Path_ev (filAt fs i).f0
    obtain ⟨v, ⟨K2, e2⟩, hv⟩ := spec_l8Kept_ev fs hs i hi
    refine ⟨K1 + K2, fun k hk => ?_⟩
    have f1 : spec_l7Path.f k (rd_T156 fs (i : Int)).f0 = some (nameB (filAt fs i).f0) := e1 k (by omega)
    have f2 : spec_l8Kept.f k (fs.take i) (rd_T156 fs (i : Int)).f0 = some v := e2 k (by omega)
    simp only [spec_l8Files.l0, l1In_some]
    rw [if_pos (by omega), if_pos (by omega), f1, wrap_succ (by omega)]
    simp only [Option.bind_some, Int.toNat_natCast, f2]
    rw [show filP clock fs i = (filQ clock (filAt fs i) && (List.range i).all (fdiff fs i)) from rfl]
    simp only [filQ]
    rcases Bool.eq_false_or_eq_true (nameB (filAt fs i).f0) with p1 | p1
    rotate_left
    · simp [p1]
    · simp only [p1, if_true, Bool.true_and]
      by_cases p2 : decide (0 ≤ (filAt fs i).f1 ∧ (filAt fs i).f1 ≤ clock) = true
      · rw [if_pos (show decide (0 ≤ (rd_T156 fs (i : Int)).f1 ∧ (rd_T156 fs (i : Int)).f1 ≤ clock) = true from p2), p2, Bool.true_and]
        by_cases p3 : (((rd_T156 fs (i : Int)).f2.length : Int) > 220)
        · rw [if_pos p3, show decide (((filAt fs i).f2.length : Int) ≤ 220) = false from decide_eq_false (by simp only [filAt]; omega)]
          simp
        · rw [if_neg p3, show decide (((filAt fs i).f2.length : Int) ≤ 220) = true from decide_eq_true (by simp only [filAt]; omega), Bool.true_and, if_pos (by omega)]
          cases hd : (List.range i).all (fdiff fs i) with
          | false => rw [if_pos (hv.2 hd)]; simp
          | true => rw [if_neg (fun h => by have := hv.1 h; rw [hd] at this; cases this)]; simp
      · rw [if_neg (show ¬ decide (0 ≤ (rd_T156 fs (i : Int)).f1 ∧ (rd_T156 fs (i : Int)).f1 ≤ clock) = true from p2), show decide (0 ≤ (filAt fs i).f1 ∧ (filAt fs i).f1 ≤ clock) = false from by simpa using p2]
        simp
  refine Ev.congr (fun k => rfl) (ev_allR fs.length (filP clock fs) (decide ((fs.length : Int) ≤ x5)) (fun k i => spec_l8Files.l0 k i x0 x1 x2 x3 x4 x5 x6 clock s1 s2 next js fs nas os) ?_ ?_ ?_)
  · intro i hi hp r ⟨K, h⟩
    obtain ⟨K1, e1⟩ := go i hi
    refine ⟨K + K1 + 1, fun k hk => ?_⟩
    obtain ⟨k, rfl⟩ : ∃ m, k = m + 1 := ⟨k - 1, by omega⟩
    show spec_l8Files.l0 (k + 1) i x0 x1 x2 x3 x4 x5 x6 clock s1 s2 next js fs nas os = _
    rw [e1 k (by omega), if_pos hp]
    exact h k (by omega)
  · intro i hi hp
    obtain ⟨K1, e1⟩ := go i hi
    refine ⟨K1 + 1, fun k hk => ?_⟩
    obtain ⟨k, rfl⟩ : ∃ m, k = m + 1 := ⟨k - 1, by omega⟩
    show spec_l8Files.l0 (k + 1) i x0 x1 x2 x3 x4 x5 x6 clock s1 s2 next js fs nas os = _
    rw [e1 k (by omega), if_neg (by rw [hp]; decide)]
  · refine ev_succ ⟨0, fun k _ => ?_⟩
    simp only [spec_l8Files.l0]
    rw [if_neg (by omega)]
def askedP (nas : List ByteArray) (i : Nat) : Bool := nameB (rdOf ByteArray.empty nas (i : Int))
theorem impl_askedOk_ev (clock s1 s2 next : Int) (js : List Job) (fs : List Fil) (nas : List ByteArray) (os : List Out) (hs : nas.length ≤ 1048576) :
    Ev (fun k => impl_askedOk.f k clock s1 s2 next js fs nas os) (!decide ((nas.length : Int) > 60) && (List.range nas.length).all (askedP nas)) := by
  by_cases hm : (nas.length : Int) > 60
  · refine ⟨0, fun k _ => ?_⟩
    simp [impl_askedOk.f, hm]
  · have := ev_allR nas.length (askedP nas) true (fun k i => impl_askedOk.l0 k nas (nas.length : Int) i) ?_ ?_ ?_
    · rw [show (!decide ((nas.length : Int) > 60) && (List.range nas.length).all (askedP nas)) = ((List.range nas.length).all (askedP nas) && true) by simp [hm]]
      refine Ev.congr (fun k => ?_) this
      show impl_askedOk.f k clock s1 s2 next js fs nas os = _
      unfold impl_askedOk.f
      rw [if_neg hm]
    · intro i hi hp r ⟨K, h⟩
      obtain ⟨K1, e1⟩ := impl_nameOk_ev (rdOf ByteArray.empty nas (i : Int))
      refine ⟨K + K1 + 1, fun k hk => ?_⟩
      obtain ⟨k, rfl⟩ : ∃ m, k = m + 1 := ⟨k - 1, by omega⟩
      have f1 := e1 k (by omega)
      have f3 := h k (by omega)
      dsimp only at f1 f3
      rw [show nameB (rdOf ByteArray.empty nas (i : Int)) = true from hp] at f1
      simp only [impl_askedOk.l0, f1]
      rw [if_pos (by omega), if_pos (by omega), if_pos (by omega), wrap_succ (by omega)]
      simpa using f3
    · intro i hi hp
      obtain ⟨K1, e1⟩ := impl_nameOk_ev (rdOf ByteArray.empty nas (i : Int))
      refine ⟨K1 + 1, fun k hk => ?_⟩
      obtain ⟨k, rfl⟩ : ∃ m, k = m + 1 := ⟨k - 1, by omega⟩
      have f1 := e1 k (by omega)
      dsimp only at f1
      rw [show nameB (rdOf ByteArray.empty nas (i : Int)) = false from hp] at f1
      simp only [impl_askedOk.l0, f1]
      rw [if_pos (by omega), if_pos (by omega), if_pos (by omega)]
      simp
    · refine ev_succ ⟨0, fun k _ => ?_⟩
      simp only [impl_askedOk.l0]
      rw [if_neg (by omega)]
def codeB (n : Int) : Bool := decide (n = 200) || decide (n = 400) || decide (n = 403) || decide (n = 413) || decide (n = 415) || decide (n = 422) || decide (n = 429) || decide (n = 502) || decide (n = 503) || decide (n = 504)
theorem impl_codeOk_val (n : Int) : impl_codeOk.f n = some (codeB n) := by
  unfold impl_codeOk.f codeB
  repeat' split
  all_goals simp [*]
theorem spec_l8Code_ev (n : Int) : Ev (fun k => spec_l8Code.f k n) (codeB n) := by
  refine ⟨11, fun k hk => ?_⟩
  obtain ⟨k, rfl⟩ : ∃ m, k = m + 11 := ⟨k - 11, by omega⟩
  unfold spec_l8Code.f
  have w (x : Int) (h : 0 ≤ x) (h2 : x ≤ 20) : wrap64 (x + 1) = x + 1 := wrap_id (by omega) (by omega)
  have r0 : rd [200, 400, 403, 413, 415, 422, 429, 502, 503, 504] 0 = 200 := rfl
  have r1 : rd [200, 400, 403, 413, 415, 422, 429, 502, 503, 504] 1 = 400 := rfl
  have r2 : rd [200, 400, 403, 413, 415, 422, 429, 502, 503, 504] 2 = 403 := rfl
  have r3 : rd [200, 400, 403, 413, 415, 422, 429, 502, 503, 504] 3 = 413 := rfl
  have r4 : rd [200, 400, 403, 413, 415, 422, 429, 502, 503, 504] 4 = 415 := rfl
  have r5 : rd [200, 400, 403, 413, 415, 422, 429, 502, 503, 504] 5 = 422 := rfl
  have r6 : rd [200, 400, 403, 413, 415, 422, 429, 502, 503, 504] 6 = 429 := rfl
  have r7 : rd [200, 400, 403, 413, 415, 422, 429, 502, 503, 504] 7 = 502 := rfl
  have r8 : rd [200, 400, 403, 413, 415, 422, 429, 502, 503, 504] 8 = 503 := rfl
  have r9 : rd [200, 400, 403, 413, 415, 422, 429, 502, 503, 504] 9 = 504 := rfl
  have st : ∀ (k : Nat) (i : Int), 0 ≤ i → i < 10 → spec_l8Code.l0 (k + 1) n [200, 400, 403, 413, 415, 422, 429, 502, 503, 504] i = if rd [200, 400, 403, 413, 415, 422, 429, 502, 503, 504] i = n then some true else spec_l8Code.l0 k n [200, 400, 403, 413, 415, 422, 429, 502, 503, 504] (i + 1) := by
    intro k i h0 h1
    rw [spec_l8Code.l0, if_pos (by simp only [List.length_cons, List.length_nil]; omega), if_pos h0, w i h0 (by omega)]
  have en : spec_l8Code.l0 (k + 1) n [200, 400, 403, 413, 415, 422, 429, 502, 503, 504] 10 = some false := by
    rw [spec_l8Code.l0, if_neg (by simp)]
  show spec_l8Code.l0 (k + 11) n [200, 400, 403, 413, 415, 422, 429, 502, 503, 504] 0 = _
  rw [st (k + 10) 0 (by omega) (by omega), r0]
  rw [show (0 : Int) + 1 = 1 from rfl, st (k + 9) 1 (by omega) (by omega), r1]
  rw [show (1 : Int) + 1 = 2 from rfl, st (k + 8) 2 (by omega) (by omega), r2]
  rw [show (2 : Int) + 1 = 3 from rfl, st (k + 7) 3 (by omega) (by omega), r3]
  rw [show (3 : Int) + 1 = 4 from rfl, st (k + 6) 4 (by omega) (by omega), r4]
  rw [show (4 : Int) + 1 = 5 from rfl, st (k + 5) 5 (by omega) (by omega), r5]
  rw [show (5 : Int) + 1 = 6 from rfl, st (k + 4) 6 (by omega) (by omega), r6]
  rw [show (6 : Int) + 1 = 7 from rfl, st (k + 3) 7 (by omega) (by omega), r7]
  rw [show (7 : Int) + 1 = 8 from rfl, st (k + 2) 8 (by omega) (by omega), r8]
  rw [show (8 : Int) + 1 = 9 from rfl, st (k + 1) 9 (by omega) (by omega), r9]
  rw [show (9 : Int) + 1 = 10 from rfl, en]
  unfold codeB
  simp only [eq_comm (b := n)]
  repeat' split
  all_goals simp [*]
def outP (next : Int) (os : List Out) (i : Nat) : Bool := decide (0 ≤ (outAt os i).f0 ∧ (outAt os i).f0 ≤ wrap64 (next - 1)) && (codeB (outAt os i).f1 && (decide (((outAt os i).f2.length : Int) ≤ 220) && (decide (((outAt os i).f2.length : Int) > 0) == ((outAt os i).f1 == 200))))
theorem impl_outsOk_ev (clock s1 s2 next : Int) (js : List Job) (fs : List Fil) (nas : List ByteArray) (os : List Out) (hs : os.length ≤ 1048576) :
    Ev (fun k => impl_outsOk.f k clock s1 s2 next js fs nas os) (!decide ((os.length : Int) > 60) && (List.range os.length).all (outP next os)) := by
  by_cases hm : (os.length : Int) > 60
  · refine ⟨0, fun k _ => ?_⟩
    simp [impl_outsOk.f, hm]
  · have go : ∀ (k i : Nat), i < os.length → impl_outsOk.l0 (k + 2) os (os.length : Int) i clock s1 s2 next js fs nas os = if outP next os i = true then impl_outsOk.l0 k os (os.length : Int) ((i + 1 : Nat) : Int) clock s1 s2 next js fs nas os else some false := by
      intro k i hi
      simp only [impl_outsOk.l0, within_some, impl_codeOk_val, impl_outsOk.j1]
      rw [if_pos (by omega), if_pos (by omega), if_pos (by omega), wrap_succ (by omega)]
      simp only [Option.bind_some, if_true]
      simp only [outP, outAt]
      rcases Bool.eq_false_or_eq_true (decide (0 ≤ (rd_T158 os (i : Int)).f0 ∧ (rd_T158 os (i : Int)).f0 ≤ wrap64 (next - 1))) with p1 | p1
      rotate_left
      · simp only [p1, Bool.false_and, Bool.false_eq_true, if_false]
      · simp only [p1, if_true, Bool.true_and]
        rcases Bool.eq_false_or_eq_true (codeB (rd_T158 os (i : Int)).f1) with p2 | p2
        rotate_left
        · simp only [p2, Bool.false_and, Bool.false_eq_true, if_false]
        · simp only [p2, if_true, Bool.true_and]
          by_cases h3 : ((rd_T158 os (i : Int)).f2.length : Int) > 220
          · have h4 : decide (((rd_T158 os (i : Int)).f2.length : Int) > 220) = true := decide_eq_true h3
            have h5 : decide (((rd_T158 os (i : Int)).f2.length : Int) ≤ 220) = false := decide_eq_false (by omega)
            simp only [h3, h4, h5, if_true, decide_true, Bool.false_and, Bool.false_eq_true, if_false]
          · have h4 : decide (((rd_T158 os (i : Int)).f2.length : Int) > 220) = false := decide_eq_false h3
            have h5 : decide (((rd_T158 os (i : Int)).f2.length : Int) ≤ 220) = true := decide_eq_true (by omega)
            simp only [h3, h4, h5, if_false, decide_false, Bool.false_eq_true, Bool.true_and]
            rcases Bool.eq_false_or_eq_true (decide (((rd_T158 os (i : Int)).f2.length : Int) > 0)) with p4 | p4 <;> rcases Bool.eq_false_or_eq_true ((rd_T158 os (i : Int)).f1 == 200) with p5 | p5 <;> simp only [p4, p5] <;> rfl
    have := ev_allR os.length (outP next os) true (fun k i => impl_outsOk.l0 k os (os.length : Int) i clock s1 s2 next js fs nas os) ?_ ?_ ?_
    · rw [show (!decide ((os.length : Int) > 60) && (List.range os.length).all (outP next os)) = ((List.range os.length).all (outP next os) && true) by simp [hm]]
      refine Ev.congr (fun k => ?_) this
      show impl_outsOk.f k clock s1 s2 next js fs nas os = _
      unfold impl_outsOk.f
      rw [if_neg hm]
    · intro i hi hp r ⟨K, h⟩
      refine ⟨K + 2, fun k hk => ?_⟩
      obtain ⟨k, rfl⟩ : ∃ m, k = m + 2 := ⟨k - 2, by omega⟩
      show impl_outsOk.l0 (k + 2) os (os.length : Int) i clock s1 s2 next js fs nas os = _
      rw [go k i hi, if_pos hp]
      exact h k (by omega)
    · intro i hi hp
      refine ⟨2, fun k hk => ?_⟩
      obtain ⟨k, rfl⟩ : ∃ m, k = m + 2 := ⟨k - 2, by omega⟩
      show impl_outsOk.l0 (k + 2) os (os.length : Int) i clock s1 s2 next js fs nas os = _
      rw [go k i hi, if_neg (by rw [hp]; decide)]
    · refine ev_succ ⟨0, fun k _ => ?_⟩
      simp only [impl_outsOk.l0]
      rw [if_neg (by omega)]
theorem spec_l8Outs_ev (clock s1 s2 next : Int) (js : List Job) (fs : List Fil) (nas : List ByteArray) (os : List Out) (hs : os.length ≤ 1048576) (ha : nas.length ≤ 1048576) :
    Ev (fun k => spec_l8Outs.f k clock s1 s2 next js fs nas os) (!decide ((nas.length : Int) > 60) && (!decide ((os.length : Int) > 60) && ((List.range os.length).all (outP next os) && (List.range nas.length).all (askedP nas)))) := by
  by_cases hm : (os.length : Int) > 60
  · refine ev_succ ⟨0, fun k _ => ?_⟩
    simp [spec_l8Outs.f, hm, spec_l8Outs.j0]
  by_cases hm2 : (nas.length : Int) > 60
  · refine ev_succ ⟨0, fun k _ => ?_⟩
    simp [spec_l8Outs.f, hm, hm2, spec_l8Outs.j0]
  have inner := ev_allR nas.length (askedP nas) true (fun k i => spec_l8Outs.l1 k i clock s1 s2 next js fs nas os) ?_ ?_ ?_
  · have go : ∀ i, i < os.length → ∃ K, ∀ k, K ≤ k → spec_l8Outs.l0 (k + 1) i clock s1 s2 next js fs nas os = if outP next os i = true then spec_l8Outs.l0 k ((i + 1 : Nat) : Int) clock s1 s2 next js fs nas os else some false := by
      intro i hi
      obtain ⟨K, e⟩ := spec_l8Code_ev (outAt os i).f1
      refine ⟨K, fun k hk => ?_⟩
      have f1 : spec_l8Code.f k (rd_T158 os (i : Int)).f1 = some (codeB (outAt os i).f1) := e k hk
      simp only [spec_l8Outs.l0, l1In_some, f1]
      rw [if_pos (by omega), if_pos (by omega), wrap_succ (by omega)]
      simp only [Option.bind_some]
      simp only [outP, outAt]
      rcases Bool.eq_false_or_eq_true (decide (0 ≤ (rd_T158 os (i : Int)).f0 ∧ (rd_T158 os (i : Int)).f0 ≤ wrap64 (next - 1))) with p1 | p1
      rotate_left
      · simp only [p1, Bool.false_and, Bool.false_eq_true, if_false]
      · simp only [p1, if_true, Bool.true_and]
        rcases Bool.eq_false_or_eq_true (codeB (rd_T158 os (i : Int)).f1) with p2 | p2
        rotate_left
        · simp only [p2, Bool.false_and, Bool.false_eq_true, if_false]
        · simp only [p2, if_true, Bool.true_and]
          by_cases h3 : ((rd_T158 os (i : Int)).f2.length : Int) > 220
          · have h4 : decide (((rd_T158 os (i : Int)).f2.length : Int) > 220) = true := decide_eq_true h3
            have h5 : decide (((rd_T158 os (i : Int)).f2.length : Int) ≤ 220) = false := decide_eq_false (by omega)
            simp only [h3, h4, h5, if_true, decide_true, Bool.false_and, Bool.false_eq_true, if_false]
          · have h4 : decide (((rd_T158 os (i : Int)).f2.length : Int) > 220) = false := decide_eq_false h3
            have h5 : decide (((rd_T158 os (i : Int)).f2.length : Int) ≤ 220) = true := decide_eq_true (by omega)
            simp only [h3, h4, h5, if_false, decide_false, Bool.false_eq_true, Bool.true_and]
            rcases Bool.eq_false_or_eq_true (decide (((rd_T158 os (i : Int)).f2.length : Int) > 0)) with p4 | p4 <;> rcases Bool.eq_false_or_eq_true ((rd_T158 os (i : Int)).f1 == 200) with p5 | p5 <;> simp only [p4, p5] <;> rfl
    have := ev_allR os.length (outP next os) ((List.range nas.length).all (askedP nas) && true) (fun k i => spec_l8Outs.l0 k i clock s1 s2 next js fs nas os) ?_ ?_ ?_
    · rw [show (!decide ((nas.length : Int) > 60) && (!decide ((os.length : Int) > 60) && ((List.range os.length).all (outP next os) && (List.range nas.length).all (askedP nas)))) = ((List.range os.length).all (outP next os) && ((List.range nas.length).all (askedP nas) && true)) by simp [hm, hm2]]
      refine ev_succ (Ev.congr (fun k => ?_) this)
      show spec_l8Outs.f (k + 1) clock s1 s2 next js fs nas os = _
      unfold spec_l8Outs.f
      rw [if_neg hm, spec_l8Outs.j0, if_neg (by simpa using hm2)]
    · intro i hi hp r ⟨K, h⟩
      obtain ⟨K1, e1⟩ := go i hi
      refine ⟨K + K1 + 1, fun k hk => ?_⟩
      obtain ⟨k, rfl⟩ : ∃ m, k = m + 1 := ⟨k - 1, by omega⟩
      show spec_l8Outs.l0 (k + 1) i clock s1 s2 next js fs nas os = _
      rw [e1 k (by omega), if_pos hp]
      exact h k (by omega)
    · intro i hi hp
      obtain ⟨K1, e1⟩ := go i hi
      refine ⟨K1 + 1, fun k hk => ?_⟩
      obtain ⟨k, rfl⟩ : ∃ m, k = m + 1 := ⟨k - 1, by omega⟩
      show spec_l8Outs.l0 (k + 1) i clock s1 s2 next js fs nas os = _
      rw [e1 k (by omega), if_neg (by rw [hp]; decide)]
    · refine ev_succ (Ev.congr (fun k => ?_) inner)
      show spec_l8Outs.l0 (k + 1) (os.length : Int) clock s1 s2 next js fs nas os = _
      simp only [spec_l8Outs.l0]
      rw [if_neg (by omega)]
  · intro i hi hp r ⟨K, h⟩
    obtain ⟨K1, e1⟩ := spec_l7Path_ev (rdOf ByteArray.empty nas (i : Int))
    refine ⟨K + K1 + 1, fun k hk => ?_⟩
    obtain ⟨k, rfl⟩ : ∃ m, k = m + 1 := ⟨k - 1, by omega⟩
    have f1 := e1 k (by omega)
    have f3 := h k (by omega)
    dsimp only at f1 f3
    rw [show nameB (rdOf ByteArray.empty nas (i : Int)) = true from hp] at f1
    simp only [spec_l8Outs.l1, f1]
    rw [if_pos (by omega), if_pos (by omega), wrap_succ (by omega)]
    simpa using f3
  · intro i hi hp
    obtain ⟨K1, e1⟩ := spec_l7Path_ev (rdOf ByteArray.empty nas (i : Int))
    refine ⟨K1 + 1, fun k hk => ?_⟩
    obtain ⟨k, rfl⟩ : ∃ m, k = m + 1 := ⟨k - 1, by omega⟩
    have f1 := e1 k (by omega)
    dsimp only at f1
    rw [show nameB (rdOf ByteArray.empty nas (i : Int)) = false from hp] at f1
    simp only [spec_l8Outs.l1, f1]
    rw [if_pos (by omega), if_pos (by omega)]
    simp
  · refine ev_succ ⟨0, fun k _ => ?_⟩
    simp only [spec_l8Outs.l1]
    rw [if_neg (by omega)]
open Go.Proofs.Ytgpkkkmapgnhkaa.Pure (cfgB spec_CfgOk_val impl_CfgOk_val)
def tenB (x0 : List Int) (x1 x2 x3 x4 x5 x6 : Int) (clock tok since next : Int) (js : List Job) (fs : List Fil) (nas : List ByteArray) (os : List Out) : Bool :=
  cfgB x0 x1 x2 x3 x4 x5 x6 && (decide (0 ≤ clock ∧ clock ≤ 9999) && (decide (0 ≤ tok ∧ tok ≤ x1) && (decide (0 ≤ since ∧ since ≤ clock) && (decide (0 ≤ next ∧ next ≤ 9999) &&
    (((List.range js.length).all (jobS clock next js) && decide ((js.length : Int) ≤ x3)) && (((List.range fs.length).all (filP clock fs) && decide ((fs.length : Int) ≤ x5)) && (!decide ((nas.length : Int) > 60) && (!decide ((os.length : Int) > 60) && ((List.range os.length).all (outP next os) && (List.range nas.length).all (askedP nas))))))))))
theorem not_gt (a b : Int) : (!decide (a > b)) = decide (a ≤ b) := by
  by_cases h : a > b
  · rw [decide_eq_true h, decide_eq_false (by omega)]; rfl
  · rw [decide_eq_false h, decide_eq_true (by omega)]; rfl
theorem spec_TenOk_ev (x0 : List Int) (x1 x2 x3 x4 x5 x6 : Int) (clock tok since next : Int) (js : List Job) (fs : List Fil) (nas : List ByteArray) (os : List Out) (h1 : js.length ≤ 1048576) (hq : ∀ y ∈ js, y.f2.length ≤ 1048576) (h2 : fs.length ≤ 1048576) (h3 : nas.length ≤ 1048576) (h4 : os.length ≤ 1048576) :
    Ev (fun k => spec_TenOk.f k x0 x1 x2 x3 x4 x5 x6 clock tok since next js fs nas os) (tenB x0 x1 x2 x3 x4 x5 x6 clock tok since next js fs nas os) := by
  obtain ⟨K1, e1⟩ := spec_l8Jobs_ev x0 x1 x2 x3 x4 x5 x6 clock tok since next js fs nas os h1 hq
  obtain ⟨K2, e2⟩ := spec_l8Files_ev x0 x1 x2 x3 x4 x5 x6 clock tok since next js fs nas os h2
  obtain ⟨K3, e3⟩ := spec_l8Outs_ev clock tok since next js fs nas os h4 h3
  refine ⟨K1 + K2 + K3 + 1, fun k hk => ?_⟩
  obtain ⟨k, rfl⟩ : ∃ m, k = m + 1 := ⟨k - 1, by omega⟩
  have f1 := e1 k (by omega)
  have f2 := e2 k (by omega)
  have f3 := e3 k (by omega)
  dsimp only at f1 f2 f3
  simp only [spec_TenOk.f, spec_TenOk.j0, spec_CfgOk_val, l1In_some, Option.bind_some, f1, f2, f3, tenB]
  generalize ((List.range js.length).all (jobS clock next js) && decide ((js.length : Int) ≤ x3)) = A
  generalize ((List.range fs.length).all (filP clock fs) && decide ((fs.length : Int) ≤ x5)) = B
  generalize (!decide ((nas.length : Int) > 60) && (!decide ((os.length : Int) > 60) && ((List.range os.length).all (outP next os) && (List.range nas.length).all (askedP nas)))) = C
  cases cfgB x0 x1 x2 x3 x4 x5 x6 with
  | false => simp
  | true =>
  cases decide (0 ≤ clock ∧ clock ≤ 9999) with
  | false => simp
  | true =>
  cases decide (0 ≤ tok ∧ tok ≤ x1) with
  | false => simp
  | true =>
  cases decide (0 ≤ since ∧ since ≤ clock) with
  | false => simp
  | true =>
  cases decide (0 ≤ next ∧ next ≤ 9999) <;> cases A <;> cases B <;> cases C <;> simp
theorem impl_TenOk_ev (x0 : List Int) (x1 x2 x3 x4 x5 x6 : Int) (clock tok since next : Int) (js : List Job) (fs : List Fil) (nas : List ByteArray) (os : List Out) (h1 : js.length ≤ 1048576) (hq : ∀ y ∈ js, y.f2.length ≤ 1048576) (h2 : fs.length ≤ 1048576) (h3 : nas.length ≤ 1048576) (h4 : os.length ≤ 1048576) :
    Ev (fun k => impl_TenOk.f k x0 x1 x2 x3 x4 x5 x6 clock tok since next js fs nas os) (tenB x0 x1 x2 x3 x4 x5 x6 clock tok since next js fs nas os) := by
  obtain ⟨K1, e1⟩ := impl_jobsOk_ev x0 x1 x2 x3 x4 x5 x6 clock tok since next js fs nas os h1 hq
  obtain ⟨K2, e2⟩ := impl_filesOk_ev x0 x1 x2 x3 x4 x5 x6 clock tok since next js fs nas os h2
  obtain ⟨K3, e3⟩ := impl_askedOk_ev clock tok since next js fs nas os h3
  obtain ⟨K4, e4⟩ := impl_outsOk_ev clock tok since next js fs nas os h4
  refine ⟨K1 + K2 + K3 + K4 + 2, fun k hk => ?_⟩
  obtain ⟨k, rfl⟩ : ∃ m, k = m + 2 := ⟨k - 2, by omega⟩
  have f1 := e1 k (by omega)
  have f2 := e2 k (by omega)
  have f3 := e3 k (by omega)
  have f4 := e4 k (by omega)
  dsimp only at f1 f2 f3 f4
  simp only [impl_TenOk.f, impl_TenOk.j0, impl_TenOk.j1, impl_CfgOk_val, within_some, Option.bind_some, f1, f2, f3, f4, tenB]
  by_cases hn : 0 ≤ next ∧ next ≤ 9999
  · rw [job_same clock next hn.1 hn.2 js js.length]
    simp only [not_gt]
    generalize (List.range js.length).all (jobS clock next js) = A
    generalize (List.range fs.length).all (filP clock fs) = B
    generalize (List.range os.length).all (outP next os) = C
    generalize (List.range nas.length).all (askedP nas) = D
    generalize decide ((js.length : Int) ≤ x3) = A1
    generalize decide ((fs.length : Int) ≤ x5) = B1
    generalize decide ((os.length : Int) ≤ 60) = C1
    generalize decide ((nas.length : Int) ≤ 60) = D1
    cases cfgB x0 x1 x2 x3 x4 x5 x6 with
    | false => simp
    | true =>
    cases decide (0 ≤ clock ∧ clock ≤ 9999) with
    | false => simp
    | true =>
    cases decide (0 ≤ tok ∧ tok ≤ x1) with
    | false => simp
    | true =>
    cases decide (0 ≤ since ∧ since ≤ clock) with
    | false => simp
    | true =>
    rw [decide_eq_true hn]
    cases A <;> cases A1 <;> cases B <;> cases B1 <;> cases C <;> cases C1 <;> cases D <;> cases D1 <;> simp
  · rw [decide_eq_false hn]
    cases cfgB x0 x1 x2 x3 x4 x5 x6 <;> cases decide (0 ≤ clock ∧ clock ≤ 9999) <;> cases decide (0 ≤ tok ∧ tok ≤ x1) <;> cases decide (0 ≤ since ∧ since ≤ clock) <;> simp
end Go.Proofs.Ytgpkkkmapgnhkaa.X
namespace Go.Proofs.Ytgpkkkmapgnhkaa.X
open Go.RowKit Go.Proofs.YtgpkkkmapgnhkaaW.PrintWords Go.Proofs.Ytgpkkkmapgnhkaa.Pl
set_option linter.unusedSimpArgs false
set_option linter.unusedVariables false
theorem toByteS_ev (l : List Int) (hl : l.length ≤ 1048576) : Ev (fun k => laws_toByteS.f k l) l := by
  have hle := hl
  have := ev_map id 0 0 l (fun k i s => laws_toByteS.l0 k l s i) hle ?_ ?_
  · refine Ev.congr (fun k => ?_) (by simpa using this)
    show laws_toByteS.f k l = _
    unfold laws_toByteS.f
    rw [if_pos (by omega), if_pos (by omega)]
    rfl
  · intro i s hi hs r h
    refine Ev.step (fun k => ?_) h
    simp only [laws_toByteS.l0]
    rw [if_pos (by omega), if_pos (by omega), if_pos (by omega), wrap_succ (by omega)]
    rfl
  · intro k s hs
    simp only [laws_toByteS.l0]
    rw [if_neg (by omega)]
theorem eqByteS_ev (l : List Int) (hl : l.length ≤ 1048576) : Ev (fun k => laws_eqByteS.f k l l) true := by
  have hle := hl
  have := ev_all l.length (fun k i => laws_eqByteS.l0 k l l i) ?_ ?_
  · refine Ev.congr (fun k => ?_) this
    show laws_eqByteS.f k l l = _
    unfold laws_eqByteS.f
    rw [if_pos rfl]
  · intro i hi h
    refine Ev.step (fun k => ?_) h
    simp only [laws_eqByteS.l0]
    rw [if_pos (by omega), if_pos (by omega), if_pos (by omega), wrap_succ (by omega)]
    simp
  · intro k
    simp only [laws_eqByteS.l0]
    rw [if_neg (by omega)]
theorem szByteS_ev (l : List Int) (left : Int) (h0 : 0 ≤ left) (h1 : left ≤ 1048576) (g : l.length ≤ maxLen) : ∃ r, Ev (fun k => laws_szByteS.f l left) r ∧ r ≤ 1048576 ∧ (0 ≤ r → l.length ≤ 1048576) := by
  have hm : maxLen = 9223372036854775807 := rfl
  have hlm : l.length ≤ maxLen := g
  have w : wrap64 (left - (l.length : Int)) = left - (l.length : Int) := wrap_id (by omega) (by omega)
  by_cases n : left - (l.length : Int) < 0
  · exact ⟨-1, ⟨0, fun k hk => by simp [laws_szByteS.f, w, n]⟩, by omega, fun h => absurd h (by omega)⟩
  exact ⟨left - (l.length : Int), ⟨0, fun k hk => by simp [laws_szByteS.f, w, n]⟩, by omega, fun _ => by omega⟩
end Go.Proofs.Ytgpkkkmapgnhkaa.X
namespace Go.Proofs.Ytgpkkkmapgnhkaa.X
open Go.RowKit Go.Proofs.YtgpkkkmapgnhkaaW.PrintWords Go.Proofs.Ytgpkkkmapgnhkaa.Pl
set_option linter.unusedSimpArgs false
set_option linter.unusedVariables false
def sm30 (x : S30) : Prop := x.f0.length ≤ 1048576
def sm24 (x : S24) : Prop := x.f0.length ≤ 1048576
def cTenCfg (x : S30) : S24 := ⟨x.f0, x.f1, x.f2, x.f3, x.f4, x.f5, x.f6⟩
theorem sm_cTenCfg {x : S30} (h : sm30 x) : sm24 (cTenCfg x) := by
  unfold sm30 at h; unfold sm24; exact h
theorem toTenCfg_ev (v0 : List Int) (v1 : Int) (v2 : Int) (v3 : Int) (v4 : Int) (v5 : Int) (v6 : Int) (s0 : v0.length ≤ 1048576) : Ev (fun k => laws_toTenCfg.f k v0 v1 v2 v3 v4 v5 v6) (v0, v1, v2, v3, v4, v5, v6) := by
  obtain ⟨K0, h0⟩ := toByteS_ev v0 s0
  refine ⟨K0, fun k hk => ?_⟩
  simp only [laws_toTenCfg.f, h0 k (by omega), Option.bind_some]
theorem eqTenCfg_ev (v0 : List Int) (v1 : Int) (v2 : Int) (v3 : Int) (v4 : Int) (v5 : Int) (v6 : Int) (s0 : v0.length ≤ 1048576) : Ev (fun k => laws_eqTenCfg.f k v0 v1 v2 v3 v4 v5 v6 v0 v1 v2 v3 v4 v5 v6) true := by
  obtain ⟨K0, h0⟩ := eqByteS_ev v0 s0
  refine ⟨K0, fun k hk => ?_⟩
  simp [laws_eqTenCfg.f, h0 k (by omega)]
theorem szTenCfg_ev (v0 : List Int) (v1 : Int) (v2 : Int) (v3 : Int) (v4 : Int) (v5 : Int) (v6 : Int) (left : Int) (h0 : 0 ≤ left) (h1 : left ≤ 1048576) (g0 : v0.length ≤ maxLen) : ∃ r, Ev (fun k => laws_szTenCfg.f v0 v1 v2 v3 v4 v5 v6 left) r ∧ r ≤ 1048576 ∧ (0 ≤ r → v0.length ≤ 1048576) := by
  have hm : maxLen = 9223372036854775807 := rfl
  obtain ⟨c0, ⟨K0, e0⟩, u0, q0⟩ := szByteS_ev v0 left (by omega) (by omega) g0
  by_cases n0 : c0 < 0
  · exact ⟨-1, ⟨K0, fun k hk => by simp [laws_szTenCfg.f, e0 k (by omega), n0]⟩, by omega, fun h => absurd h (by omega)⟩
  exact ⟨c0, ⟨K0, fun k hk => by simp [laws_szTenCfg.f, e0 k (by omega), n0]⟩, by omega, fun _ => q0 (by omega)⟩
theorem toTenCfgS_ev (l : List S30) (hl : l.length ≤ 1048576 ∧ ∀ y ∈ l, sm30 y) : Ev (fun k => laws_toTenCfgS.f k l) (l.map cTenCfg) := by
  have hle := hl.1
  have := ev_map cTenCfg z30 z24 l (fun k i s => laws_toTenCfgS.l0 k l s i) hle ?_ ?_
  · refine Ev.congr (fun k => ?_) this
    show laws_toTenCfgS.f k l = _
    unfold laws_toTenCfgS.f
    rw [if_pos (by omega), if_pos (by omega)]
    rfl
  · intro i s hi hs r h
    have hx : sm30 (rd_T30 l (i : Int)) := hl.2 _ (getD_mem l z30 i hi)
    unfold sm30 at hx
    have x0 := hx
    obtain ⟨K0, h0⟩ := toTenCfg_ev ((rd_T30 l (i : Int)).f0) ((rd_T30 l (i : Int)).f1) ((rd_T30 l (i : Int)).f2) ((rd_T30 l (i : Int)).f3) ((rd_T30 l (i : Int)).f4) ((rd_T30 l (i : Int)).f5) ((rd_T30 l (i : Int)).f6) x0
    obtain ⟨K, h⟩ := h
    refine ⟨K + K0 + 1, fun k hk => ?_⟩
    obtain ⟨k, rfl⟩ : ∃ m, k = m + 1 := ⟨k - 1, by omega⟩
    have e0 := h0 k (by omega)
    have e1 := h k (by omega)
    dsimp only at e0 e1
    simp only [laws_toTenCfgS.l0]
    rw [if_pos (by omega), if_pos (by omega), e0]
    simp only [Option.bind_some]
    rw [if_pos (by omega), wrap_succ (by omega)]
    exact e1
  · intro k s hs
    simp only [laws_toTenCfgS.l0]
    rw [if_neg (by omega)]
theorem eqTenCfgS_ev (l : List S24) (hl : l.length ≤ 1048576 ∧ ∀ y ∈ l, sm24 y) : Ev (fun k => laws_eqTenCfgS.f k l l) true := by
  have hle := hl.1
  have := ev_all l.length (fun k i => laws_eqTenCfgS.l0 k l l i) ?_ ?_
  · refine Ev.congr (fun k => ?_) this
    show laws_eqTenCfgS.f k l l = _
    unfold laws_eqTenCfgS.f
    rw [if_pos rfl]
  · intro i hi h
    have hx : sm24 (rd_T24 l (i : Int)) := hl.2 _ (getD_mem l z24 i hi)
    unfold sm24 at hx
    have x0 := hx
    obtain ⟨K0, h0⟩ := eqTenCfg_ev ((rd_T24 l (i : Int)).f0) ((rd_T24 l (i : Int)).f1) ((rd_T24 l (i : Int)).f2) ((rd_T24 l (i : Int)).f3) ((rd_T24 l (i : Int)).f4) ((rd_T24 l (i : Int)).f5) ((rd_T24 l (i : Int)).f6) x0
    obtain ⟨K, h⟩ := h
    refine ⟨K + K0 + 1, fun k hk => ?_⟩
    obtain ⟨k, rfl⟩ : ∃ m, k = m + 1 := ⟨k - 1, by omega⟩
    have e0 := h0 k (by omega)
    have e1 := h k (by omega)
    dsimp only at e0 e1
    simp only [laws_eqTenCfgS.l0]
    rw [if_pos (by omega), if_pos (by omega), if_pos (by omega), e0]
    simp only [Option.bind_some, if_true]
    rw [wrap_succ (by omega)]
    exact e1
  · intro k
    simp only [laws_eqTenCfgS.l0]
    rw [if_neg (by omega)]
theorem szTenCfgS_ev (l : List S30) (left : Int) (h0 : 0 ≤ left) (h1 : left ≤ 1048576) (g : l.length ≤ maxLen ∧ ∀ y ∈ l, g30 y) : ∃ r, Ev (fun k => laws_szTenCfgS.f k l left) r ∧ r ≤ 1048576 ∧ (0 ≤ r → l.length ≤ 1048576 ∧ ∀ y ∈ l, sm30 y) := by
  have hm : maxLen = 9223372036854775807 := rfl
  have hlm : l.length ≤ maxLen := g.1
  have w : wrap64 (left - (l.length : Int)) = left - (l.length : Int) := wrap_id (by omega) (by omega)
  by_cases n : left - (l.length : Int) < 0
  · exact ⟨-1, ⟨0, fun k hk => by simp [laws_szTenCfgS.f, w, n]⟩, by omega, fun h => absurd h (by omega)⟩
  have := ev_sum l z30 (fun y => sm30 y) (fun k i x => laws_szTenCfgS.l0 k l x i) ?_ ?_ (left - (l.length : Int)) (by omega) (by omega)
  · obtain ⟨r, ⟨K, hr⟩, hle, hp⟩ := this
    refine ⟨r, ⟨K, fun k hk => ?_⟩, hle, fun h => ⟨by omega, hp h⟩⟩
    have := hr k hk
    simp only [laws_szTenCfgS.f, w]
    rw [if_neg n]
    exact this
  · intro i x hi hx0 hx1
    have hx : g30 (rd_T30 l (i : Int)) := g.2 _ (getD_mem l z30 i hi)
    unfold g30 at hx
    obtain ⟨y_0, y_1, y_2, y_3, y_4, y_5, y_6⟩ := hx
    obtain ⟨c, ⟨K0, e0⟩, u, q⟩ := szTenCfg_ev ((rd_T30 l (i : Int)).f0) ((rd_T30 l (i : Int)).f1) ((rd_T30 l (i : Int)).f2) ((rd_T30 l (i : Int)).f3) ((rd_T30 l (i : Int)).f4) ((rd_T30 l (i : Int)).f5) ((rd_T30 l (i : Int)).f6) x hx0 hx1 y_0.1
    by_cases n2 : c < 0
    · refine Or.inr ⟨K0 + 1, fun k hk => ?_⟩
      obtain ⟨k, rfl⟩ : ∃ m, k = m + 1 := ⟨k - 1, by omega⟩
      have e1 := e0 k (by omega)
      dsimp only at e1
      simp only [laws_szTenCfgS.l0]
      rw [if_pos (by omega), if_pos (by omega), e1]
      simp only [Option.bind_some]
      rw [if_pos n2]
    · refine Or.inl ⟨c, by omega, u, q (by omega), fun r h => ?_⟩
      obtain ⟨K, h⟩ := h
      refine ⟨K + K0 + 1, fun k hk => ?_⟩
      obtain ⟨k, rfl⟩ : ∃ m, k = m + 1 := ⟨k - 1, by omega⟩
      have e1 := e0 k (by omega)
      have e2 := h k (by omega)
      dsimp only at e1 e2
      simp only [laws_szTenCfgS.l0]
      rw [if_pos (by omega), if_pos (by omega), e1]
      simp only [Option.bind_some]
      rw [if_neg n2, wrap_succ (by omega)]
      exact e2
  · intro k x
    simp only [laws_szTenCfgS.l0]
    rw [if_neg (by omega)]
end Go.Proofs.Ytgpkkkmapgnhkaa.X
namespace Go.Proofs.Ytgpkkkmapgnhkaa.X
open Go.RowKit Go.Proofs.YtgpkkkmapgnhkaaW.PrintWords Go.Proofs.Ytgpkkkmapgnhkaa.Pl
set_option linter.unusedSimpArgs false
set_option linter.unusedVariables false
def sm148 (x : S148) : Prop := True
def sm146 (x : S146) : Prop := True
def cOpOp (x : S148) : S146 := ⟨x.f0, x.f1, x.f2, x.f3, x.f4⟩
theorem sm_cOpOp {x : S148} (h : sm148 x) : sm146 (cOpOp x) := by
  unfold sm148 at h; unfold sm146; exact h
theorem toOpOp_ev (v0 : Int) (v1 : Int) (v2 : Int) (v3 : Int) (v4 : Int) : Ev (fun k => laws_toOpOp.f v0 v1 v2 v3 v4) (v0, v1, v2, v3, v4) := by
  refine ⟨0, fun k hk => ?_⟩
  rfl
theorem eqOpOp_ev (v0 : Int) (v1 : Int) (v2 : Int) (v3 : Int) (v4 : Int) : Ev (fun k => laws_eqOpOp.f v0 v1 v2 v3 v4 v0 v1 v2 v3 v4) true := by
  refine ⟨0, fun k hk => ?_⟩
  simp [laws_eqOpOp.f]
theorem toOpOpS_ev (l : List S148) (hl : l.length ≤ 1048576 ∧ ∀ y ∈ l, sm148 y) : Ev (fun k => laws_toOpOpS.f k l) (l.map cOpOp) := by
  have hle := hl.1
  have := ev_map cOpOp z148 z146 l (fun k i s => laws_toOpOpS.l0 k l s i) hle ?_ ?_
  · refine Ev.congr (fun k => ?_) this
    show laws_toOpOpS.f k l = _
    unfold laws_toOpOpS.f
    rw [if_pos (by omega), if_pos (by omega)]
    rfl
  · intro i s hi hs r h
    have hx : sm148 (rd_T148 l (i : Int)) := hl.2 _ (getD_mem l z148 i hi)
    obtain ⟨K0, h0⟩ := toOpOp_ev ((rd_T148 l (i : Int)).f0) ((rd_T148 l (i : Int)).f1) ((rd_T148 l (i : Int)).f2) ((rd_T148 l (i : Int)).f3) ((rd_T148 l (i : Int)).f4) 
    obtain ⟨K, h⟩ := h
    refine ⟨K + K0 + 1, fun k hk => ?_⟩
    obtain ⟨k, rfl⟩ : ∃ m, k = m + 1 := ⟨k - 1, by omega⟩
    have e0 := h0 k (by omega)
    have e1 := h k (by omega)
    dsimp only at e0 e1
    simp only [laws_toOpOpS.l0]
    rw [if_pos (by omega), if_pos (by omega), e0]
    simp only [Option.bind_some]
    rw [if_pos (by omega), wrap_succ (by omega)]
    exact e1
  · intro k s hs
    simp only [laws_toOpOpS.l0]
    rw [if_neg (by omega)]
theorem eqOpOpS_ev (l : List S146) (hl : l.length ≤ 1048576 ∧ ∀ y ∈ l, sm146 y) : Ev (fun k => laws_eqOpOpS.f k l l) true := by
  have hle := hl.1
  have := ev_all l.length (fun k i => laws_eqOpOpS.l0 k l l i) ?_ ?_
  · refine Ev.congr (fun k => ?_) this
    show laws_eqOpOpS.f k l l = _
    unfold laws_eqOpOpS.f
    rw [if_pos rfl]
  · intro i hi h
    have hx : sm146 (rd_T146 l (i : Int)) := hl.2 _ (getD_mem l z146 i hi)
    obtain ⟨K0, h0⟩ := eqOpOp_ev ((rd_T146 l (i : Int)).f0) ((rd_T146 l (i : Int)).f1) ((rd_T146 l (i : Int)).f2) ((rd_T146 l (i : Int)).f3) ((rd_T146 l (i : Int)).f4) 
    obtain ⟨K, h⟩ := h
    refine ⟨K + K0 + 1, fun k hk => ?_⟩
    obtain ⟨k, rfl⟩ : ∃ m, k = m + 1 := ⟨k - 1, by omega⟩
    have e0 := h0 k (by omega)
    have e1 := h k (by omega)
    dsimp only at e0 e1
    simp only [laws_eqOpOpS.l0]
    rw [if_pos (by omega), if_pos (by omega), if_pos (by omega), e0]
    simp only [Option.bind_some, if_true]
    rw [wrap_succ (by omega)]
    exact e1
  · intro k
    simp only [laws_eqOpOpS.l0]
    rw [if_neg (by omega)]
theorem szOpOpS_ev (l : List S148) (left : Int) (h0 : 0 ≤ left) (h1 : left ≤ 1048576) (g : l.length ≤ maxLen ∧ ∀ y ∈ l, g148 y) : ∃ r, Ev (fun k => laws_szOpOpS.f l left) r ∧ r ≤ 1048576 ∧ (0 ≤ r → l.length ≤ 1048576 ∧ ∀ y ∈ l, sm148 y) := by
  have hm : maxLen = 9223372036854775807 := rfl
  have hlm : l.length ≤ maxLen := g.1
  have w : wrap64 (left - (l.length : Int)) = left - (l.length : Int) := wrap_id (by omega) (by omega)
  by_cases n : left - (l.length : Int) < 0
  · exact ⟨-1, ⟨0, fun k hk => by simp [laws_szOpOpS.f, w, n]⟩, by omega, fun h => absurd h (by omega)⟩
  exact ⟨left - (l.length : Int), ⟨0, fun k hk => by simp [laws_szOpOpS.f, w, n]⟩, by omega, fun _ => ⟨by omega, fun y _ => trivial⟩⟩
end Go.Proofs.Ytgpkkkmapgnhkaa.X
namespace Go.Proofs.Ytgpkkkmapgnhkaa.X
open Go.RowKit Go.Proofs.YtgpkkkmapgnhkaaW.PrintWords Go.Proofs.Ytgpkkkmapgnhkaa.Pl
set_option linter.unusedSimpArgs false
set_option linter.unusedVariables false
def sm165 (x : S165) : Prop := x.f1.size ≤ 1048576 ∧ (x.f2.length ≤ 1048576 ∧ ∀ y ∈ x.f2, sm148 y)
def sm124 (x : S124) : Prop := x.f1.size ≤ 1048576 ∧ (x.f2.length ≤ 1048576 ∧ ∀ y ∈ x.f2, sm146 y)
def cTenJob (x : S165) : S124 := ⟨x.f0, x.f1, (x.f2.map cOpOp), x.f3⟩
theorem sm_cTenJob {x : S165} (h : sm165 x) : sm124 (cTenJob x) := by
  unfold sm165 at h; unfold sm124
  obtain ⟨h0, h1⟩ := h
  exact ⟨h0, ⟨by show (List.map _ _).length ≤ _; rw [List.length_map]; exact h1.1, fun y hy => by obtain ⟨z, hz, rfl⟩ := List.mem_map.1 (show y ∈ List.map _ _ from hy); exact sm_cOpOp (h1.2 z hz)⟩⟩
theorem toTenJob_ev (v0 : Int) (v1 : ByteArray) (v2 : List S148) (v3 : Int) (s2 : (v2.length ≤ 1048576 ∧ ∀ y ∈ v2, sm148 y)) : Ev (fun k => laws_toTenJob.f k v0 v1 v2 v3) (v0, v1, (v2.map cOpOp), v3) := by
  obtain ⟨K0, h0⟩ := toOpOpS_ev v2 s2
  refine ⟨K0, fun k hk => ?_⟩
  simp only [laws_toTenJob.f, h0 k (by omega), Option.bind_some]
theorem eqTenJob_ev (v0 : Int) (v1 : ByteArray) (v2 : List S146) (v3 : Int) (s2 : (v2.length ≤ 1048576 ∧ ∀ y ∈ v2, sm146 y)) : Ev (fun k => laws_eqTenJob.f k v0 v1 v2 v3 v0 v1 v2 v3) true := by
  obtain ⟨K0, h0⟩ := eqOpOpS_ev v2 s2
  refine ⟨K0, fun k hk => ?_⟩
  simp [laws_eqTenJob.f, h0 k (by omega)]
theorem szTenJob_ev (v0 : Int) (v1 : ByteArray) (v2 : List S148) (v3 : Int) (left : Int) (h0 : 0 ≤ left) (h1 : left ≤ 1048576) (g1 : v1.size ≤ maxLen) (g2 : v2.length ≤ maxLen ∧ ∀ y ∈ v2, g148 y) : ∃ r, Ev (fun k => laws_szTenJob.f v0 v1 v2 v3 left) r ∧ r ≤ 1048576 ∧ (0 ≤ r → v1.size ≤ 1048576 ∧ (v2.length ≤ 1048576 ∧ ∀ y ∈ v2, sm148 y)) := by
  have hm : maxLen = 9223372036854775807 := rfl
  obtain ⟨c0, hc0⟩ : ∃ c, c = wrap64 (left - (v1.size : Int)) := ⟨_, rfl⟩
  have hv0 : c0 = left - (v1.size : Int) := by rw [hc0]; exact wrap_id (by omega) (by omega)
  by_cases n0 : c0 < 0
  · exact ⟨-1, ⟨0, fun k hk => by simp [laws_szTenJob.f, ← hc0, n0]⟩, by omega, fun h => absurd h (by omega)⟩
  obtain ⟨c1, ⟨K1, e1⟩, u1, q1⟩ := szOpOpS_ev v2 c0 (by omega) (by omega) g2
  by_cases n1 : c1 < 0
  · exact ⟨-1, ⟨K1, fun k hk => by simp [laws_szTenJob.f, ← hc0, n0, e1 k (by omega), n1]⟩, by omega, fun h => absurd h (by omega)⟩
  exact ⟨c1, ⟨K1, fun k hk => by simp [laws_szTenJob.f, ← hc0, n0, e1 k (by omega), n1]⟩, by omega, fun _ => ⟨(by omega), q1 (by omega)⟩⟩
theorem toTenJobS_ev (l : List S165) (hl : l.length ≤ 1048576 ∧ ∀ y ∈ l, sm165 y) : Ev (fun k => laws_toTenJobS.f k l) (l.map cTenJob) := by
  have hle := hl.1
  have := ev_map cTenJob z165 z124 l (fun k i s => laws_toTenJobS.l0 k l s i) hle ?_ ?_
  · refine Ev.congr (fun k => ?_) this
    show laws_toTenJobS.f k l = _
    unfold laws_toTenJobS.f
    rw [if_pos (by omega), if_pos (by omega)]
    rfl
  · intro i s hi hs r h
    have hx : sm165 (rd_T165 l (i : Int)) := hl.2 _ (getD_mem l z165 i hi)
    unfold sm165 at hx
    obtain ⟨x0, x1⟩ := hx
    obtain ⟨K0, h0⟩ := toTenJob_ev ((rd_T165 l (i : Int)).f0) ((rd_T165 l (i : Int)).f1) ((rd_T165 l (i : Int)).f2) ((rd_T165 l (i : Int)).f3) x1
    obtain ⟨K, h⟩ := h
    refine ⟨K + K0 + 1, fun k hk => ?_⟩
    obtain ⟨k, rfl⟩ : ∃ m, k = m + 1 := ⟨k - 1, by omega⟩
    have e0 := h0 k (by omega)
    have e1 := h k (by omega)
    dsimp only at e0 e1
    simp only [laws_toTenJobS.l0]
    rw [if_pos (by omega), if_pos (by omega), e0]
    simp only [Option.bind_some]
    rw [if_pos (by omega), wrap_succ (by omega)]
    exact e1
  · intro k s hs
    simp only [laws_toTenJobS.l0]
    rw [if_neg (by omega)]
theorem eqTenJobS_ev (l : List S124) (hl : l.length ≤ 1048576 ∧ ∀ y ∈ l, sm124 y) : Ev (fun k => laws_eqTenJobS.f k l l) true := by
  have hle := hl.1
  have := ev_all l.length (fun k i => laws_eqTenJobS.l0 k l l i) ?_ ?_
  · refine Ev.congr (fun k => ?_) this
    show laws_eqTenJobS.f k l l = _
    unfold laws_eqTenJobS.f
    rw [if_pos rfl]
  · intro i hi h
    have hx : sm124 (rd_T124 l (i : Int)) := hl.2 _ (getD_mem l z124 i hi)
    unfold sm124 at hx
    obtain ⟨x0, x1⟩ := hx
    obtain ⟨K0, h0⟩ := eqTenJob_ev ((rd_T124 l (i : Int)).f0) ((rd_T124 l (i : Int)).f1) ((rd_T124 l (i : Int)).f2) ((rd_T124 l (i : Int)).f3) x1
    obtain ⟨K, h⟩ := h
    refine ⟨K + K0 + 1, fun k hk => ?_⟩
    obtain ⟨k, rfl⟩ : ∃ m, k = m + 1 := ⟨k - 1, by omega⟩
    have e0 := h0 k (by omega)
    have e1 := h k (by omega)
    dsimp only at e0 e1
    simp only [laws_eqTenJobS.l0]
    rw [if_pos (by omega), if_pos (by omega), if_pos (by omega), e0]
    simp only [Option.bind_some, if_true]
    rw [wrap_succ (by omega)]
    exact e1
  · intro k
    simp only [laws_eqTenJobS.l0]
    rw [if_neg (by omega)]
theorem szTenJobS_ev (l : List S165) (left : Int) (h0 : 0 ≤ left) (h1 : left ≤ 1048576) (g : l.length ≤ maxLen ∧ ∀ y ∈ l, g165 y) : ∃ r, Ev (fun k => laws_szTenJobS.f k l left) r ∧ r ≤ 1048576 ∧ (0 ≤ r → l.length ≤ 1048576 ∧ ∀ y ∈ l, sm165 y) := by
  have hm : maxLen = 9223372036854775807 := rfl
  have hlm : l.length ≤ maxLen := g.1
  have w : wrap64 (left - (l.length : Int)) = left - (l.length : Int) := wrap_id (by omega) (by omega)
  by_cases n : left - (l.length : Int) < 0
  · exact ⟨-1, ⟨0, fun k hk => by simp [laws_szTenJobS.f, w, n]⟩, by omega, fun h => absurd h (by omega)⟩
  have := ev_sum l z165 (fun y => sm165 y) (fun k i x => laws_szTenJobS.l0 k l x i) ?_ ?_ (left - (l.length : Int)) (by omega) (by omega)
  · obtain ⟨r, ⟨K, hr⟩, hle, hp⟩ := this
    refine ⟨r, ⟨K, fun k hk => ?_⟩, hle, fun h => ⟨by omega, hp h⟩⟩
    have := hr k hk
    simp only [laws_szTenJobS.f, w]
    rw [if_neg n]
    exact this
  · intro i x hi hx0 hx1
    have hx : g165 (rd_T165 l (i : Int)) := g.2 _ (getD_mem l z165 i hi)
    unfold g165 at hx
    obtain ⟨y_0, y_1, y_2, y_3⟩ := hx
    obtain ⟨c, ⟨K0, e0⟩, u, q⟩ := szTenJob_ev ((rd_T165 l (i : Int)).f0) ((rd_T165 l (i : Int)).f1) ((rd_T165 l (i : Int)).f2) ((rd_T165 l (i : Int)).f3) x hx0 hx1 y_1 y_2
    by_cases n2 : c < 0
    · refine Or.inr ⟨K0 + 1, fun k hk => ?_⟩
      obtain ⟨k, rfl⟩ : ∃ m, k = m + 1 := ⟨k - 1, by omega⟩
      have e1 := e0 k (by omega)
      dsimp only at e1
      simp only [laws_szTenJobS.l0]
      rw [if_pos (by omega), if_pos (by omega), e1]
      simp only [Option.bind_some]
      rw [if_pos n2]
    · refine Or.inl ⟨c, by omega, u, q (by omega), fun r h => ?_⟩
      obtain ⟨K, h⟩ := h
      refine ⟨K + K0 + 1, fun k hk => ?_⟩
      obtain ⟨k, rfl⟩ : ∃ m, k = m + 1 := ⟨k - 1, by omega⟩
      have e1 := e0 k (by omega)
      have e2 := h k (by omega)
      dsimp only at e1 e2
      simp only [laws_szTenJobS.l0]
      rw [if_pos (by omega), if_pos (by omega), e1]
      simp only [Option.bind_some]
      rw [if_neg n2, wrap_succ (by omega)]
      exact e2
  · intro k x
    simp only [laws_szTenJobS.l0]
    rw [if_neg (by omega)]
end Go.Proofs.Ytgpkkkmapgnhkaa.X
namespace Go.Proofs.Ytgpkkkmapgnhkaa.X
open Go.RowKit Go.Proofs.YtgpkkkmapgnhkaaW.PrintWords Go.Proofs.Ytgpkkkmapgnhkaa.Pl
set_option linter.unusedSimpArgs false
set_option linter.unusedVariables false
def sm167 (x : S167) : Prop := x.f0.size ≤ 1048576 ∧ x.f2.length ≤ 1048576
def sm156 (x : S156) : Prop := x.f0.size ≤ 1048576 ∧ x.f2.length ≤ 1048576
def cTenFile (x : S167) : S156 := ⟨x.f0, x.f1, x.f2⟩
theorem sm_cTenFile {x : S167} (h : sm167 x) : sm156 (cTenFile x) := by
  unfold sm167 at h; unfold sm156; exact h
theorem toTenFile_ev (v0 : ByteArray) (v1 : Int) (v2 : List Int) (s2 : v2.length ≤ 1048576) : Ev (fun k => laws_toTenFile.f k v0 v1 v2) (v0, v1, v2) := by
  obtain ⟨K0, h0⟩ := toByteS_ev v2 s2
  refine ⟨K0, fun k hk => ?_⟩
  simp only [laws_toTenFile.f, h0 k (by omega), Option.bind_some]
theorem eqTenFile_ev (v0 : ByteArray) (v1 : Int) (v2 : List Int) (s2 : v2.length ≤ 1048576) : Ev (fun k => laws_eqTenFile.f k v0 v1 v2 v0 v1 v2) true := by
  obtain ⟨K0, h0⟩ := eqByteS_ev v2 s2
  refine ⟨K0, fun k hk => ?_⟩
  simp [laws_eqTenFile.f, h0 k (by omega)]
theorem szTenFile_ev (v0 : ByteArray) (v1 : Int) (v2 : List Int) (left : Int) (h0 : 0 ≤ left) (h1 : left ≤ 1048576) (g0 : v0.size ≤ maxLen) (g2 : v2.length ≤ maxLen) : ∃ r, Ev (fun k => laws_szTenFile.f v0 v1 v2 left) r ∧ r ≤ 1048576 ∧ (0 ≤ r → v0.size ≤ 1048576 ∧ v2.length ≤ 1048576) := by
  have hm : maxLen = 9223372036854775807 := rfl
  obtain ⟨c0, hc0⟩ : ∃ c, c = wrap64 (left - (v0.size : Int)) := ⟨_, rfl⟩
  have hv0 : c0 = left - (v0.size : Int) := by rw [hc0]; exact wrap_id (by omega) (by omega)
  by_cases n0 : c0 < 0
  · exact ⟨-1, ⟨0, fun k hk => by simp [laws_szTenFile.f, ← hc0, n0]⟩, by omega, fun h => absurd h (by omega)⟩
  obtain ⟨c1, ⟨K1, e1⟩, u1, q1⟩ := szByteS_ev v2 c0 (by omega) (by omega) g2
  by_cases n1 : c1 < 0
  · exact ⟨-1, ⟨K1, fun k hk => by simp [laws_szTenFile.f, ← hc0, n0, e1 k (by omega), n1]⟩, by omega, fun h => absurd h (by omega)⟩
  exact ⟨c1, ⟨K1, fun k hk => by simp [laws_szTenFile.f, ← hc0, n0, e1 k (by omega), n1]⟩, by omega, fun _ => ⟨(by omega), q1 (by omega)⟩⟩
theorem toTenFileS_ev (l : List S167) (hl : l.length ≤ 1048576 ∧ ∀ y ∈ l, sm167 y) : Ev (fun k => laws_toTenFileS.f k l) (l.map cTenFile) := by
  have hle := hl.1
  have := ev_map cTenFile z167 z156 l (fun k i s => laws_toTenFileS.l0 k l s i) hle ?_ ?_
  · refine Ev.congr (fun k => ?_) this
    show laws_toTenFileS.f k l = _
    unfold laws_toTenFileS.f
    rw [if_pos (by omega), if_pos (by omega)]
    rfl
  · intro i s hi hs r h
    have hx : sm167 (rd_T167 l (i : Int)) := hl.2 _ (getD_mem l z167 i hi)
    unfold sm167 at hx
    obtain ⟨x0, x1⟩ := hx
    obtain ⟨K0, h0⟩ := toTenFile_ev ((rd_T167 l (i : Int)).f0) ((rd_T167 l (i : Int)).f1) ((rd_T167 l (i : Int)).f2) x1
    obtain ⟨K, h⟩ := h
    refine ⟨K + K0 + 1, fun k hk => ?_⟩
    obtain ⟨k, rfl⟩ : ∃ m, k = m + 1 := ⟨k - 1, by omega⟩
    have e0 := h0 k (by omega)
    have e1 := h k (by omega)
    dsimp only at e0 e1
    simp only [laws_toTenFileS.l0]
    rw [if_pos (by omega), if_pos (by omega), e0]
    simp only [Option.bind_some]
    rw [if_pos (by omega), wrap_succ (by omega)]
    exact e1
  · intro k s hs
    simp only [laws_toTenFileS.l0]
    rw [if_neg (by omega)]
theorem eqTenFileS_ev (l : List S156) (hl : l.length ≤ 1048576 ∧ ∀ y ∈ l, sm156 y) : Ev (fun k => laws_eqTenFileS.f k l l) true := by
  have hle := hl.1
  have := ev_all l.length (fun k i => laws_eqTenFileS.l0 k l l i) ?_ ?_
  · refine Ev.congr (fun k => ?_) this
    show laws_eqTenFileS.f k l l = _
    unfold laws_eqTenFileS.f
    rw [if_pos rfl]
  · intro i hi h
    have hx : sm156 (rd_T156 l (i : Int)) := hl.2 _ (getD_mem l z156 i hi)
    unfold sm156 at hx
    obtain ⟨x0, x1⟩ := hx
    obtain ⟨K0, h0⟩ := eqTenFile_ev ((rd_T156 l (i : Int)).f0) ((rd_T156 l (i : Int)).f1) ((rd_T156 l (i : Int)).f2) x1
    obtain ⟨K, h⟩ := h
    refine ⟨K + K0 + 1, fun k hk => ?_⟩
    obtain ⟨k, rfl⟩ : ∃ m, k = m + 1 := ⟨k - 1, by omega⟩
    have e0 := h0 k (by omega)
    have e1 := h k (by omega)
    dsimp only at e0 e1
    simp only [laws_eqTenFileS.l0]
    rw [if_pos (by omega), if_pos (by omega), if_pos (by omega), e0]
    simp only [Option.bind_some, if_true]
    rw [wrap_succ (by omega)]
    exact e1
  · intro k
    simp only [laws_eqTenFileS.l0]
    rw [if_neg (by omega)]
theorem szTenFileS_ev (l : List S167) (left : Int) (h0 : 0 ≤ left) (h1 : left ≤ 1048576) (g : l.length ≤ maxLen ∧ ∀ y ∈ l, g167 y) : ∃ r, Ev (fun k => laws_szTenFileS.f k l left) r ∧ r ≤ 1048576 ∧ (0 ≤ r → l.length ≤ 1048576 ∧ ∀ y ∈ l, sm167 y) := by
  have hm : maxLen = 9223372036854775807 := rfl
  have hlm : l.length ≤ maxLen := g.1
  have w : wrap64 (left - (l.length : Int)) = left - (l.length : Int) := wrap_id (by omega) (by omega)
  by_cases n : left - (l.length : Int) < 0
  · exact ⟨-1, ⟨0, fun k hk => by simp [laws_szTenFileS.f, w, n]⟩, by omega, fun h => absurd h (by omega)⟩
  have := ev_sum l z167 (fun y => sm167 y) (fun k i x => laws_szTenFileS.l0 k l x i) ?_ ?_ (left - (l.length : Int)) (by omega) (by omega)
  · obtain ⟨r, ⟨K, hr⟩, hle, hp⟩ := this
    refine ⟨r, ⟨K, fun k hk => ?_⟩, hle, fun h => ⟨by omega, hp h⟩⟩
    have := hr k hk
    simp only [laws_szTenFileS.f, w]
    rw [if_neg n]
    exact this
  · intro i x hi hx0 hx1
    have hx : g167 (rd_T167 l (i : Int)) := g.2 _ (getD_mem l z167 i hi)
    unfold g167 at hx
    obtain ⟨y_0, y_1, y_2⟩ := hx
    obtain ⟨c, ⟨K0, e0⟩, u, q⟩ := szTenFile_ev ((rd_T167 l (i : Int)).f0) ((rd_T167 l (i : Int)).f1) ((rd_T167 l (i : Int)).f2) x hx0 hx1 y_0 y_2.1
    by_cases n2 : c < 0
    · refine Or.inr ⟨K0 + 1, fun k hk => ?_⟩
      obtain ⟨k, rfl⟩ : ∃ m, k = m + 1 := ⟨k - 1, by omega⟩
      have e1 := e0 k (by omega)
      dsimp only at e1
      simp only [laws_szTenFileS.l0]
      rw [if_pos (by omega), if_pos (by omega), e1]
      simp only [Option.bind_some]
      rw [if_pos n2]
    · refine Or.inl ⟨c, by omega, u, q (by omega), fun r h => ?_⟩
      obtain ⟨K, h⟩ := h
      refine ⟨K + K0 + 1, fun k hk => ?_⟩
      obtain ⟨k, rfl⟩ : ∃ m, k = m + 1 := ⟨k - 1, by omega⟩
      have e1 := e0 k (by omega)
      have e2 := h k (by omega)
      dsimp only at e1 e2
      simp only [laws_szTenFileS.l0]
      rw [if_pos (by omega), if_pos (by omega), e1]
      simp only [Option.bind_some]
      rw [if_neg n2, wrap_succ (by omega)]
      exact e2
  · intro k x
    simp only [laws_szTenFileS.l0]
    rw [if_neg (by omega)]
end Go.Proofs.Ytgpkkkmapgnhkaa.X
namespace Go.Proofs.Ytgpkkkmapgnhkaa.X
open Go.RowKit Go.Proofs.YtgpkkkmapgnhkaaW.PrintWords Go.Proofs.Ytgpkkkmapgnhkaa.Pl
set_option linter.unusedSimpArgs false
set_option linter.unusedVariables false
theorem toStringS_ev (l : List ByteArray) (hl : l.length ≤ 1048576 ∧ ∀ y ∈ l, y.size ≤ 1048576) : Ev (fun k => laws_toStringS.f k l) l := by
  have hle := hl.1
  have := ev_map id ByteArray.empty ByteArray.empty l (fun k i s => laws_toStringS.l0 k l s i) hle ?_ ?_
  · refine Ev.congr (fun k => ?_) (by simpa using this)
    show laws_toStringS.f k l = _
    unfold laws_toStringS.f
    rw [if_pos (by omega), if_pos (by omega)]
    rfl
  · intro i s hi hs r h
    refine Ev.step (fun k => ?_) h
    simp only [laws_toStringS.l0]
    rw [if_pos (by omega), if_pos (by omega), if_pos (by omega), wrap_succ (by omega)]
    rfl
  · intro k s hs
    simp only [laws_toStringS.l0]
    rw [if_neg (by omega)]
theorem eqStringS_ev (l : List ByteArray) (hl : l.length ≤ 1048576 ∧ ∀ y ∈ l, y.size ≤ 1048576) : Ev (fun k => laws_eqStringS.f k l l) true := by
  have hle := hl.1
  have := ev_all l.length (fun k i => laws_eqStringS.l0 k l l i) ?_ ?_
  · refine Ev.congr (fun k => ?_) this
    show laws_eqStringS.f k l l = _
    unfold laws_eqStringS.f
    rw [if_pos rfl]
  · intro i hi h
    refine Ev.step (fun k => ?_) h
    simp only [laws_eqStringS.l0]
    rw [if_pos (by omega), if_pos (by omega), if_pos (by omega), wrap_succ (by omega)]
    simp
  · intro k
    simp only [laws_eqStringS.l0]
    rw [if_neg (by omega)]
theorem szStringS_ev (l : List ByteArray) (left : Int) (h0 : 0 ≤ left) (h1 : left ≤ 1048576) (g : l.length ≤ maxLen ∧ ∀ y ∈ l, y.size ≤ maxLen) : ∃ r, Ev (fun k => laws_szStringS.f k l left) r ∧ r ≤ 1048576 ∧ (0 ≤ r → l.length ≤ 1048576 ∧ ∀ y ∈ l, y.size ≤ 1048576) := by
  have hm : maxLen = 9223372036854775807 := rfl
  have hlm : l.length ≤ maxLen := g.1
  have w : wrap64 (left - (l.length : Int)) = left - (l.length : Int) := wrap_id (by omega) (by omega)
  by_cases n : left - (l.length : Int) < 0
  · exact ⟨-1, ⟨0, fun k hk => by simp [laws_szStringS.f, w, n]⟩, by omega, fun h => absurd h (by omega)⟩
  have := ev_sum l ByteArray.empty (fun y => y.size ≤ 1048576) (fun k i x => laws_szStringS.l0 k l x i) ?_ ?_ (left - (l.length : Int)) (by omega) (by omega)
  · obtain ⟨r, ⟨K, hr⟩, hle, hp⟩ := this
    refine ⟨r, ⟨K, fun k hk => ?_⟩, hle, fun h => ⟨by omega, hp h⟩⟩
    have := hr k hk
    simp only [laws_szStringS.f, w]
    rw [if_neg n]
    exact this
  · intro i x hi hx0 hx1
    have hy : (rdOf ByteArray.empty l (i : Int)).size ≤ maxLen := g.2 _ (getD_mem l ByteArray.empty i hi)
    obtain ⟨y, ey⟩ : ∃ y, y = rdOf ByteArray.empty l (i : Int) := ⟨_, rfl⟩
    rw [← ey] at hy
    have w2 : wrap64 (x - (y.size : Int)) = x - (y.size : Int) := wrap_id (by omega) (by omega)
    by_cases n2 : x - (y.size : Int) < 0
    · refine Or.inr (ev_succ ⟨0, fun k _ => ?_⟩)
      simp only [laws_szStringS.l0]
      rw [if_pos (by omega), if_pos (by omega), ← ey, w2, if_pos n2]
    · refine Or.inl ⟨x - (y.size : Int), by omega, by omega, ?_, fun r h => Ev.step (fun k => ?_) h⟩
      · show (rdOf ByteArray.empty l (i : Int)).size ≤ _
        rw [← ey]; omega
      · simp only [laws_szStringS.l0]
        rw [if_pos (by omega), if_pos (by omega), ← ey, w2, if_neg n2, wrap_succ (by omega)]
  · intro k x
    simp only [laws_szStringS.l0]
    rw [if_neg (by omega)]
end Go.Proofs.Ytgpkkkmapgnhkaa.X
namespace Go.Proofs.Ytgpkkkmapgnhkaa.X
open Go.RowKit Go.Proofs.YtgpkkkmapgnhkaaW.PrintWords Go.Proofs.Ytgpkkkmapgnhkaa.Pl
set_option linter.unusedSimpArgs false
set_option linter.unusedVariables false
def sm169 (x : S169) : Prop := x.f2.length ≤ 1048576
def sm158 (x : S158) : Prop := x.f2.length ≤ 1048576
def cTenOut (x : S169) : S158 := ⟨x.f0, x.f1, x.f2⟩
theorem sm_cTenOut {x : S169} (h : sm169 x) : sm158 (cTenOut x) := by
  unfold sm169 at h; unfold sm158; exact h
theorem toTenOut_ev (v0 : Int) (v1 : Int) (v2 : List Int) (s2 : v2.length ≤ 1048576) : Ev (fun k => laws_toTenOut.f k v0 v1 v2) (v0, v1, v2) := by
  obtain ⟨K0, h0⟩ := toByteS_ev v2 s2
  refine ⟨K0, fun k hk => ?_⟩
  simp only [laws_toTenOut.f, h0 k (by omega), Option.bind_some]
theorem eqTenOut_ev (v0 : Int) (v1 : Int) (v2 : List Int) (s2 : v2.length ≤ 1048576) : Ev (fun k => laws_eqTenOut.f k v0 v1 v2 v0 v1 v2) true := by
  obtain ⟨K0, h0⟩ := eqByteS_ev v2 s2
  refine ⟨K0, fun k hk => ?_⟩
  simp [laws_eqTenOut.f, h0 k (by omega)]
theorem szTenOut_ev (v0 : Int) (v1 : Int) (v2 : List Int) (left : Int) (h0 : 0 ≤ left) (h1 : left ≤ 1048576) (g2 : v2.length ≤ maxLen) : ∃ r, Ev (fun k => laws_szTenOut.f v0 v1 v2 left) r ∧ r ≤ 1048576 ∧ (0 ≤ r → v2.length ≤ 1048576) := by
  have hm : maxLen = 9223372036854775807 := rfl
  obtain ⟨c0, ⟨K0, e0⟩, u0, q0⟩ := szByteS_ev v2 left (by omega) (by omega) g2
  by_cases n0 : c0 < 0
  · exact ⟨-1, ⟨K0, fun k hk => by simp [laws_szTenOut.f, e0 k (by omega), n0]⟩, by omega, fun h => absurd h (by omega)⟩
  exact ⟨c0, ⟨K0, fun k hk => by simp [laws_szTenOut.f, e0 k (by omega), n0]⟩, by omega, fun _ => q0 (by omega)⟩
theorem toTenOutS_ev (l : List S169) (hl : l.length ≤ 1048576 ∧ ∀ y ∈ l, sm169 y) : Ev (fun k => laws_toTenOutS.f k l) (l.map cTenOut) := by
  have hle := hl.1
  have := ev_map cTenOut z169 z158 l (fun k i s => laws_toTenOutS.l0 k l s i) hle ?_ ?_
  · refine Ev.congr (fun k => ?_) this
    show laws_toTenOutS.f k l = _
    unfold laws_toTenOutS.f
    rw [if_pos (by omega), if_pos (by omega)]
    rfl
  · intro i s hi hs r h
    have hx : sm169 (rd_T169 l (i : Int)) := hl.2 _ (getD_mem l z169 i hi)
    unfold sm169 at hx
    have x0 := hx
    obtain ⟨K0, h0⟩ := toTenOut_ev ((rd_T169 l (i : Int)).f0) ((rd_T169 l (i : Int)).f1) ((rd_T169 l (i : Int)).f2) x0
    obtain ⟨K, h⟩ := h
    refine ⟨K + K0 + 1, fun k hk => ?_⟩
    obtain ⟨k, rfl⟩ : ∃ m, k = m + 1 := ⟨k - 1, by omega⟩
    have e0 := h0 k (by omega)
    have e1 := h k (by omega)
    dsimp only at e0 e1
    simp only [laws_toTenOutS.l0]
    rw [if_pos (by omega), if_pos (by omega), e0]
    simp only [Option.bind_some]
    rw [if_pos (by omega), wrap_succ (by omega)]
    exact e1
  · intro k s hs
    simp only [laws_toTenOutS.l0]
    rw [if_neg (by omega)]
theorem eqTenOutS_ev (l : List S158) (hl : l.length ≤ 1048576 ∧ ∀ y ∈ l, sm158 y) : Ev (fun k => laws_eqTenOutS.f k l l) true := by
  have hle := hl.1
  have := ev_all l.length (fun k i => laws_eqTenOutS.l0 k l l i) ?_ ?_
  · refine Ev.congr (fun k => ?_) this
    show laws_eqTenOutS.f k l l = _
    unfold laws_eqTenOutS.f
    rw [if_pos rfl]
  · intro i hi h
    have hx : sm158 (rd_T158 l (i : Int)) := hl.2 _ (getD_mem l z158 i hi)
    unfold sm158 at hx
    have x0 := hx
    obtain ⟨K0, h0⟩ := eqTenOut_ev ((rd_T158 l (i : Int)).f0) ((rd_T158 l (i : Int)).f1) ((rd_T158 l (i : Int)).f2) x0
    obtain ⟨K, h⟩ := h
    refine ⟨K + K0 + 1, fun k hk => ?_⟩
    obtain ⟨k, rfl⟩ : ∃ m, k = m + 1 := ⟨k - 1, by omega⟩
    have e0 := h0 k (by omega)
    have e1 := h k (by omega)
    dsimp only at e0 e1
    simp only [laws_eqTenOutS.l0]
    rw [if_pos (by omega), if_pos (by omega), if_pos (by omega), e0]
    simp only [Option.bind_some, if_true]
    rw [wrap_succ (by omega)]
    exact e1
  · intro k
    simp only [laws_eqTenOutS.l0]
    rw [if_neg (by omega)]
theorem szTenOutS_ev (l : List S169) (left : Int) (h0 : 0 ≤ left) (h1 : left ≤ 1048576) (g : l.length ≤ maxLen ∧ ∀ y ∈ l, g169 y) : ∃ r, Ev (fun k => laws_szTenOutS.f k l left) r ∧ r ≤ 1048576 ∧ (0 ≤ r → l.length ≤ 1048576 ∧ ∀ y ∈ l, sm169 y) := by
  have hm : maxLen = 9223372036854775807 := rfl
  have hlm : l.length ≤ maxLen := g.1
  have w : wrap64 (left - (l.length : Int)) = left - (l.length : Int) := wrap_id (by omega) (by omega)
  by_cases n : left - (l.length : Int) < 0
  · exact ⟨-1, ⟨0, fun k hk => by simp [laws_szTenOutS.f, w, n]⟩, by omega, fun h => absurd h (by omega)⟩
  have := ev_sum l z169 (fun y => sm169 y) (fun k i x => laws_szTenOutS.l0 k l x i) ?_ ?_ (left - (l.length : Int)) (by omega) (by omega)
  · obtain ⟨r, ⟨K, hr⟩, hle, hp⟩ := this
    refine ⟨r, ⟨K, fun k hk => ?_⟩, hle, fun h => ⟨by omega, hp h⟩⟩
    have := hr k hk
    simp only [laws_szTenOutS.f, w]
    rw [if_neg n]
    exact this
  · intro i x hi hx0 hx1
    have hx : g169 (rd_T169 l (i : Int)) := g.2 _ (getD_mem l z169 i hi)
    unfold g169 at hx
    obtain ⟨y_0, y_1, y_2⟩ := hx
    obtain ⟨c, ⟨K0, e0⟩, u, q⟩ := szTenOut_ev ((rd_T169 l (i : Int)).f0) ((rd_T169 l (i : Int)).f1) ((rd_T169 l (i : Int)).f2) x hx0 hx1 y_2.1
    by_cases n2 : c < 0
    · refine Or.inr ⟨K0 + 1, fun k hk => ?_⟩
      obtain ⟨k, rfl⟩ : ∃ m, k = m + 1 := ⟨k - 1, by omega⟩
      have e1 := e0 k (by omega)
      dsimp only at e1
      simp only [laws_szTenOutS.l0]
      rw [if_pos (by omega), if_pos (by omega), e1]
      simp only [Option.bind_some]
      rw [if_pos n2]
    · refine Or.inl ⟨c, by omega, u, q (by omega), fun r h => ?_⟩
      obtain ⟨K, h⟩ := h
      refine ⟨K + K0 + 1, fun k hk => ?_⟩
      obtain ⟨k, rfl⟩ : ∃ m, k = m + 1 := ⟨k - 1, by omega⟩
      have e1 := e0 k (by omega)
      have e2 := h k (by omega)
      dsimp only at e1 e2
      simp only [laws_szTenOutS.l0]
      rw [if_pos (by omega), if_pos (by omega), e1]
      simp only [Option.bind_some]
      rw [if_neg n2, wrap_succ (by omega)]
      exact e2
  · intro k x
    simp only [laws_szTenOutS.l0]
    rw [if_neg (by omega)]
end Go.Proofs.Ytgpkkkmapgnhkaa.X
namespace Go.Proofs.Ytgpkkkmapgnhkaa.X
open Go.RowKit Go.Proofs.YtgpkkkmapgnhkaaW.PrintWords Go.Proofs.Ytgpkkkmapgnhkaa.Pl
set_option linter.unusedSimpArgs false
set_option linter.unusedVariables false
def sm83 (x : S83) : Prop := (x.f4.length ≤ 1048576 ∧ ∀ y ∈ x.f4, sm165 y) ∧ (x.f5.length ≤ 1048576 ∧ ∀ y ∈ x.f5, sm167 y) ∧ (x.f6.length ≤ 1048576 ∧ ∀ y ∈ x.f6, y.size ≤ 1048576) ∧ (x.f7.length ≤ 1048576 ∧ ∀ y ∈ x.f7, sm169 y)
def sm63 (x : S63) : Prop := (x.f4.length ≤ 1048576 ∧ ∀ y ∈ x.f4, sm124 y) ∧ (x.f5.length ≤ 1048576 ∧ ∀ y ∈ x.f5, sm156 y) ∧ (x.f6.length ≤ 1048576 ∧ ∀ y ∈ x.f6, y.size ≤ 1048576) ∧ (x.f7.length ≤ 1048576 ∧ ∀ y ∈ x.f7, sm158 y)
def cTenState (x : S83) : S63 := ⟨x.f0, x.f1, x.f2, x.f3, (x.f4.map cTenJob), (x.f5.map cTenFile), x.f6, (x.f7.map cTenOut)⟩
theorem sm_cTenState {x : S83} (h : sm83 x) : sm63 (cTenState x) := by
  unfold sm83 at h; unfold sm63
  obtain ⟨h0, h1, h2, h3⟩ := h
  exact ⟨⟨by show (List.map _ _).length ≤ _; rw [List.length_map]; exact h0.1, fun y hy => by obtain ⟨z, hz, rfl⟩ := List.mem_map.1 (show y ∈ List.map _ _ from hy); exact sm_cTenJob (h0.2 z hz)⟩, ⟨by show (List.map _ _).length ≤ _; rw [List.length_map]; exact h1.1, fun y hy => by obtain ⟨z, hz, rfl⟩ := List.mem_map.1 (show y ∈ List.map _ _ from hy); exact sm_cTenFile (h1.2 z hz)⟩, h2, ⟨by show (List.map _ _).length ≤ _; rw [List.length_map]; exact h3.1, fun y hy => by obtain ⟨z, hz, rfl⟩ := List.mem_map.1 (show y ∈ List.map _ _ from hy); exact sm_cTenOut (h3.2 z hz)⟩⟩
theorem toTenState_ev (v0 : Int) (v1 : Int) (v2 : Int) (v3 : Int) (v4 : List S165) (v5 : List S167) (v6 : List ByteArray) (v7 : List S169) (s4 : (v4.length ≤ 1048576 ∧ ∀ y ∈ v4, sm165 y)) (s5 : (v5.length ≤ 1048576 ∧ ∀ y ∈ v5, sm167 y)) (s6 : (v6.length ≤ 1048576 ∧ ∀ y ∈ v6, y.size ≤ 1048576)) (s7 : (v7.length ≤ 1048576 ∧ ∀ y ∈ v7, sm169 y)) : Ev (fun k => laws_toTenState.f k v0 v1 v2 v3 v4 v5 v6 v7) (v0, v1, v2, v3, (v4.map cTenJob), (v5.map cTenFile), v6, (v7.map cTenOut)) := by
  obtain ⟨K0, h0⟩ := toTenJobS_ev v4 s4
  obtain ⟨K1, h1⟩ := toTenFileS_ev v5 s5
  obtain ⟨K2, h2⟩ := toStringS_ev v6 s6
  obtain ⟨K3, h3⟩ := toTenOutS_ev v7 s7
  refine ⟨K0 + K1 + K2 + K3, fun k hk => ?_⟩
  simp only [laws_toTenState.f, h0 k (by omega), h1 k (by omega), h2 k (by omega), h3 k (by omega), Option.bind_some]
theorem eqTenState_ev (v0 : Int) (v1 : Int) (v2 : Int) (v3 : Int) (v4 : List S124) (v5 : List S156) (v6 : List ByteArray) (v7 : List S158) (s4 : (v4.length ≤ 1048576 ∧ ∀ y ∈ v4, sm124 y)) (s5 : (v5.length ≤ 1048576 ∧ ∀ y ∈ v5, sm156 y)) (s6 : (v6.length ≤ 1048576 ∧ ∀ y ∈ v6, y.size ≤ 1048576)) (s7 : (v7.length ≤ 1048576 ∧ ∀ y ∈ v7, sm158 y)) : Ev (fun k => laws_eqTenState.f k v0 v1 v2 v3 v4 v5 v6 v7 v0 v1 v2 v3 v4 v5 v6 v7) true := by
  obtain ⟨K0, h0⟩ := eqTenJobS_ev v4 s4
  obtain ⟨K1, h1⟩ := eqTenFileS_ev v5 s5
  obtain ⟨K2, h2⟩ := eqStringS_ev v6 s6
  obtain ⟨K3, h3⟩ := eqTenOutS_ev v7 s7
  refine ⟨K0 + K1 + K2 + K3, fun k hk => ?_⟩
  simp [laws_eqTenState.f, h0 k (by omega), h1 k (by omega), h2 k (by omega), h3 k (by omega)]
theorem szTenState_ev (v0 : Int) (v1 : Int) (v2 : Int) (v3 : Int) (v4 : List S165) (v5 : List S167) (v6 : List ByteArray) (v7 : List S169) (left : Int) (h0 : 0 ≤ left) (h1 : left ≤ 1048576) (g4 : v4.length ≤ maxLen ∧ ∀ y ∈ v4, g165 y) (g5 : v5.length ≤ maxLen ∧ ∀ y ∈ v5, g167 y) (g6 : v6.length ≤ maxLen ∧ ∀ y ∈ v6, y.size ≤ maxLen) (g7 : v7.length ≤ maxLen ∧ ∀ y ∈ v7, g169 y) : ∃ r, Ev (fun k => laws_szTenState.f k v0 v1 v2 v3 v4 v5 v6 v7 left) r ∧ r ≤ 1048576 ∧ (0 ≤ r → (v4.length ≤ 1048576 ∧ ∀ y ∈ v4, sm165 y) ∧ (v5.length ≤ 1048576 ∧ ∀ y ∈ v5, sm167 y) ∧ (v6.length ≤ 1048576 ∧ ∀ y ∈ v6, y.size ≤ 1048576) ∧ (v7.length ≤ 1048576 ∧ ∀ y ∈ v7, sm169 y)) := by
  have hm : maxLen = 9223372036854775807 := rfl
  obtain ⟨c0, ⟨K0, e0⟩, u0, q0⟩ := szTenJobS_ev v4 left (by omega) (by omega) g4
  by_cases n0 : c0 < 0
  · exact ⟨-1, ⟨K0, fun k hk => by simp [laws_szTenState.f, e0 k (by omega), n0]⟩, by omega, fun h => absurd h (by omega)⟩
  obtain ⟨c1, ⟨K1, e1⟩, u1, q1⟩ := szTenFileS_ev v5 c0 (by omega) (by omega) g5
  by_cases n1 : c1 < 0
  · exact ⟨-1, ⟨K0 + K1, fun k hk => by simp [laws_szTenState.f, e0 k (by omega), n0, e1 k (by omega), n1]⟩, by omega, fun h => absurd h (by omega)⟩
  obtain ⟨c2, ⟨K2, e2⟩, u2, q2⟩ := szStringS_ev v6 c1 (by omega) (by omega) g6
  by_cases n2 : c2 < 0
  · exact ⟨-1, ⟨K0 + K1 + K2, fun k hk => by simp [laws_szTenState.f, e0 k (by omega), n0, e1 k (by omega), n1, e2 k (by omega), n2]⟩, by omega, fun h => absurd h (by omega)⟩
  obtain ⟨c3, ⟨K3, e3⟩, u3, q3⟩ := szTenOutS_ev v7 c2 (by omega) (by omega) g7
  by_cases n3 : c3 < 0
  · exact ⟨-1, ⟨K0 + K1 + K2 + K3, fun k hk => by simp [laws_szTenState.f, e0 k (by omega), n0, e1 k (by omega), n1, e2 k (by omega), n2, e3 k (by omega), n3]⟩, by omega, fun h => absurd h (by omega)⟩
  exact ⟨c3, ⟨K0 + K1 + K2 + K3, fun k hk => by simp [laws_szTenState.f, e0 k (by omega), n0, e1 k (by omega), n1, e2 k (by omega), n2, e3 k (by omega), n3]⟩, by omega, fun _ => ⟨q0 (by omega), q1 (by omega), q2 (by omega), q3 (by omega)⟩⟩
theorem toTenStateS_ev (l : List S83) (hl : l.length ≤ 1048576 ∧ ∀ y ∈ l, sm83 y) : Ev (fun k => laws_toTenStateS.f k l) (l.map cTenState) := by
  have hle := hl.1
  have := ev_map cTenState z83 z63 l (fun k i s => laws_toTenStateS.l0 k l s i) hle ?_ ?_
  · refine Ev.congr (fun k => ?_) this
    show laws_toTenStateS.f k l = _
    unfold laws_toTenStateS.f
    rw [if_pos (by omega), if_pos (by omega)]
    rfl
  · intro i s hi hs r h
    have hx : sm83 (rd_T83 l (i : Int)) := hl.2 _ (getD_mem l z83 i hi)
    unfold sm83 at hx
    obtain ⟨x0, x1, x2, x3⟩ := hx
    obtain ⟨K0, h0⟩ := toTenState_ev ((rd_T83 l (i : Int)).f0) ((rd_T83 l (i : Int)).f1) ((rd_T83 l (i : Int)).f2) ((rd_T83 l (i : Int)).f3) ((rd_T83 l (i : Int)).f4) ((rd_T83 l (i : Int)).f5) ((rd_T83 l (i : Int)).f6) ((rd_T83 l (i : Int)).f7) x0 x1 x2 x3
    obtain ⟨K, h⟩ := h
    refine ⟨K + K0 + 1, fun k hk => ?_⟩
    obtain ⟨k, rfl⟩ : ∃ m, k = m + 1 := ⟨k - 1, by omega⟩
    have e0 := h0 k (by omega)
    have e1 := h k (by omega)
    dsimp only at e0 e1
    simp only [laws_toTenStateS.l0]
    rw [if_pos (by omega), if_pos (by omega), e0]
    simp only [Option.bind_some]
    rw [if_pos (by omega), wrap_succ (by omega)]
    exact e1
  · intro k s hs
    simp only [laws_toTenStateS.l0]
    rw [if_neg (by omega)]
theorem eqTenStateS_ev (l : List S63) (hl : l.length ≤ 1048576 ∧ ∀ y ∈ l, sm63 y) : Ev (fun k => laws_eqTenStateS.f k l l) true := by
  have hle := hl.1
  have := ev_all l.length (fun k i => laws_eqTenStateS.l0 k l l i) ?_ ?_
  · refine Ev.congr (fun k => ?_) this
    show laws_eqTenStateS.f k l l = _
    unfold laws_eqTenStateS.f
    rw [if_pos rfl]
  · intro i hi h
    have hx : sm63 (rd_T63 l (i : Int)) := hl.2 _ (getD_mem l z63 i hi)
    unfold sm63 at hx
    obtain ⟨x0, x1, x2, x3⟩ := hx
    obtain ⟨K0, h0⟩ := eqTenState_ev ((rd_T63 l (i : Int)).f0) ((rd_T63 l (i : Int)).f1) ((rd_T63 l (i : Int)).f2) ((rd_T63 l (i : Int)).f3) ((rd_T63 l (i : Int)).f4) ((rd_T63 l (i : Int)).f5) ((rd_T63 l (i : Int)).f6) ((rd_T63 l (i : Int)).f7) x0 x1 x2 x3
    obtain ⟨K, h⟩ := h
    refine ⟨K + K0 + 1, fun k hk => ?_⟩
    obtain ⟨k, rfl⟩ : ∃ m, k = m + 1 := ⟨k - 1, by omega⟩
    have e0 := h0 k (by omega)
    have e1 := h k (by omega)
    dsimp only at e0 e1
    simp only [laws_eqTenStateS.l0]
    rw [if_pos (by omega), if_pos (by omega), if_pos (by omega), e0]
    simp only [Option.bind_some, if_true]
    rw [wrap_succ (by omega)]
    exact e1
  · intro k
    simp only [laws_eqTenStateS.l0]
    rw [if_neg (by omega)]
theorem szTenStateS_ev (l : List S83) (left : Int) (h0 : 0 ≤ left) (h1 : left ≤ 1048576) (g : l.length ≤ maxLen ∧ ∀ y ∈ l, g83 y) : ∃ r, Ev (fun k => laws_szTenStateS.f k l left) r ∧ r ≤ 1048576 ∧ (0 ≤ r → l.length ≤ 1048576 ∧ ∀ y ∈ l, sm83 y) := by
  have hm : maxLen = 9223372036854775807 := rfl
  have hlm : l.length ≤ maxLen := g.1
  have w : wrap64 (left - (l.length : Int)) = left - (l.length : Int) := wrap_id (by omega) (by omega)
  by_cases n : left - (l.length : Int) < 0
  · exact ⟨-1, ⟨0, fun k hk => by simp [laws_szTenStateS.f, w, n]⟩, by omega, fun h => absurd h (by omega)⟩
  have := ev_sum l z83 (fun y => sm83 y) (fun k i x => laws_szTenStateS.l0 k l x i) ?_ ?_ (left - (l.length : Int)) (by omega) (by omega)
  · obtain ⟨r, ⟨K, hr⟩, hle, hp⟩ := this
    refine ⟨r, ⟨K, fun k hk => ?_⟩, hle, fun h => ⟨by omega, hp h⟩⟩
    have := hr k hk
    simp only [laws_szTenStateS.f, w]
    rw [if_neg n]
    exact this
  · intro i x hi hx0 hx1
    have hx : g83 (rd_T83 l (i : Int)) := g.2 _ (getD_mem l z83 i hi)
    unfold g83 at hx
    obtain ⟨y_0, y_1, y_2, y_3, y_4, y_5, y_6, y_7⟩ := hx
    obtain ⟨c, ⟨K0, e0⟩, u, q⟩ := szTenState_ev ((rd_T83 l (i : Int)).f0) ((rd_T83 l (i : Int)).f1) ((rd_T83 l (i : Int)).f2) ((rd_T83 l (i : Int)).f3) ((rd_T83 l (i : Int)).f4) ((rd_T83 l (i : Int)).f5) ((rd_T83 l (i : Int)).f6) ((rd_T83 l (i : Int)).f7) x hx0 hx1 y_4 y_5 y_6 y_7
    by_cases n2 : c < 0
    · refine Or.inr ⟨K0 + 1, fun k hk => ?_⟩
      obtain ⟨k, rfl⟩ : ∃ m, k = m + 1 := ⟨k - 1, by omega⟩
      have e1 := e0 k (by omega)
      dsimp only at e1
      simp only [laws_szTenStateS.l0]
      rw [if_pos (by omega), if_pos (by omega), e1]
      simp only [Option.bind_some]
      rw [if_pos n2]
    · refine Or.inl ⟨c, by omega, u, q (by omega), fun r h => ?_⟩
      obtain ⟨K, h⟩ := h
      refine ⟨K + K0 + 1, fun k hk => ?_⟩
      obtain ⟨k, rfl⟩ : ∃ m, k = m + 1 := ⟨k - 1, by omega⟩
      have e1 := e0 k (by omega)
      have e2 := h k (by omega)
      dsimp only at e1 e2
      simp only [laws_szTenStateS.l0]
      rw [if_pos (by omega), if_pos (by omega), e1]
      simp only [Option.bind_some]
      rw [if_neg n2, wrap_succ (by omega)]
      exact e2
  · intro k x
    simp only [laws_szTenStateS.l0]
    rw [if_neg (by omega)]
end Go.Proofs.Ytgpkkkmapgnhkaa.X
namespace Go.Proofs.Ytgpkkkmapgnhkaa.Pure
open Go.RowKit Go.Proofs.YtgpkkkmapgnhkaaW.PrintWords Go.Proofs.Ytgpkkkmapgnhkaa.Pl Go.Proofs.Ytgpkkkmapgnhkaa.X
set_option linter.unusedSimpArgs false
set_option linter.unusedVariables false
abbrev Cfg := S24
abbrev Sta := S63
def houP (cs : List Cfg) (ss : List Sta) (i : Nat) : Bool := tenB (rd_T24 cs (i : Int)).f0 (rd_T24 cs (i : Int)).f1 (rd_T24 cs (i : Int)).f2 (rd_T24 cs (i : Int)).f3 (rd_T24 cs (i : Int)).f4 (rd_T24 cs (i : Int)).f5 (rd_T24 cs (i : Int)).f6 (rd_T63 ss (i : Int)).f0 (rd_T63 ss (i : Int)).f1 (rd_T63 ss (i : Int)).f2 (rd_T63 ss (i : Int)).f3 (rd_T63 ss (i : Int)).f4 (rd_T63 ss (i : Int)).f5 (rd_T63 ss (i : Int)).f6 (rd_T63 ss (i : Int)).f7 && decide ((rd_T63 ss (i : Int)).f0 = (rd_T63 ss 0).f0)
def houB (cs : List Cfg) (ss : List Sta) : Bool := decide (cs.length = 3) && (decide (ss.length = 3) && (List.range 3).all (houP cs ss))
theorem sta_sm {ss : List Sta} {i : Nat} (hi : i < ss.length) (hs : ∀ y ∈ ss, sm63 y) : sm63 (rd_T63 ss (i : Int)) := by
  unfold rd_T63
  rw [List.getD_eq_getElem?_getD, Int.toNat_natCast, List.getElem?_eq_getElem hi]
  exact hs _ (List.getElem_mem hi)
theorem ev_succ' {α : Type} {g : Nat → Option α} {r : α} (h : Ev (fun k => g (k + 1)) r) : Ev g r := by
  obtain ⟨K, h⟩ := h
  refine ⟨K + 1, fun n hn => ?_⟩
  obtain ⟨m, rfl⟩ : ∃ m, n = m + 1 := ⟨n - 1, by omega⟩
  exact h m (by omega)
theorem spec_HouOk_ev (cs : List Cfg) (ss : List Sta) (hs : ∀ y ∈ ss, sm63 y) : Ev (fun k => spec_HouOk.f k cs ss) (houB cs ss) := by
  by_cases h1 : cs.length = 3
  · by_cases h2 : ss.length = 3
    · have := ev_allR 3 (houP cs ss) true (fun k i => spec_HouOk.l0 k cs ss i) ?_ ?_ ?_
      · have e : houB cs ss = ((List.range 3).all (houP cs ss) && true) := by unfold houB; rw [decide_eq_true h1, decide_eq_true h2, Bool.and_true]; rfl
        rw [e]
        refine Ev.congr (fun k => ?_) ((Ev.step (g := fun k => spec_HouOk.j0 k cs ss false) (fun k => ?_) this : Ev (fun k => spec_HouOk.j0 k cs ss false) _))
        · show spec_HouOk.f k cs ss = _
          unfold spec_HouOk.f
          rw [if_pos (by omega), show ((ss.length : Int) != 3) = false by rw [h2]; rfl]
        · rw [spec_HouOk.j0, if_neg (by decide)]
      · intro i hi hp r ⟨K, h⟩
        unfold houP at hp
        rw [Bool.and_eq_true, decide_eq_true_eq] at hp
        have q := sta_sm (i := i) (by omega) hs
        obtain ⟨K1, e1⟩ := spec_TenOk_ev (rd_T24 cs (i : Int)).f0 (rd_T24 cs (i : Int)).f1 (rd_T24 cs (i : Int)).f2 (rd_T24 cs (i : Int)).f3 (rd_T24 cs (i : Int)).f4 (rd_T24 cs (i : Int)).f5 (rd_T24 cs (i : Int)).f6 (rd_T63 ss (i : Int)).f0 (rd_T63 ss (i : Int)).f1 (rd_T63 ss (i : Int)).f2 (rd_T63 ss (i : Int)).f3 (rd_T63 ss (i : Int)).f4 (rd_T63 ss (i : Int)).f5 (rd_T63 ss (i : Int)).f6 (rd_T63 ss (i : Int)).f7 q.1.1 (fun y hy => (q.1.2 y hy).2.1) q.2.1.1 q.2.2.1.1 q.2.2.2.1
        rw [hp.1] at e1
        refine ev_succ ⟨K + K1, fun k hk => ?_⟩
        have f1 := e1 k (by omega)
        have f2 := h k (by omega)
        dsimp only at f1 f2
        show spec_HouOk.l0 (k + 1) cs ss (i : Int) = _
        rw [spec_HouOk.l0, if_pos (by omega), if_pos (by omega), if_pos (by omega), if_pos (by omega), f1]
        simp only [Option.bind_some, if_true]
        rw [if_pos (by omega), if_pos hp.2, wrap_succ (by omega)]
        exact f2
      · intro i hi hp
        have q := sta_sm (i := i) (by omega) hs
        obtain ⟨K1, e1⟩ := spec_TenOk_ev (rd_T24 cs (i : Int)).f0 (rd_T24 cs (i : Int)).f1 (rd_T24 cs (i : Int)).f2 (rd_T24 cs (i : Int)).f3 (rd_T24 cs (i : Int)).f4 (rd_T24 cs (i : Int)).f5 (rd_T24 cs (i : Int)).f6 (rd_T63 ss (i : Int)).f0 (rd_T63 ss (i : Int)).f1 (rd_T63 ss (i : Int)).f2 (rd_T63 ss (i : Int)).f3 (rd_T63 ss (i : Int)).f4 (rd_T63 ss (i : Int)).f5 (rd_T63 ss (i : Int)).f6 (rd_T63 ss (i : Int)).f7 q.1.1 (fun y hy => (q.1.2 y hy).2.1) q.2.1.1 q.2.2.1.1 q.2.2.2.1
        refine ev_succ ⟨K1, fun k hk => ?_⟩
        have f1 := e1 k (by omega)
        dsimp only at f1
        show spec_HouOk.l0 (k + 1) cs ss (i : Int) = _
        rw [spec_HouOk.l0, if_pos (by omega), if_pos (by omega), if_pos (by omega), if_pos (by omega), f1]
        simp only [Option.bind_some]
        unfold houP at hp
        cases ht : tenB (rd_T24 cs (i : Int)).f0 (rd_T24 cs (i : Int)).f1 (rd_T24 cs (i : Int)).f2 (rd_T24 cs (i : Int)).f3 (rd_T24 cs (i : Int)).f4 (rd_T24 cs (i : Int)).f5 (rd_T24 cs (i : Int)).f6 (rd_T63 ss (i : Int)).f0 (rd_T63 ss (i : Int)).f1 (rd_T63 ss (i : Int)).f2 (rd_T63 ss (i : Int)).f3 (rd_T63 ss (i : Int)).f4 (rd_T63 ss (i : Int)).f5 (rd_T63 ss (i : Int)).f6 (rd_T63 ss (i : Int)).f7 with
        | false => simp
        | true =>
          rw [ht, Bool.true_and] at hp
          simp only [if_true]
          rw [if_pos (by omega), if_neg (of_decide_eq_false hp)]
      · refine ev_succ ⟨0, fun k _ => ?_⟩
        show spec_HouOk.l0 (k + 1) cs ss (3 : Int) = _
        rw [spec_HouOk.l0, if_neg (by omega)]
    · have e : houB cs ss = false := by unfold houB; rw [decide_eq_false h2]; simp
      rw [e]
      refine ev_succ' ⟨0, fun k _ => ?_⟩
      dsimp only
      unfold spec_HouOk.f
      rw [if_pos (by omega), spec_HouOk.j0, if_pos (by simp; omega)]
  · have e : houB cs ss = false := by unfold houB; rw [decide_eq_false h1]; simp
    rw [e]
    refine ev_succ' ⟨0, fun k _ => ?_⟩
    dsimp only
    unfold spec_HouOk.f
    rw [if_neg (by omega), spec_HouOk.j0, if_pos rfl]
theorem impl_HouOk_ev (cs : List Cfg) (ss : List Sta) (hs : ∀ y ∈ ss, sm63 y) : Ev (fun k => impl_HouOk.f k cs ss) (houB cs ss) := by
  by_cases h1 : cs.length = 3
  · by_cases h2 : ss.length = 3
    · have := ev_allR 3 (houP cs ss) true (fun k i => impl_HouOk.l0 k cs ss ss (ss.length : Int) i) ?_ ?_ ?_
      · have e : houB cs ss = ((List.range 3).all (houP cs ss) && true) := by unfold houB; rw [decide_eq_true h1, decide_eq_true h2, Bool.and_true]; rfl
        rw [e]
        refine Ev.congr (fun k => ?_) ((Ev.step (g := fun k => impl_HouOk.j0 k cs ss false) (fun k => ?_) this : Ev (fun k => impl_HouOk.j0 k cs ss false) _))
        · show impl_HouOk.f k cs ss = _
          unfold impl_HouOk.f
          rw [if_pos (by omega), show ((ss.length : Int) != 3) = false by rw [h2]; rfl]
        · rw [impl_HouOk.j0, if_neg (by decide)]
      · intro i hi hp r ⟨K, h⟩
        unfold houP at hp
        rw [Bool.and_eq_true, decide_eq_true_eq] at hp
        have q := sta_sm (i := i) (by omega) hs
        obtain ⟨K1, e1⟩ := impl_TenOk_ev (rd_T24 cs (i : Int)).f0 (rd_T24 cs (i : Int)).f1 (rd_T24 cs (i : Int)).f2 (rd_T24 cs (i : Int)).f3 (rd_T24 cs (i : Int)).f4 (rd_T24 cs (i : Int)).f5 (rd_T24 cs (i : Int)).f6 (rd_T63 ss (i : Int)).f0 (rd_T63 ss (i : Int)).f1 (rd_T63 ss (i : Int)).f2 (rd_T63 ss (i : Int)).f3 (rd_T63 ss (i : Int)).f4 (rd_T63 ss (i : Int)).f5 (rd_T63 ss (i : Int)).f6 (rd_T63 ss (i : Int)).f7 q.1.1 (fun y hy => (q.1.2 y hy).2.1) q.2.1.1 q.2.2.1.1 q.2.2.2.1
        rw [hp.1] at e1
        refine ev_succ ⟨K + K1, fun k hk => ?_⟩
        have f1 := e1 k (by omega)
        have f2 := h k (by omega)
        dsimp only at f1 f2
        show impl_HouOk.l0 (k + 1) cs ss ss (ss.length : Int) (i : Int) = _
        rw [impl_HouOk.l0, if_pos (by omega), if_pos (by omega), if_pos (by omega), if_pos (by omega), f1]
        simp only [Option.bind_some, if_true]
        rw [if_pos (by omega), if_pos hp.2, wrap_succ (by omega)]
        exact f2
      · intro i hi hp
        have q := sta_sm (i := i) (by omega) hs
        obtain ⟨K1, e1⟩ := impl_TenOk_ev (rd_T24 cs (i : Int)).f0 (rd_T24 cs (i : Int)).f1 (rd_T24 cs (i : Int)).f2 (rd_T24 cs (i : Int)).f3 (rd_T24 cs (i : Int)).f4 (rd_T24 cs (i : Int)).f5 (rd_T24 cs (i : Int)).f6 (rd_T63 ss (i : Int)).f0 (rd_T63 ss (i : Int)).f1 (rd_T63 ss (i : Int)).f2 (rd_T63 ss (i : Int)).f3 (rd_T63 ss (i : Int)).f4 (rd_T63 ss (i : Int)).f5 (rd_T63 ss (i : Int)).f6 (rd_T63 ss (i : Int)).f7 q.1.1 (fun y hy => (q.1.2 y hy).2.1) q.2.1.1 q.2.2.1.1 q.2.2.2.1
        refine ev_succ ⟨K1, fun k hk => ?_⟩
        have f1 := e1 k (by omega)
        dsimp only at f1
        show impl_HouOk.l0 (k + 1) cs ss ss (ss.length : Int) (i : Int) = _
        rw [impl_HouOk.l0, if_pos (by omega), if_pos (by omega), if_pos (by omega), if_pos (by omega), f1]
        simp only [Option.bind_some]
        unfold houP at hp
        cases ht : tenB (rd_T24 cs (i : Int)).f0 (rd_T24 cs (i : Int)).f1 (rd_T24 cs (i : Int)).f2 (rd_T24 cs (i : Int)).f3 (rd_T24 cs (i : Int)).f4 (rd_T24 cs (i : Int)).f5 (rd_T24 cs (i : Int)).f6 (rd_T63 ss (i : Int)).f0 (rd_T63 ss (i : Int)).f1 (rd_T63 ss (i : Int)).f2 (rd_T63 ss (i : Int)).f3 (rd_T63 ss (i : Int)).f4 (rd_T63 ss (i : Int)).f5 (rd_T63 ss (i : Int)).f6 (rd_T63 ss (i : Int)).f7 with
        | false => simp
        | true =>
          rw [ht, Bool.true_and] at hp
          simp only [if_true]
          rw [if_pos (by omega), if_neg (of_decide_eq_false hp)]
      · refine ev_succ ⟨0, fun k _ => ?_⟩
        show impl_HouOk.l0 (k + 1) cs ss ss (ss.length : Int) (3 : Int) = _
        rw [impl_HouOk.l0, if_neg (by omega)]
    · have e : houB cs ss = false := by unfold houB; rw [decide_eq_false h2]; simp
      rw [e]
      refine ev_succ' ⟨0, fun k _ => ?_⟩
      dsimp only
      unfold impl_HouOk.f
      rw [if_pos (by omega), impl_HouOk.j0, if_pos (by simp; omega)]
  · have e : houB cs ss = false := by unfold houB; rw [decide_eq_false h1]; simp
    rw [e]
    refine ev_succ' ⟨0, fun k _ => ?_⟩
    dsimp only
    unfold impl_HouOk.f
    rw [if_neg (by omega), impl_HouOk.j0, if_pos rfl]
theorem FnExactHouOk : laws_FnExactHouOk.Pure := by
  intro cs ss g0 g1 g2 g3
  obtain ⟨r, ⟨K0, e0⟩, hrle, hr⟩ := szTenCfgS_ev cs 1048576 (by omega) (by omega) ⟨g0, g1⟩
  dsimp only at e0
  by_cases hn : r < 0
  · refine ⟨K0, ?_⟩
    unfold laws_FnExactHouOk.f
    rw [e0 K0 (by omega)]
    simp [hn]
  obtain ⟨r1, ⟨K1, e1⟩, _, hr1⟩ := szTenStateS_ev ss r (by omega) hrle ⟨g2, g3⟩
  dsimp only at e1
  by_cases hn1 : r1 < 0
  · refine ⟨K0 + K1, ?_⟩
    unfold laws_FnExactHouOk.f
    rw [e0 (K0 + K1) (by omega)]
    simp only [Option.bind_some, if_neg hn]
    rw [e1 (K0 + K1) (by omega)]
    simp [hn1]
  have s1 := hr (by omega)
  have s2 := hr1 (by omega)
  obtain ⟨K2, e2⟩ := toTenCfgS_ev cs s1
  obtain ⟨K3, e3⟩ := toTenStateS_ev ss s2
  have t1 : (cs.map cTenCfg).length ≤ 1048576 ∧ ∀ y ∈ cs.map cTenCfg, sm24 y := ⟨by rw [List.length_map]; exact s1.1, fun y hy => by obtain ⟨z, hz, rfl⟩ := List.mem_map.1 hy; exact sm_cTenCfg (s1.2 z hz)⟩
  have t2 : (ss.map cTenState).length ≤ 1048576 ∧ ∀ y ∈ ss.map cTenState, sm63 y := ⟨by rw [List.length_map]; exact s2.1, fun y hy => by obtain ⟨z, hz, rfl⟩ := List.mem_map.1 hy; exact sm_cTenState (s2.2 z hz)⟩
  generalize cs.map cTenCfg = xc at e2 t1
  generalize ss.map cTenState = xs at e3 t2
  obtain ⟨K4, e4⟩ := spec_HouOk_ev xc xs t2.2
  obtain ⟨K5, e5⟩ := impl_HouOk_ev xc xs t2.2
  obtain ⟨K6, e6⟩ := eqTenCfgS_ev xc t1
  obtain ⟨K7, e7⟩ := eqTenStateS_ev xs t2
  dsimp only at e2 e3 e4 e5 e6 e7
  obtain ⟨K, hK⟩ : ∃ K, K = K0 + K1 + K2 + K3 + K4 + K5 + K6 + K7 := ⟨_, rfl⟩
  refine ⟨K, ?_⟩
  unfold laws_FnExactHouOk.f
  rw [e0 K (by omega)]
  simp only [Option.bind_some, if_neg hn]
  rw [e1 K (by omega)]
  simp only [Option.bind_some, if_neg hn1]
  rw [e2 K (by omega)]
  simp only [Option.bind_some]
  rw [e3 K (by omega)]
  simp only [Option.bind_some]
  rw [e4 K (by omega)]
  simp only [Option.bind_some]
  rw [e5 K (by omega)]
  simp only [Option.bind_some, bne_self_eq_false, Bool.false_eq_true, if_false]
  rw [e6 K (by omega)]
  simp only [Option.bind_some, if_true]
  rw [e7 K (by omega)]
  rfl
end Go.Proofs.Ytgpkkkmapgnhkaa.Pure
