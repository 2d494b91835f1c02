/- Lemmas and contracts for the law FnExactTenNew, part 4: of the program's functions, and over data alone. No condition. -/
import Derived.Test.YtgpkkkmapgnhkaaMFnExactTenNew3
import Derived.Test.YtgpkkkmapgnhkaaMFnExactTenNew1
import Derived.Test.YtgpkkkmapgnhkaaMFnExactTenNew2
namespace Go.Proofs.Ytgpkkkmapgnhkaa.X
open Go.RowKit Go.Proofs.YtgpkkkmapgnhkaaW.PrintWords Go.Proofs.Ytgpkkkmapgnhkaa.Opn
set_option linter.unusedVariables false
def laws_FnExactTenNew.Pure : Prop := ∀ (l0_0 : List Int) (a0_1 : Int) (a0_2 : Int) (a0_3 : Int) (a0_4 : Int) (a0_5 : Int) (a0_6 : Int), l0_0.length ≤ maxLen → (∀ y ∈ l0_0, (Lit.int .u8 y).wf = true) → (Lit.int .i64 a0_1).wf = true → (Lit.int .i64 a0_2).wf = true → (Lit.int .i64 a0_3).wf = true → (Lit.int .i64 a0_4).wf = true → (Lit.int .i64 a0_5).wf = true → (Lit.int .i64 a0_6).wf = true → ∃ k, laws_FnExactTenNew.f k l0_0 a0_1 a0_2 a0_3 a0_4 a0_5 a0_6 = some true
end Go.Proofs.Ytgpkkkmapgnhkaa.X
namespace Go.Proofs.Ytgpkkkmapgnhkaa.Pl
open Go.RowKit Go.Proofs.YtgpkkkmapgnhkaaW.PrintWords
theorem wrap_id {x : Int} (h0 : -9223372036854775808 ≤ x) (h1 : x ≤ 9223372036854775807) : wrap64 x = x := by
  unfold wrap64; omega
theorem wrap_succ {i : Nat} (h : i < 9223372036854775807) : wrap64 ((i : Int) + 1) = ((i + 1 : Nat) : Int) := by
  unfold wrap64; omega
theorem ev_succ {α : Type} {g : Nat → Option α} {r : α} (h : Ev (fun k => g (k + 1)) r) : Ev g r := by
  obtain ⟨K, h⟩ := h
  refine ⟨K + 1, fun n hn => ?_⟩
  obtain ⟨m, rfl⟩ : ∃ m, n = m + 1 := ⟨n - 1, by omega⟩
  exact h m (by omega)
theorem ev_up {α σ : Type} (n : Nat) (g : Nat → Int → σ → Option α) (Inv : Nat → σ → Prop) (post : α → Prop)
    (hstep : ∀ i s, i < n → Inv i s → (∃ s', Inv (i + 1) s' ∧ ∀ r, Ev (fun k => g k ((i + 1 : Nat) : Int) s') r → Ev (fun k => g k (i : Int) s) r) ∨ ∃ r, Ev (fun k => g k (i : Int) s) r ∧ post r)
    (hend : ∀ s, Inv n s → ∃ r, Ev (fun k => g k (n : Int) s) r ∧ post r) :
    ∀ i s, i ≤ n → Inv i s → ∃ r, Ev (fun k => g k (i : Int) s) r ∧ post r := by
  have key : ∀ d i s, i + d = n → Inv i s → ∃ r, Ev (fun k => g k (i : Int) s) r ∧ post r := by
    intro d
    induction d with
    | zero => intro i s hi hs; have : i = n := by omega
              subst this; exact hend s hs
    | succ d ih =>
      intro i s hi hs
      rcases hstep i s (by omega) hs with ⟨s', hs', hr⟩ | h
      · obtain ⟨r, h, hp⟩ := ih (i + 1) s' (by omega) hs'
        exact ⟨r, hr r h, hp⟩
      · exact h
  intro i s hi hs
  exact key (n - i) i s (by omega) hs
theorem set_take_next {α : Type} (l m : List α) (d : α) (i : Nat) (h : i < l.length) (hm : m.length = l.length) (ht : m.take i = l.take i) : (m.set i (l.getD i d)).take (i + 1) = l.take (i + 1) := by
  rw [List.take_succ_eq_append_getElem (by simpa [hm] using h), List.take_succ_eq_append_getElem h, List.take_set_of_le (Nat.le_refl i), ht]
  simp [List.getD_eq_getElem?_getD, h]
theorem getD_mem {α : Type} (l : List α) (z : α) (i : Nat) (h : i < l.length) : l.getD i z ∈ l := by
  rw [List.getD_eq_getElem?_getD, List.getElem?_eq_getElem h]; exact List.getElem_mem h
theorem ev_map {α β : Type} (c : α → β) (za : α) (zb : β) (l : List α) (g : Nat → Int → List β → Option (List β)) (hl : l.length ≤ 1048576)
    (hstep : ∀ i s, i < l.length → s.length = l.length → ∀ r, Ev (fun k => g k ((i + 1 : Nat) : Int) (s.set i (c (l.getD i za)))) r → Ev (fun k => g k (i : Int) s) r)
    (hend : ∀ k s, s.length = l.length → g (k + 1) (l.length : Int) s = some s) : Ev (fun k => g k 0 (List.replicate l.length zb)) (l.map c) := by
  obtain ⟨r, h, rfl⟩ := ev_up (α := List β) l.length (fun k i s => g k i s) (fun i s => s.length = l.length ∧ s.take i = (l.map c).take i) (fun r => r = l.map c) (by
    rintro i s hi ⟨h1, h2⟩
    refine Or.inl ⟨s.set i (c (l.getD i za)), ⟨by simpa using h1, ?_⟩, hstep i s hi h1⟩
    have := set_take_next (l.map c) s (c za) i (by simpa using hi) (by simpa using h1) h2
    have e : (l.map c).getD i (c za) = c (l.getD i za) := by
      simp [List.getD_eq_getElem?_getD, List.getElem?_eq_getElem hi]
    rw [e] at this
    exact this) (by
    rintro s ⟨h1, h2⟩
    refine ⟨l.map c, ev_succ ⟨0, fun k _ => ?_⟩, rfl⟩
    rw [List.take_of_length_le (by omega), List.take_of_length_le (by simp)] at h2
    show g (k + 1) (l.length : Int) s = _
    rw [hend k s h1, h2]) 0 (List.replicate l.length zb) (by omega) ⟨by simp, by simp⟩
  exact h
theorem ev_all (n : Nat) (g : Nat → Int → Option Bool) (hstep : ∀ i, i < n → Ev (fun k => g k ((i + 1 : Nat) : Int)) true → Ev (fun k => g k (i : Int)) true) (hend : ∀ k, g (k + 1) (n : Int) = some true) : Ev (fun k => g k 0) true := by
  have : ∀ d j, j + d = n → Ev (fun k => g k (j : Int)) true := by
    intro d
    induction d with
    | zero => intro j hj; have : j = n := by omega
              subst this; exact ev_succ ⟨0, fun k _ => hend k⟩
    | succ d ih => intro j hj; exact hstep j (by omega) (ih (j + 1) (by omega))
  exact this n 0 (by omega)
theorem Ev.at_ {α : Type} {g : Nat → Option α} {r : α} (h : Ev g r) : ∃ K, ∀ k, K ≤ k → g k = some r := h
def Tot {α : Type} (g : Nat → Option α) (post : α → Prop) : Prop := ∃ r, Ev g r ∧ post r
theorem Tot.mono {α : Type} {g : Nat → Option α} {P Q : α → Prop} (h : Tot g P) (hi : ∀ r, P r → Q r) : Tot g Q := by
  obtain ⟨r, h, hp⟩ := h
  exact ⟨r, h, hi r hp⟩
theorem Tot.bind {α β : Type} {g : Nat → Option α} {f : Nat → α → Option β} {P : α → Prop} {Q : β → Prop} (h : Tot g P) (hf : ∀ a, P a → Tot (fun k => f k a) Q) : Tot (fun k => (g k).bind (f k)) Q := by
  obtain ⟨a, h, hp⟩ := h
  obtain ⟨r, h2, hq⟩ := hf a hp
  exact ⟨r, Ev.bind h h2, hq⟩
theorem Tot.succ {α : Type} {g : Nat → Option α} {Q : α → Prop} (h : Tot (fun k => g (k + 1)) Q) : Tot g Q := by
  obtain ⟨r, h, hp⟩ := h
  exact ⟨r, ev_succ h, hp⟩
theorem Tot.rounds {g : Nat → Option Bool} (h : Tot g (fun b => b = true)) : ∃ k, g k = some true := by
  obtain ⟨r, h, rfl⟩ := h
  exact h.rounds
end Go.Proofs.Ytgpkkkmapgnhkaa.Pl
namespace Go.Proofs.Ytgpkkkmapgnhkaa.X
open Go.RowKit Go.Proofs.YtgpkkkmapgnhkaaW.PrintWords Go.Proofs.Ytgpkkkmapgnhkaa.Pl
set_option linter.unusedSimpArgs false
end Go.Proofs.Ytgpkkkmapgnhkaa.X
namespace Go.Proofs.Ytgpkkkmapgnhkaa.Pure
open Go.RowKit Go.Proofs.YtgpkkkmapgnhkaaW.PrintWords Go.Proofs.Ytgpkkkmapgnhkaa.Pl Go.Proofs.Ytgpkkkmapgnhkaa.X
set_option linter.unusedSimpArgs false
set_option linter.unusedVariables false
def inB (n lo hi : Int) : Bool := decide (lo ≤ n ∧ n ≤ hi)
def cfgB (l : List Int) (a b c d e f : Int) : Bool := decide ((l.length : Int) ≤ 32) && (inB a 1 9 && (inB b 1 99 && (inB c 1 4 && (inB d 1 999 && (inB e 1 3 && inB f 1 999)))))
theorem l1In_val (a b c : Int) : spec_l1In.f a b c = some (inB a b c) := by
  unfold spec_l1In.f inB
  by_cases h : b ≤ a <;> simp [h]
theorem spec_CfgOk_val (l : List Int) (a b c d e f : Int) : spec_CfgOk.f l a b c d e f = some (cfgB l a b c d e f) := by
  unfold spec_CfgOk.f cfgB
  simp only [l1In_val, Option.bind_some]
  by_cases h : (l.length : Int) ≤ 32
  · rw [if_pos h, decide_eq_true h]
    cases inB a 1 9 <;> cases inB b 1 99 <;> cases inB c 1 4 <;> cases inB d 1 999 <;> cases inB e 1 3 <;> rfl
  · rw [if_neg h, decide_eq_false h]
    rfl
theorem impl_CfgOk_val (l : List Int) (a b c d e f : Int) : impl_CfgOk.f l a b c d e f = some (cfgB l a b c d e f) := (show impl_CfgOk.f l a b c d e f = spec_CfgOk.f l a b c d e f from rfl).trans (spec_CfgOk_val l a b c d e f)
end Go.Proofs.Ytgpkkkmapgnhkaa.Pure
namespace Go.Proofs.Ytgpkkkmapgnhkaa.X
open Go.RowKit Go.Proofs.YtgpkkkmapgnhkaaW.PrintWords Go.Proofs.Ytgpkkkmapgnhkaa.Pl
set_option linter.unusedSimpArgs false
set_option linter.unusedVariables false
theorem toByteS_ev (l : List Int) (hl : l.length ≤ 1048576) : Ev (fun k => laws_toByteS.f k l) l := by
  have hle := hl
  have := ev_map id 0 0 l (fun k i s => laws_toByteS.l0 k l s i) hle ?_ ?_
  · refine Ev.congr (fun k => ?_) (by simpa using this)
    show laws_toByteS.f k l = _
    unfold laws_toByteS.f
    rw [if_pos (by omega), if_pos (by omega)]
    rfl
  · intro i s hi hs r h
    refine Ev.step (fun k => ?_) h
    simp only [laws_toByteS.l0]
    rw [if_pos (by omega), if_pos (by omega), if_pos (by omega), wrap_succ (by omega)]
    rfl
  · intro k s hs
    simp only [laws_toByteS.l0]
    rw [if_neg (by omega)]
theorem eqByteS_ev (l : List Int) (hl : l.length ≤ 1048576) : Ev (fun k => laws_eqByteS.f k l l) true := by
  have hle := hl
  have := ev_all l.length (fun k i => laws_eqByteS.l0 k l l i) ?_ ?_
  · refine Ev.congr (fun k => ?_) this
    show laws_eqByteS.f k l l = _
    unfold laws_eqByteS.f
    rw [if_pos rfl]
  · intro i hi h
    refine Ev.step (fun k => ?_) h
    simp only [laws_eqByteS.l0]
    rw [if_pos (by omega), if_pos (by omega), if_pos (by omega), wrap_succ (by omega)]
    simp
  · intro k
    simp only [laws_eqByteS.l0]
    rw [if_neg (by omega)]
theorem szByteS_ev (l : List Int) (left : Int) (h0 : 0 ≤ left) (h1 : left ≤ 1048576) (g : l.length ≤ maxLen) : ∃ r, Ev (fun k => laws_szByteS.f l left) r ∧ r ≤ 1048576 ∧ (0 ≤ r → l.length ≤ 1048576) := by
  have hm : maxLen = 9223372036854775807 := rfl
  have hlm : l.length ≤ maxLen := g
  have w : wrap64 (left - (l.length : Int)) = left - (l.length : Int) := wrap_id (by omega) (by omega)
  by_cases n : left - (l.length : Int) < 0
  · exact ⟨-1, ⟨0, fun k hk => by simp [laws_szByteS.f, w, n]⟩, by omega, fun h => absurd h (by omega)⟩
  exact ⟨left - (l.length : Int), ⟨0, fun k hk => by simp [laws_szByteS.f, w, n]⟩, by omega, fun _ => by omega⟩
end Go.Proofs.Ytgpkkkmapgnhkaa.X
namespace Go.Proofs.Ytgpkkkmapgnhkaa.X
open Go.RowKit Go.Proofs.YtgpkkkmapgnhkaaW.PrintWords Go.Proofs.Ytgpkkkmapgnhkaa.Pl
set_option linter.unusedSimpArgs false
set_option linter.unusedVariables false
theorem toTenCfg_ev (v0 : List Int) (v1 : Int) (v2 : Int) (v3 : Int) (v4 : Int) (v5 : Int) (v6 : Int) (s0 : v0.length ≤ 1048576) : Ev (fun k => laws_toTenCfg.f k v0 v1 v2 v3 v4 v5 v6) (v0, v1, v2, v3, v4, v5, v6) := by
  obtain ⟨K0, h0⟩ := toByteS_ev v0 s0
  refine ⟨K0, fun k hk => ?_⟩
  simp only [laws_toTenCfg.f, h0 k (by omega), Option.bind_some]
theorem eqTenCfg_ev (v0 : List Int) (v1 : Int) (v2 : Int) (v3 : Int) (v4 : Int) (v5 : Int) (v6 : Int) (s0 : v0.length ≤ 1048576) : Ev (fun k => laws_eqTenCfg.f k v0 v1 v2 v3 v4 v5 v6 v0 v1 v2 v3 v4 v5 v6) true := by
  obtain ⟨K0, h0⟩ := eqByteS_ev v0 s0
  refine ⟨K0, fun k hk => ?_⟩
  simp [laws_eqTenCfg.f, h0 k (by omega)]
theorem szTenCfg_ev (v0 : List Int) (v1 : Int) (v2 : Int) (v3 : Int) (v4 : Int) (v5 : Int) (v6 : Int) (left : Int) (h0 : 0 ≤ left) (h1 : left ≤ 1048576) (g0 : v0.length ≤ maxLen) : ∃ r, Ev (fun k => laws_szTenCfg.f v0 v1 v2 v3 v4 v5 v6 left) r ∧ r ≤ 1048576 ∧ (0 ≤ r → v0.length ≤ 1048576) := by
  have hm : maxLen = 9223372036854775807 := rfl
  obtain ⟨c0, ⟨K0, e0⟩, u0, q0⟩ := szByteS_ev v0 left (by omega) (by omega) g0
  by_cases n0 : c0 < 0
  · exact ⟨-1, ⟨K0, fun k hk => by simp [laws_szTenCfg.f, e0 k (by omega), n0]⟩, by omega, fun h => absurd h (by omega)⟩
  exact ⟨c0, ⟨K0, fun k hk => by simp [laws_szTenCfg.f, e0 k (by omega), n0]⟩, by omega, fun _ => q0 (by omega)⟩
end Go.Proofs.Ytgpkkkmapgnhkaa.X
namespace Go.Proofs.Ytgpkkkmapgnhkaa.X
open Go.RowKit Go.Proofs.YtgpkkkmapgnhkaaW.PrintWords Go.Proofs.Ytgpkkkmapgnhkaa.Pl
set_option linter.unusedSimpArgs false
set_option linter.unusedVariables false
def sm146 (x : S146) : Prop := True
theorem eqOpOp_ev (v0 : Int) (v1 : Int) (v2 : Int) (v3 : Int) (v4 : Int) : Ev (fun k => laws_eqOpOp.f v0 v1 v2 v3 v4 v0 v1 v2 v3 v4) true := by
  refine ⟨0, fun k hk => ?_⟩
  simp [laws_eqOpOp.f]
theorem eqOpOpS_ev (l : List S146) (hl : l.length ≤ 1048576 ∧ ∀ y ∈ l, sm146 y) : Ev (fun k => laws_eqOpOpS.f k l l) true := by
  have hle := hl.1
  have := ev_all l.length (fun k i => laws_eqOpOpS.l0 k l l i) ?_ ?_
  · refine Ev.congr (fun k => ?_) this
    show laws_eqOpOpS.f k l l = _
    unfold laws_eqOpOpS.f
    rw [if_pos rfl]
  · intro i hi h
    have hx : sm146 (rd_T146 l (i : Int)) := hl.2 _ (getD_mem l z146 i hi)
    obtain ⟨K0, h0⟩ := eqOpOp_ev ((rd_T146 l (i : Int)).f0) ((rd_T146 l (i : Int)).f1) ((rd_T146 l (i : Int)).f2) ((rd_T146 l (i : Int)).f3) ((rd_T146 l (i : Int)).f4) 
    obtain ⟨K, h⟩ := h
    refine ⟨K + K0 + 1, fun k hk => ?_⟩
    obtain ⟨k, rfl⟩ : ∃ m, k = m + 1 := ⟨k - 1, by omega⟩
    have e0 := h0 k (by omega)
    have e1 := h k (by omega)
    dsimp only at e0 e1
    simp only [laws_eqOpOpS.l0]
    rw [if_pos (by omega), if_pos (by omega), if_pos (by omega), e0]
    simp only [Option.bind_some, if_true]
    rw [wrap_succ (by omega)]
    exact e1
  · intro k
    simp only [laws_eqOpOpS.l0]
    rw [if_neg (by omega)]
end Go.Proofs.Ytgpkkkmapgnhkaa.X
namespace Go.Proofs.Ytgpkkkmapgnhkaa.X
open Go.RowKit Go.Proofs.YtgpkkkmapgnhkaaW.PrintWords Go.Proofs.Ytgpkkkmapgnhkaa.Pl
set_option linter.unusedSimpArgs false
set_option linter.unusedVariables false
def sm124 (x : S124) : Prop := x.f1.size ≤ 1048576 ∧ (x.f2.length ≤ 1048576 ∧ ∀ y ∈ x.f2, sm146 y)
theorem eqTenJob_ev (v0 : Int) (v1 : ByteArray) (v2 : List S146) (v3 : Int) (s2 : (v2.length ≤ 1048576 ∧ ∀ y ∈ v2, sm146 y)) : Ev (fun k => laws_eqTenJob.f k v0 v1 v2 v3 v0 v1 v2 v3) true := by
  obtain ⟨K0, h0⟩ := eqOpOpS_ev v2 s2
  refine ⟨K0, fun k hk => ?_⟩
  simp [laws_eqTenJob.f, h0 k (by omega)]
theorem eqTenJobS_ev (l : List S124) (hl : l.length ≤ 1048576 ∧ ∀ y ∈ l, sm124 y) : Ev (fun k => laws_eqTenJobS.f k l l) true := by
  have hle := hl.1
  have := ev_all l.length (fun k i => laws_eqTenJobS.l0 k l l i) ?_ ?_
  · refine Ev.congr (fun k => ?_) this
    show laws_eqTenJobS.f k l l = _
    unfold laws_eqTenJobS.f
    rw [if_pos rfl]
  · intro i hi h
    have hx : sm124 (rd_T124 l (i : Int)) := hl.2 _ (getD_mem l z124 i hi)
    unfold sm124 at hx
    obtain ⟨x0, x1⟩ := hx
    obtain ⟨K0, h0⟩ := eqTenJob_ev ((rd_T124 l (i : Int)).f0) ((rd_T124 l (i : Int)).f1) ((rd_T124 l (i : Int)).f2) ((rd_T124 l (i : Int)).f3) x1
    obtain ⟨K, h⟩ := h
    refine ⟨K + K0 + 1, fun k hk => ?_⟩
    obtain ⟨k, rfl⟩ : ∃ m, k = m + 1 := ⟨k - 1, by omega⟩
    have e0 := h0 k (by omega)
    have e1 := h k (by omega)
    dsimp only at e0 e1
    simp only [laws_eqTenJobS.l0]
    rw [if_pos (by omega), if_pos (by omega), if_pos (by omega), e0]
    simp only [Option.bind_some, if_true]
    rw [wrap_succ (by omega)]
    exact e1
  · intro k
    simp only [laws_eqTenJobS.l0]
    rw [if_neg (by omega)]
end Go.Proofs.Ytgpkkkmapgnhkaa.X
namespace Go.Proofs.Ytgpkkkmapgnhkaa.X
open Go.RowKit Go.Proofs.YtgpkkkmapgnhkaaW.PrintWords Go.Proofs.Ytgpkkkmapgnhkaa.Pl
set_option linter.unusedSimpArgs false
set_option linter.unusedVariables false
def sm156 (x : S156) : Prop := x.f0.size ≤ 1048576 ∧ x.f2.length ≤ 1048576
theorem eqTenFile_ev (v0 : ByteArray) (v1 : Int) (v2 : List Int) (s2 : v2.length ≤ 1048576) : Ev (fun k => laws_eqTenFile.f k v0 v1 v2 v0 v1 v2) true := by
  obtain ⟨K0, h0⟩ := eqByteS_ev v2 s2
  refine ⟨K0, fun k hk => ?_⟩
  simp [laws_eqTenFile.f, h0 k (by omega)]
theorem eqTenFileS_ev (l : List S156) (hl : l.length ≤ 1048576 ∧ ∀ y ∈ l, sm156 y) : Ev (fun k => laws_eqTenFileS.f k l l) true := by
  have hle := hl.1
  have := ev_all l.length (fun k i => laws_eqTenFileS.l0 k l l i) ?_ ?_
  · refine Ev.congr (fun k => ?_) this
    show laws_eqTenFileS.f k l l = _
    unfold laws_eqTenFileS.f
    rw [if_pos rfl]
  · intro i hi h
    have hx : sm156 (rd_T156 l (i : Int)) := hl.2 _ (getD_mem l z156 i hi)
    unfold sm156 at hx
    obtain ⟨x0, x1⟩ := hx
    obtain ⟨K0, h0⟩ := eqTenFile_ev ((rd_T156 l (i : Int)).f0) ((rd_T156 l (i : Int)).f1) ((rd_T156 l (i : Int)).f2) x1
    obtain ⟨K, h⟩ := h
    refine ⟨K + K0 + 1, fun k hk => ?_⟩
    obtain ⟨k, rfl⟩ : ∃ m, k = m + 1 := ⟨k - 1, by omega⟩
    have e0 := h0 k (by omega)
    have e1 := h k (by omega)
    dsimp only at e0 e1
    simp only [laws_eqTenFileS.l0]
    rw [if_pos (by omega), if_pos (by omega), if_pos (by omega), e0]
    simp only [Option.bind_some, if_true]
    rw [wrap_succ (by omega)]
    exact e1
  · intro k
    simp only [laws_eqTenFileS.l0]
    rw [if_neg (by omega)]
end Go.Proofs.Ytgpkkkmapgnhkaa.X
namespace Go.Proofs.Ytgpkkkmapgnhkaa.X
open Go.RowKit Go.Proofs.YtgpkkkmapgnhkaaW.PrintWords Go.Proofs.Ytgpkkkmapgnhkaa.Pl
set_option linter.unusedSimpArgs false
set_option linter.unusedVariables false
theorem eqStringS_ev (l : List ByteArray) (hl : l.length ≤ 1048576 ∧ ∀ y ∈ l, y.size ≤ 1048576) : Ev (fun k => laws_eqStringS.f k l l) true := by
  have hle := hl.1
  have := ev_all l.length (fun k i => laws_eqStringS.l0 k l l i) ?_ ?_
  · refine Ev.congr (fun k => ?_) this
    show laws_eqStringS.f k l l = _
    unfold laws_eqStringS.f
    rw [if_pos rfl]
  · intro i hi h
    refine Ev.step (fun k => ?_) h
    simp only [laws_eqStringS.l0]
    rw [if_pos (by omega), if_pos (by omega), if_pos (by omega), wrap_succ (by omega)]
    simp
  · intro k
    simp only [laws_eqStringS.l0]
    rw [if_neg (by omega)]
end Go.Proofs.Ytgpkkkmapgnhkaa.X
namespace Go.Proofs.Ytgpkkkmapgnhkaa.X
open Go.RowKit Go.Proofs.YtgpkkkmapgnhkaaW.PrintWords Go.Proofs.Ytgpkkkmapgnhkaa.Pl
set_option linter.unusedSimpArgs false
set_option linter.unusedVariables false
def sm158 (x : S158) : Prop := x.f2.length ≤ 1048576
theorem eqTenOut_ev (v0 : Int) (v1 : Int) (v2 : List Int) (s2 : v2.length ≤ 1048576) : Ev (fun k => laws_eqTenOut.f k v0 v1 v2 v0 v1 v2) true := by
  obtain ⟨K0, h0⟩ := eqByteS_ev v2 s2
  refine ⟨K0, fun k hk => ?_⟩
  simp [laws_eqTenOut.f, h0 k (by omega)]
theorem eqTenOutS_ev (l : List S158) (hl : l.length ≤ 1048576 ∧ ∀ y ∈ l, sm158 y) : Ev (fun k => laws_eqTenOutS.f k l l) true := by
  have hle := hl.1
  have := ev_all l.length (fun k i => laws_eqTenOutS.l0 k l l i) ?_ ?_
  · refine Ev.congr (fun k => ?_) this
    show laws_eqTenOutS.f k l l = _
    unfold laws_eqTenOutS.f
    rw [if_pos rfl]
  · intro i hi h
    have hx : sm158 (rd_T158 l (i : Int)) := hl.2 _ (getD_mem l z158 i hi)
    unfold sm158 at hx
    have x0 := hx
    obtain ⟨K0, h0⟩ := eqTenOut_ev ((rd_T158 l (i : Int)).f0) ((rd_T158 l (i : Int)).f1) ((rd_T158 l (i : Int)).f2) x0
    obtain ⟨K, h⟩ := h
    refine ⟨K + K0 + 1, fun k hk => ?_⟩
    obtain ⟨k, rfl⟩ : ∃ m, k = m + 1 := ⟨k - 1, by omega⟩
    have e0 := h0 k (by omega)
    have e1 := h k (by omega)
    dsimp only at e0 e1
    simp only [laws_eqTenOutS.l0]
    rw [if_pos (by omega), if_pos (by omega), if_pos (by omega), e0]
    simp only [Option.bind_some, if_true]
    rw [wrap_succ (by omega)]
    exact e1
  · intro k
    simp only [laws_eqTenOutS.l0]
    rw [if_neg (by omega)]
end Go.Proofs.Ytgpkkkmapgnhkaa.X
namespace Go.Proofs.Ytgpkkkmapgnhkaa.X
open Go.RowKit Go.Proofs.YtgpkkkmapgnhkaaW.PrintWords Go.Proofs.Ytgpkkkmapgnhkaa.Pl
set_option linter.unusedSimpArgs false
set_option linter.unusedVariables false
theorem eqTenState_ev (v0 : Int) (v1 : Int) (v2 : Int) (v3 : Int) (v4 : List S124) (v5 : List S156) (v6 : List ByteArray) (v7 : List S158) (s4 : (v4.length ≤ 1048576 ∧ ∀ y ∈ v4, sm124 y)) (s5 : (v5.length ≤ 1048576 ∧ ∀ y ∈ v5, sm156 y)) (s6 : (v6.length ≤ 1048576 ∧ ∀ y ∈ v6, y.size ≤ 1048576)) (s7 : (v7.length ≤ 1048576 ∧ ∀ y ∈ v7, sm158 y)) : Ev (fun k => laws_eqTenState.f k v0 v1 v2 v3 v4 v5 v6 v7 v0 v1 v2 v3 v4 v5 v6 v7) true := by
  obtain ⟨K0, h0⟩ := eqTenJobS_ev v4 s4
  obtain ⟨K1, h1⟩ := eqTenFileS_ev v5 s5
  obtain ⟨K2, h2⟩ := eqStringS_ev v6 s6
  obtain ⟨K3, h3⟩ := eqTenOutS_ev v7 s7
  refine ⟨K0 + K1 + K2 + K3, fun k hk => ?_⟩
  simp [laws_eqTenState.f, h0 k (by omega), h1 k (by omega), h2 k (by omega), h3 k (by omega)]
end Go.Proofs.Ytgpkkkmapgnhkaa.X
namespace Go.Proofs.Ytgpkkkmapgnhkaa.Pure
open Go.RowKit Go.Proofs.YtgpkkkmapgnhkaaW.PrintWords Go.Proofs.Ytgpkkkmapgnhkaa.Pl Go.Proofs.Ytgpkkkmapgnhkaa.X
set_option linter.unusedSimpArgs false
set_option linter.unusedVariables false
theorem markB_l0 (n : Nat) : ∀ (k : Nat) (l : List Int) (x : Int) (i : Nat), l.length = i + n → l.length ≤ 1048576 → 0 ≤ x → x + n ≤ 4194304 → n + 1 ≤ k → ∃ l', laws_markByteS.l0 k l x (i : Int) = some (x + n, l') := by
  induction n with
  | zero =>
    intro k l x i h _ _ _ hk
    obtain ⟨k, rfl⟩ : ∃ j, k = j + 1 := ⟨k - 1, by omega⟩
    refine ⟨l, ?_⟩
    rw [laws_markByteS.l0, if_neg (by omega)]
    simp
  | succ n ih =>
    intro k l x i h hl hx hxn hk
    obtain ⟨k, rfl⟩ : ∃ j, k = j + 1 := ⟨k - 1, by omega⟩
    have w1 : wrap64 (x + 1) = x + 1 := by unfold wrap64; omega
    have w2 : wrap64 ((i : Int) + 1) = ((i + 1 : Nat) : Int) := by unfold wrap64; omega
    obtain ⟨l', hl'⟩ := ih k (l.set (i : Int).toNat (x % 256)) (x + 1) (i + 1) (by rw [List.length_set]; omega) (by rw [List.length_set]; omega) (by omega) (by omega) (by omega)
    refine ⟨l', ?_⟩
    rw [laws_markByteS.l0, if_pos (by omega), if_pos (by omega), w1, w2, hl']
    simp only [Option.some.injEq, Prod.mk.injEq, and_true]
    omega
theorem held_none (a b c d : Int) : laws_heldTenState.f a b c d [] [] [] [] 1 = some 1 := by
  simp [laws_heldTenState.f]
theorem mark_none (a b c d : Int) : laws_markTenState.f a b c d [] [] [] [] 1 = some 1 := by
  simp [laws_markTenState.f]
theorem FnExactTenNew : laws_FnExactTenNew.Pure := by
  intro c0 c1 c2 c3 c4 c5 c6 g0 _ _ _ _ _ _ _
  obtain ⟨r, ⟨K0, e0⟩, hrle, hr⟩ := szTenCfg_ev c0 c1 c2 c3 c4 c5 c6 1048576 (by omega) (by omega) g0
  dsimp only at e0
  by_cases hn : r < 0
  · refine ⟨K0, ?_⟩
    unfold laws_FnExactTenNew.f
    rw [e0 K0 (by omega)]
    simp [hn]
  have hs0 := hr (by omega)
  obtain ⟨K2, e2⟩ := toTenCfg_ev c0 c1 c2 c3 c4 c5 c6 hs0
  obtain ⟨K6, e6⟩ := eqTenCfg_ev c0 c1 c2 c3 c4 c5 c6 hs0
  obtain ⟨T, hi, hp⟩ : ∃ T : Int, impl_TenNew.f c0 c1 c2 c3 c4 c5 c6 = some (0, T, 0, 0, [], [], [], []) ∧ spec_TenNew.f c0 c1 c2 c3 c4 c5 c6 = some (0, T, 0, 0, [], [], [], []) := by
    simp only [impl_TenNew.f, spec_TenNew.f, impl_CfgOk_val, spec_CfgOk_val]
    cases hc : cfgB c0 c1 c2 c3 c4 c5 c6 with
    | false => exact ⟨0, by simp, by simp⟩
    | true => exact ⟨c1, by simp, by simp⟩
  obtain ⟨K7, e7⟩ := eqTenState_ev 0 T 0 0 [] [] [] [] ⟨by simp, by simp⟩ ⟨by simp, by simp⟩ ⟨by simp, by simp⟩ ⟨by simp, by simp⟩
  dsimp only at e2 e6 e7
  obtain ⟨K, hK⟩ : ∃ K, K = K0 + K2 + K6 + K7 + c0.length + 2 := ⟨_, rfl⟩
  obtain ⟨l', hm⟩ := markB_l0 c0.length (K + 1) c0 1 0 (by omega) hs0 (by omega) (by omega) (by omega)
  have e8 : laws_markTenCfg.f (K + 1) c0 c1 c2 c3 c4 c5 c6 1 = some (1 + (c0.length : Int), l') := by
    rw [laws_markTenCfg.f, laws_markByteS.f, show (0 : Int) = ((0 : Nat) : Int) from rfl, hm]
    rfl
  refine ⟨K + 1, ?_⟩
  unfold laws_FnExactTenNew.f
  rw [e0 (K + 1) (by omega)]
  simp only [Option.bind_some, if_neg hn]
  rw [e2 (K + 1) (by omega)]
  simp only [Option.bind_some, hi, hp]
  rw [e7 (K + 1) (by omega)]
  simp only [Option.bind_some, if_true]
  rw [e6 (K + 1) (by omega)]
  simp only [Option.bind_some, if_true]
  rw [e8]
  simp only [Option.bind_some]
  rw [if_neg (by omega), laws_FnExactTenNew.j0]
  simp only [Bool.not_true, Bool.false_eq_true, if_false, mark_none, held_none, Option.bind_some]
  rw [if_neg (by omega)]
  simp only [if_true]
  rw [e2 K (by omega)]
  simp only [Option.bind_some, hi]
  rw [e7 K (by omega)]
  simp only [Option.bind_some, if_true]
  rfl
end Go.Proofs.Ytgpkkkmapgnhkaa.Pure
