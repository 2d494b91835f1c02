/- Lemmas and contracts for the law FnTenNew, part 7: of the program's functions, and over data alone. No condition. -/
import Derived.Test.YtgpkkkmapgnhkaaMFnTenNew1
import Derived.Test.YtgpkkkmapgnhkaaMFnTenNew2
import Derived.Test.YtgpkkkmapgnhkaaMFnTenNew3
import Derived.Test.YtgpkkkmapgnhkaaMFnTenNew6
namespace Go.Proofs.Ytgpkkkmapgnhkaa.Pl
open Go.RowKit Go.Proofs.YtgpkkkmapgnhkaaW.PrintWords

theorem wrap_id {x : Int} (h0 : -9223372036854775808 ≤ x) (h1 : x ≤ 9223372036854775807) : wrap64 x = x := by
  unfold wrap64; omega

/-- From a round on: with a round more. -/
theorem ev_succ {α : Type} {g : Nat → Option α} {r : α} (h : Ev (fun k => g (k + 1)) r) : Ev g r := by
  obtain ⟨K, h⟩ := h
  refine ⟨K + 1, fun n hn => ?_⟩
  obtain ⟨m, rfl⟩ : ∃ m, n = m + 1 := ⟨n - 1, by omega⟩
  exact h m (by omega)

theorem getD_mem {α : Type} (l : List α) (z : α) (i : Nat) (h : i < l.length) : l.getD i z ∈ l := by
  rw [List.getD_eq_getElem?_getD, List.getElem?_eq_getElem h]; exact List.getElem_mem h

/-- From a number of rounds on, through a step. -/
theorem Ev.at_ {α : Type} {g : Nat → Option α} {r : α} (h : Ev g r) : ∃ K, ∀ k, K ≤ k → g k = some r := h

/-! ### What a told function comes to, from some number of rounds on -/
/-- It answers, and the answer is so. -/
def Tot {α : Type} (g : Nat → Option α) (post : α → Prop) : Prop := ∃ r, Ev g r ∧ post r
theorem Tot.ret {α : Type} {post : α → Prop} {r : α} (h : post r) : Tot (fun _ => some r) post := ⟨r, Ev.now r, h⟩
theorem Tot.mono {α : Type} {g : Nat → Option α} {P Q : α → Prop} (h : Tot g P) (hi : ∀ r, P r → Q r) : Tot g Q := by
  obtain ⟨r, h, hp⟩ := h
  exact ⟨r, h, hi r hp⟩
theorem Tot.bind {α β : Type} {g : Nat → Option α} {f : Nat → α → Option β} {P : α → Prop} {Q : β → Prop} (h : Tot g P) (hf : ∀ a, P a → Tot (fun k => f k a) Q) : Tot (fun k => (g k).bind (f k)) Q := by
  obtain ⟨a, h, hp⟩ := h
  obtain ⟨r, h2, hq⟩ := hf a hp
  exact ⟨r, Ev.bind h h2, hq⟩
theorem Tot.some_bind {α β : Type} {f : Nat → α → Option β} {Q : β → Prop} {a : α} (hf : Tot (fun k => f k a) Q) : Tot (fun k => (some a).bind (f k)) Q := hf
theorem Tot.ite {α : Type} {c : Prop} [Decidable c] {f g : Nat → Option α} {Q : α → Prop} (h1 : c → Tot f Q) (h2 : ¬ c → Tot g Q) : Tot (fun k => if c then f k else g k) Q := by
  by_cases h : c
  · simpa [h] using h1 h
  · simpa [h] using h2 h
theorem Tot.pos {α : Type} {c : Prop} [Decidable c] {f g : Nat → Option α} {Q : α → Prop} (h : c) (h1 : Tot f Q) : Tot (fun k => if c then f k else g k) Q := by simpa [h] using h1
theorem Tot.succ {α : Type} {g : Nat → Option α} {Q : α → Prop} (h : Tot (fun k => g (k + 1)) Q) : Tot g Q := by
  obtain ⟨r, h, hp⟩ := h
  exact ⟨r, ev_succ h, hp⟩
/-- A loop, or a call of itself: what is smaller comes to its answer. -/
theorem tot_ind {α σ : Type} (g : Nat → σ → Option α) (Inv : σ → Prop) (m : σ → Nat) (post : α → Prop)
    (h : ∀ s, Inv s → (∀ s', Inv s' → m s' < m s → Tot (fun k => g k s') post) → Tot (fun k => g k s) post) : ∀ s, Inv s → Tot (fun k => g k s) post := by
  have key : ∀ d s, m s < d → Inv s → Tot (fun k => g k s) post := by
    intro d
    induction d with
    | zero => intro s h; omega
    | succ d ih => intro s hd hs; exact h s hs (fun s' hs' hm => ih s' (by omega) hs')
  intro s hs
  exact key (m s + 1) s (by omega) hs
theorem Tot.rounds {g : Nat → Option Bool} (h : Tot g (fun b => b = true)) : ∃ k, g k = some true := by
  obtain ⟨r, h, rfl⟩ := h
  exact h.rounds

end Go.Proofs.Ytgpkkkmapgnhkaa.Pl

namespace Go.Proofs.Ytgpkkkmapgnhkaa.X
open Go.RowKit Go.Proofs.YtgpkkkmapgnhkaaW.PrintWords Go.Proofs.Ytgpkkkmapgnhkaa.Pl
set_option linter.unusedSimpArgs false

theorem bits_xor_nonneg (a b : Int) (ha : 0 ≤ a) (ha' : a < 4611686018427387904) (hb : 0 ≤ b) (hb' : b < 4611686018427387904) : 0 ≤ Go.bits .xor .i64 a b ∧ Go.bits .xor .i64 a b < 4611686018427387904 := by
  obtain ⟨m, rfl⟩ := Int.eq_ofNat_of_zero_le ha
  obtain ⟨n, rfl⟩ := Int.eq_ofNat_of_zero_le hb
  have h1 : m < 2 ^ 62 := by omega
  have h2 : n < 2 ^ 62 := by omega
  have hx : m ^^^ n < 2 ^ 62 := Nat.xor_lt_two_pow h1 h2
  have hm : m % 2 ^ 64 = m := Nat.mod_eq_of_lt (by omega)
  have hn : n % 2 ^ 64 = n := Nat.mod_eq_of_lt (by omega)
  have e : Go.bits .xor .i64 (m : Int) (n : Int) = ((m ^^^ n : Nat) : Int) := by
    have hb : (BitVec.ofNat 64 m ^^^ BitVec.ofNat 64 n).toNat = m ^^^ n := by rw [BitVec.toNat_xor, BitVec.toNat_ofNat, BitVec.toNat_ofNat, hm, hn]
    simp only [Go.bits, IntKind.bits, BitVec.ofInt_natCast]
    rw [IntKind.wrap_i64]
    change (((BitVec.ofNat 64 m ^^^ BitVec.ofNat 64 n).toNat : Int) + 9223372036854775808) % 18446744073709551616 - 9223372036854775808 = _
    rw [hb]
    omega
  rw [e]
  omega

/-- The bytes of a code. -/
def Bytes (l : List Int) : Prop := l.length ≤ 2000 ∧ ∀ y ∈ l, 0 ≤ y ∧ y ≤ 255
theorem bytes_rd {l : List Int} (h : Bytes l) (i : Int) : 0 ≤ rd l i ∧ rd l i ≤ 255 := by
  unfold rd
  by_cases hi : i.toNat < l.length
  · exact h.2 _ (getD_mem l 0 i.toNat hi)
  · rw [List.getD_eq_getElem?_getD, List.getElem?_eq_none (by omega)]
    simp

theorem tmod_bd (a n : Int) (ha : 0 ≤ a) (hn : 0 < n) : 0 ≤ Int.tmod a n ∧ Int.tmod a n < n := by
  rw [Int.tmod_eq_emod_of_nonneg ha]
  exact ⟨Int.emod_nonneg _ (by omega), Int.emod_lt_of_pos _ hn⟩

theorem pick_ev (l : List Int) (hl : Bytes l) (p n : Int) (h0 : 0 ≤ p) (h1 : p ≤ 1000000000000) :
    ∃ r, Ev (fun k => spec_l20Rd_pick.f k l p n) (r, p + 1) ∧ 0 ≤ r ∧ (1 ≤ n → r < n) ∧ (n < 1 → r = 0) := by
  have w1 : wrap64 (p + 1) = p + 1 := wrap_id (by omega) (by omega)
  have w2 : wrap64 (p + 1 - 1) = p := by rw [show p + 1 - 1 = p by omega]; exact wrap_id (by omega) (by omega)
  by_cases hn : n < 1
  · refine ⟨0, ev_succ ⟨0, fun k _ => ?_⟩, by omega, fun h => absurd h (by omega), fun _ => rfl⟩
    simp [spec_l20Rd_pick.f, hn, spec_l20Rd_pick.j0, w1]
  have hne : ¬ (n = 0) := by omega
  by_cases hz : l.length = 0
  · refine ⟨0, ev_succ ⟨0, fun k _ => ?_⟩, by omega, fun h => by omega, fun h => absurd h hn⟩
    simp [spec_l20Rd_pick.f, hn, hz, spec_l20Rd_pick.j0, w1]
  have hz' : ¬ ((l.length : Int) = 0) := by omega
  have hzb : ((l.length : Int) == 0) = false := by simpa using hz
  by_cases hlt : p < (l.length : Int)
  · have hb := bytes_rd hl p
    have w3 : wrap64 (rd l p) = rd l p := wrap_id (by omega) (by omega)
    have ht := tmod_bd (rd l p) n hb.1 (by omega)
    refine ⟨Int.tmod (rd l p) n, ev_succ ⟨0, fun k _ => ?_⟩, ht.1, fun _ => ht.2, fun h => absurd h hn⟩
    simp only [spec_l20Rd_pick.f]
    rw [if_neg hn, hzb, w1]
    simp only [spec_l20Rd_pick.j0]
    rw [if_neg (by decide), w2, if_pos hlt, if_pos h0, if_neg hne, w3]
  · have L0 : (0 : Int) < (l.length : Int) := by omega
    have m1 := tmod_bd p (l.length : Int) h0 L0
    have w4 : wrap64 (p * 7) = p * 7 := wrap_id (by omega) (by omega)
    have w5 : wrap64 (p * 7 + 3) = p * 7 + 3 := wrap_id (by omega) (by omega)
    have m2 := tmod_bd (p * 7 + 3) (l.length : Int) (by omega) L0
    obtain ⟨i1, hi1⟩ : ∃ i, i = Int.tmod p (l.length : Int) := ⟨_, rfl⟩
    obtain ⟨i2, hi2⟩ : ∃ i, i = Int.tmod (p * 7 + 3) (l.length : Int) := ⟨_, rfl⟩
    have b1 := bytes_rd hl i1
    have b2 := bytes_rd hl i2
    obtain ⟨v1, hv1⟩ : ∃ v, v = rd l i1 := ⟨_, rfl⟩
    obtain ⟨v2, hv2⟩ : ∃ v, v = rd l i2 := ⟨_, rfl⟩
    have d1 : 0 ≤ Int.tdiv p (l.length : Int) ∧ Int.tdiv p (l.length : Int) ≤ p := by
      rw [Int.tdiv_eq_ediv_of_nonneg h0]
      exact ⟨Int.ediv_nonneg h0 (by omega), Int.ediv_le_self _ h0⟩
    obtain ⟨q, hq⟩ : ∃ q, q = Int.tdiv p (l.length : Int) := ⟨_, rfl⟩
    rw [← hi1] at m1
    rw [← hi2] at m2
    rw [← hv1] at b1
    rw [← hv2] at b2
    rw [← hq] at d1
    have x1 : wrap64 v1 = v1 := wrap_id (by omega) (by omega)
    have x2 : wrap64 v2 = v2 := wrap_id (by omega) (by omega)
    have x3 : wrap64 (v1 * 131) = v1 * 131 := wrap_id (by omega) (by omega)
    have x4 : wrap64 (v2 * 1117) = v2 * 1117 := wrap_id (by omega) (by omega)
    have x5 : wrap64 (v1 * 131 + v2 * 1117) = v1 * 131 + v2 * 1117 := wrap_id (by omega) (by omega)
    have x6 : wrap64 (p * 29) = p * 29 := wrap_id (by omega) (by omega)
    have x7 : wrap64 (v1 * 131 + v2 * 1117 + p * 29) = v1 * 131 + v2 * 1117 + p * 29 := wrap_id (by omega) (by omega)
    have x8 : wrap64 q = q := wrap_id (by omega) (by omega)
    have x9 : wrap64 (q * 53) = q * 53 := wrap_id (by omega) (by omega)
    have x10 : wrap64 (v1 * 131 + v2 * 1117 + p * 29 + q * 53) = v1 * 131 + v2 * 1117 + p * 29 + q * 53 := wrap_id (by omega) (by omega)
    obtain ⟨s, hs⟩ : ∃ s, s = v1 * 131 + v2 * 1117 + p * 29 + q * 53 := ⟨_, rfl⟩
    have hs0 : 0 ≤ s := by omega
    have hs1 : s ≤ 1000000000000000 := by omega
    have x11 : wrap64 (Int.tdiv s 64) = s / 64 := by
      rw [Int.tdiv_eq_ediv_of_nonneg hs0]
      exact wrap_id (by omega) (by omega)
    have hx := bits_xor_nonneg s (s / 64) hs0 (by omega) (by omega) (by omega)
    have ht := tmod_bd (Go.bits .xor .i64 s (s / 64)) n hx.1 (by omega)
    refine ⟨Int.tmod (Go.bits .xor .i64 s (s / 64)) n, ev_succ ⟨0, fun k _ => ?_⟩, ht.1, fun _ => ht.2, fun h => absurd h hn⟩
    simp only [spec_l20Rd_pick.f]
    rw [if_neg hn, hzb, w1]
    simp only [spec_l20Rd_pick.j0]
    rw [if_neg (by decide), w2, if_neg hlt, if_neg hz', w4, w5, ← hi1, ← hi2, if_pos m1.1, if_pos m1.2, if_pos m2.1, if_pos m2.2, if_neg hne, ← hv1, ← hv2, ← hq]
    simp only [x1, x2, x3, x4, x5, x6, x7, x8, x9, x10]
    rw [← hs, x11]

theorem odd_ev (l : List Int) (hl : Bytes l) (p n : Int) (h0 : 0 ≤ p) (h1 : p ≤ 1000000000000) (hn : n ≤ 1000000) :
    ∃ b q, Ev (fun k => spec_l20Rd_odd.f k l p n) (b, q) ∧ p ≤ q ∧ q ≤ p + 1 ∧ (n ≤ 0 → b = false) := by
  by_cases hn0 : n > 0
  · obtain ⟨r, ⟨K, hr⟩, _, _, _⟩ := pick_ev l hl p n h0 h1
    refine ⟨r == wrap64 (n - 1), p + 1, ⟨K, fun k hk => ?_⟩, by omega, by omega, fun h => absurd h (by omega)⟩
    have := hr k hk
    dsimp only at this
    simp [spec_l20Rd_odd.f, hn0, this]
  · refine ⟨false, p, ⟨0, fun k _ => ?_⟩, by omega, by omega, fun _ => rfl⟩
    simp [spec_l20Rd_odd.f, hn0]

theorem pick_tot {l : List Int} (hl : Bytes l) (p n : Int) (h0 : 0 ≤ p) (h1 : p ≤ 1000000000000) :
    Tot (fun k => spec_l20Rd_pick.f k l p n) (fun x => x.2 = p + 1 ∧ 0 ≤ x.1 ∧ (1 ≤ n → x.1 < n) ∧ (n < 1 → x.1 = 0)) := by
  obtain ⟨r, h, a, b, c⟩ := pick_ev l hl p n h0 h1
  exact ⟨_, h, rfl, a, b, c⟩
theorem odd_tot {l : List Int} (hl : Bytes l) (p n : Int) (h0 : 0 ≤ p) (h1 : p ≤ 1000000000000) (hn : n ≤ 1000000) :
    Tot (fun k => spec_l20Rd_odd.f k l p n) (fun x => p ≤ x.2 ∧ x.2 ≤ p + 1 ∧ (n ≤ 0 → x.1 = false)) := by
  obtain ⟨b, q, h, c⟩ := odd_ev l hl p n h0 h1 hn
  exact ⟨_, h, c⟩
theorem open_some (l : List Int) (hu : ∀ y ∈ l, 0 ≤ y ∧ y ≤ 255) : ∃ b, spec_l20Open.f l = some (b, 0) ∧ Bytes b := by
  unfold spec_l20Open.f
  by_cases h : (l.length : Int) > 2000
  · rw [if_pos h, if_pos (by omega)]
    refine ⟨l.take 2000, rfl, ?_, fun y hy => hu y (List.mem_of_mem_take hy)⟩
    rw [List.length_take]
    omega
  · rw [if_neg h]
    exact ⟨l, rfl, by omega, hu⟩
end Go.Proofs.Ytgpkkkmapgnhkaa.X

namespace Go.Proofs.Ytgpkkkmapgnhkaa.Pure
open Go.RowKit Go.Proofs.YtgpkkkmapgnhkaaW.PrintWords Go.Proofs.Ytgpkkkmapgnhkaa.Pl Go.Proofs.Ytgpkkkmapgnhkaa.X
set_option linter.unusedSimpArgs false
set_option linter.unusedVariables false

theorem l20Bytes_l0_tot {l : List Int} (hl : Bytes l) (P : Int) (hP : P ≤ 700000000000) : ∀ s : List Int × Int × Int, (0 ≤ s.2.2 ∧ s.2.1 ≤ 100 ∧ (s.1.length : Int) + (max s.2.1 0) ≤ 1000 ∧ s.2.2 + 3 * (max s.2.1 0) ≤ P) →
    Tot (fun k => spec_l20Bytes.l0 k s.1 s.2.1 l s.2.2) (fun x => 0 ≤ x.2 ∧ x.2 ≤ P) := by
  refine tot_ind (fun k (s : List Int × Int × Int) => spec_l20Bytes.l0 k s.1 s.2.1 l s.2.2) _ (fun s => s.2.1.toNat) _ ?_
  rintro ⟨s, c, p⟩ ⟨i1, i2, i3, i4⟩ ih
  dsimp only at i1 i2 i3 i4 ⊢
  refine Tot.succ ?_
  simp only [spec_l20Bytes.l0]
  refine Tot.ite ?_ ?_ <;> intro h
  · refine Tot.bind (pick_tot hl p 256 (by omega) (by omega)) ?_
    rintro ⟨r0, p0⟩ ⟨e0, -, -, -⟩
    dsimp only at e0 ⊢
    refine Tot.bind (pick_tot hl p0 4 (by omega) (by omega)) ?_
    rintro ⟨r1, p1⟩ ⟨e1, -, -, -⟩
    dsimp only at e1 ⊢
    refine Tot.some_bind ?_
    refine Tot.bind (pick_tot hl p1 3 (by omega) (by omega)) ?_
    rintro ⟨r2, p2⟩ ⟨e2, a2, b2, -⟩
    dsimp only at e2 a2 b2 ⊢
    refine Tot.pos a2 (Tot.pos (by simp only [List.length_cons, List.length_nil]; omega) (Tot.pos (by omega) ?_))
    have w : wrap64 (c - 1) = c - 1 := wrap_id (by omega) (by omega)
    rw [w]
    exact ih (_, c - 1, p2) (by dsimp only; rw [List.length_append]; simp only [List.length_cons, List.length_nil]; omega) (by dsimp only; omega)
  · exact Tot.ret (by dsimp only; omega)
theorem l20Bytes_tot {l : List Int} (hl : Bytes l) (p : Int) (h0 : 0 ≤ p) (h1 : p ≤ 600000000000) : Tot (fun k => spec_l20Bytes.f k l p 16) (fun x => 0 ≤ x.2 ∧ x.2 ≤ p + 1000) := by
  simp only [spec_l20Bytes.f]
  have w : wrap64 (16 + 1) = 17 := by unfold wrap64; omega
  rw [w]
  refine Tot.bind (pick_tot hl p 17 h0 (by omega)) ?_
  rintro ⟨r0, p0⟩ ⟨e0, a0, b0, -⟩
  dsimp only at e0 a0 b0 ⊢
  exact (l20Bytes_l0_tot hl (p0 + 60) (by omega) ([], r0, p0) (by dsimp only [List.length_nil]; omega)).mono (fun x hx => by omega)
theorem l20Cfg_tot {l : List Int} (hl : Bytes l) (p n : Int) (h0 : 0 ≤ p) (h1 : p ≤ 500000000000) (hn : n ≤ 1000) : Tot (fun k => spec_l20Cfg.f k l p n) (fun _ => True) := by
  simp only [spec_l20Cfg.f]
  refine Tot.bind (l20Bytes_tot hl p h0 (by omega)) ?_
  rintro ⟨b, p0⟩ ⟨a0, b0⟩
  dsimp only at a0 b0 ⊢
  refine Tot.bind (pick_tot hl p0 6 (by omega) (by omega)) ?_
  rintro ⟨r1, p1⟩ ⟨e1, -, -, -⟩
  dsimp only at e1 ⊢
  refine Tot.bind (pick_tot hl p1 6 (by omega) (by omega)) ?_
  rintro ⟨r2, p2⟩ ⟨e2, -, -, -⟩
  dsimp only at e2 ⊢
  refine Tot.bind (pick_tot hl p2 4 (by omega) (by omega)) ?_
  rintro ⟨r3, p3⟩ ⟨e3, -, -, -⟩
  dsimp only at e3 ⊢
  refine Tot.bind (pick_tot hl p3 30 (by omega) (by omega)) ?_
  rintro ⟨r4, p4⟩ ⟨e4, -, -, -⟩
  dsimp only at e4 ⊢
  refine Tot.bind (pick_tot hl p4 3 (by omega) (by omega)) ?_
  rintro ⟨r5, p5⟩ ⟨e5, -, -, -⟩
  dsimp only at e5 ⊢
  refine Tot.bind (pick_tot hl p5 25 (by omega) (by omega)) ?_
  rintro ⟨r6, p6⟩ ⟨e6, -, -, -⟩
  dsimp only at e6 ⊢
  refine Tot.bind (odd_tot hl p6 n (by omega) (by omega) (by omega)) ?_
  rintro ⟨b7, p7⟩ ⟨e7, e8, -⟩
  dsimp only at e7 e8 ⊢
  refine Tot.ite ?_ ?_ <;> intro hb
  · refine Tot.bind (pick_tot hl p7 6 (by omega) (by omega)) ?_
    rintro ⟨r8, p8⟩ ⟨e9, -, -, -⟩
    dsimp only at e9 ⊢
    refine Tot.ite ?_ ?_ <;> intro h
    · exact Tot.pos (by decide) (Tot.ret trivial)
    all_goals try (refine Tot.ite ?_ ?_ <;> intro h')
    all_goals try (refine Tot.ite ?_ ?_ <;> intro h'')
    all_goals try (refine Tot.ite ?_ ?_ <;> intro h''')
    all_goals try (refine Tot.ite ?_ ?_ <;> intro h'''')
    all_goals
      refine Tot.some_bind ?_
      refine Tot.bind (pick_tot hl p8 2 (by omega) (by omega)) ?_
      rintro ⟨r9, p9⟩ ⟨-, c1, c2, -⟩
      dsimp only at c1 c2 ⊢
      exact Tot.pos c1 (Tot.pos (by simp only [List.length_cons, List.length_nil]; omega) (Tot.ret trivial))
  · exact Tot.ret trivial
def inB (n lo hi : Int) : Bool := decide (lo ≤ n ∧ n ≤ hi)
def cfgB (l : List Int) (a b c d e f : Int) : Bool := decide ((l.length : Int) ≤ 32) && (inB a 1 9 && (inB b 1 99 && (inB c 1 4 && (inB d 1 999 && (inB e 1 3 && inB f 1 999)))))
theorem l1In_val (a b c : Int) : spec_l1In.f a b c = some (inB a b c) := by
  unfold spec_l1In.f inB
  by_cases h : b ≤ a <;> simp [h]
theorem spec_CfgOk_val (l : List Int) (a b c d e f : Int) : spec_CfgOk.f l a b c d e f = some (cfgB l a b c d e f) := by
  unfold spec_CfgOk.f cfgB
  simp only [l1In_val, Option.bind_some]
  by_cases h : (l.length : Int) ≤ 32
  · rw [if_pos h, decide_eq_true h]
    cases inB a 1 9 <;> cases inB b 1 99 <;> cases inB c 1 4 <;> cases inB d 1 999 <;> cases inB e 1 3 <;> rfl
  · rw [if_neg h, decide_eq_false h]
    rfl
theorem impl_CfgOk_val (l : List Int) (a b c d e f : Int) : impl_CfgOk.f l a b c d e f = some (cfgB l a b c d e f) := (show impl_CfgOk.f l a b c d e f = spec_CfgOk.f l a b c d e f from rfl).trans (spec_CfgOk_val l a b c d e f)
theorem eaOk_val : laws_eaOk.f = some true := by
  unfold laws_eaOk.f impl_PixOk.f
  simp [impl_partOk.f]

end Go.Proofs.Ytgpkkkmapgnhkaa.Pure

namespace Go.Proofs.Ytgpkkkmapgnhkaa.Pure
open Go.RowKit Go.Proofs.YtgpkkkmapgnhkaaW.PrintWords Go.Proofs.Ytgpkkkmapgnhkaa.Pl Go.Proofs.Ytgpkkkmapgnhkaa.X
set_option linter.unusedSimpArgs false
set_option linter.unusedVariables false

theorem eaTen_none (k : Nat) (a b c d : Int) : laws_eaTen.f (k + 3) a b c d [] [] [] [] a b c d [] [] [] [] = some true := by
  simp [laws_eaTen.f, laws_eaFiles.f, laws_eaFiles.l0, laws_eaTexts.f, laws_eaTexts.l0, laws_eaOuts.f, laws_eaOuts.l0, laws_eaTen.j0, laws_eaTen.l0]
theorem TenOk_new (k : Nat) (l : List Int) (a b c d e f : Int) (h : cfgB l a b c d e f = true) : impl_TenOk.f (k + 4) l a b c d e f 0 a 0 0 [] [] [] [] = some true := by
  have h2 := h
  unfold cfgB inB at h2
  simp only [Bool.and_eq_true, decide_eq_true_eq] at h2
  obtain ⟨h0, ha, hb, hc, hd, he, hf⟩ := h2
  have a1 : 0 ≤ a := by omega
  have c1 : ¬ ((0 : Int) > c) := by omega
  have e1 : ¬ ((0 : Int) > e) := by omega
  have w (x y z : Int) : impl_within.f x y z = some (decide (y ≤ x ∧ x ≤ z)) := by
    show spec_l1In.f x y z = _
    rw [l1In_val]; rfl
  simp [impl_TenOk.f, impl_CfgOk_val, h, w, impl_TenOk.j0, impl_TenOk.j1, impl_jobsOk.f, impl_jobsOk.l0, impl_filesOk.f, impl_filesOk.l0, impl_askedOk.f, impl_askedOk.l0, impl_outsOk.f, impl_outsOk.l0, a1, c1, e1]
  try omega

theorem FnTenNew : laws_FnTenNew.Pure := by
  intro l0 hm _ hwf
  have hu : ∀ y ∈ l0, 0 ≤ y ∧ y ≤ 255 := by
    intro y hy
    have := hwf y hy
    simp [Lit.wf, IntKind.min, IntKind.max, IntKind.signed, IntKind.bits] at this
    omega
  by_cases hlen : (l0.length : Int) > 1048576
  · exact ⟨0, by unfold laws_FnTenNew.f; rw [if_pos hlen]⟩
  obtain ⟨b, hb, hby⟩ := open_some l0 hu
  obtain ⟨⟨key, a, b1, c, d, e, f, q⟩, ⟨K, h⟩, -⟩ := l20Cfg_tot hby 0 4 (by omega) (by omega) (by omega)
  have hd : ∀ n, K ≤ n → spec_DrawTenNew.f n l0 = some (key, a, b1, c, d, e, f) := by
    intro n hn
    have := h n hn
    dsimp only at this
    unfold spec_DrawTenNew.f
    rw [hb]
    simp only [Option.bind_some]
    rw [this]
    rfl
  refine ⟨K + 7, ?_⟩
  unfold laws_FnTenNew.f
  rw [if_neg hlen, hd (K + 7) (by omega)]
  simp only [Option.bind_some, impl_TenNew.f, spec_TenNew.f, impl_CfgOk_val, spec_CfgOk_val]
  cases hc : cfgB key a b1 c d e f with
  | false =>
    have e1 := eaTen_none (K + 4) 0 0 0 0
    have e2 := eaTen_none (K + 3) 0 0 0 0
    simp only [Bool.false_eq_true, if_false, Option.bind_some, e1, if_true, bne_self_eq_false]
    rw [show K + 7 = (K + 6) + 1 from rfl, laws_FnTenNew.j0]
    simp only [Bool.false_eq_true, if_false, spec_CfgOk_val, hc, Option.bind_some, e2, if_true, eaOk_val]
  | true =>
    have e1 := eaTen_none (K + 4) 0 a 0 0
    have e2 := TenOk_new (K + 2) key a b1 c d e f hc
    simp only [if_true, Option.bind_some, e1, bne_self_eq_false]
    rw [show K + 7 = (K + 6) + 1 from rfl, laws_FnTenNew.j0]
    have w0 : wrap64 0 = 0 := by unfold wrap64; omega
    simp [spec_CfgOk_val, hc, e2, w0]
end Go.Proofs.Ytgpkkkmapgnhkaa.Pure
