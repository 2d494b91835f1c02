/- Lemmas and contracts for the law FnExactOpDo, part 8: of the program's functions, and over data alone. No condition. -/
import Derived.Test.YtoifpgkfpdeglaaMFnExactOpDo6
import Derived.Test.YtoifpgkfpdeglaaMFnExactOpDo4
import Derived.Test.YtoifpgkfpdeglaaMFnExactOpDo5
import Derived.Test.YtoifpgkfpdeglaaMFnExactOpDo7
namespace Go.Proofs.Ytoifpgkfpdeglaa.X
open Go.RowKit Go.Proofs.YtoifpgkfpdeglaaW.PrintWords Go.Proofs.Ytoifpgkfpdeglaa.Pl
set_option linter.unusedSimpArgs false
set_option linter.unusedVariables false

theorem mk_succ (w h : Nat) (f : Nat → Nat → Pix) : mk w (h + 1) f = mk w h f ++ (List.range' 0 w).map fun x => f x h := by
  unfold mk
  rw [Nat.mul_add, Nat.mul_one, List.range_add, List.map_append, List.map_map, ← List.range_eq_range']
  congr 1
  apply List.map_congr_left
  intro x hx
  have hx' := List.mem_range.1 hx
  show f ((w * h + x) % w) ((w * h + x) / w) = f x h
  rw [Nat.mul_add_mod, Nat.mod_eq_of_lt hx', Nat.mul_add_div (by omega), Nat.div_eq_of_lt hx', Nat.add_zero]
theorem mk_zero (w : Nat) (f : Nat → Nat → Pix) : mk w 0 f = [] := by unfold mk; simp
theorem ev_rows {β : Type} (w h : Nat) (f : Nat → Nat → Pix) (g0 : Nat → Nat → List Pix → Option β) (g1 : Nat → Nat → Nat → List Pix → Option β) (R : β) (hw : w ≤ 6) (hh : h ≤ 6)
    (hstart : ∀ i s r, i < h → Ev (fun k => g1 k i 0 s) r → Ev (fun k => g0 k i s) r)
    (hin : ∀ i j s r, i < h → j < w → s.length ≤ 10000 → Ev (fun k => g1 k i (j + 1) (s ++ [f j i])) r → Ev (fun k => g1 k i j s) r)
    (hout : ∀ i s r, i < h → Ev (fun k => g0 k (i + 1) s) r → Ev (fun k => g1 k i w s) r)
    (hend : Ev (fun k => g0 k h (mk w h f)) R) : Ev (fun k => g0 k 0 []) R := by
  have inner : ∀ i, i < h → ∀ d j, j + d = w → ∀ (s : List Pix) r, s.length + d ≤ 10000 → Ev (fun k => g1 k i w (s ++ (List.range' j d).map fun x => f x i)) r → Ev (fun k => g1 k i j s) r := by
    intro i hi d
    induction d with
    | zero => intro j hj s r _ h; obtain rfl : j = w := by omega
              simpa using h
    | succ d ih =>
      intro j hj s r hs h
      refine hin i j s r hi (by omega) (by omega) (ih (j + 1) (by omega) _ r (by rw [List.length_append]; simp only [List.length_cons, List.length_nil]; omega) ?_)
      rw [List.range'_succ, List.map_cons] at h
      rw [List.append_assoc, List.singleton_append]
      exact h
  have outer : ∀ d i, i + d = h → Ev (fun k => g0 k i (mk w i f)) R := by
    intro d
    induction d with
    | zero => intro i hi; obtain rfl : i = h := by omega
              exact hend
    | succ d ih =>
      intro i hi
      have hm : w * i ≤ 6 * 6 := Nat.mul_le_mul hw (by omega)
      refine hstart i _ R (by omega) (inner i (by omega) w 0 (by omega) _ R (by rw [mk_length]; omega) (hout i _ R (by omega) ?_))
      rw [← mk_succ]
      exact ih (i + 1) (by omega)
  have := outer h 0 (by omega)
  rwa [mk_zero] at this
theorem ev_line {β : Type} (n : Nat) (F : Nat → Pix) (g : Nat → Nat → List Pix → Option β) (R : β) (hn : n ≤ 10000)
    (hstep : ∀ i s r, i < n → s.length = i → Ev (fun k => g k (i + 1) (s ++ [F i])) r → Ev (fun k => g k i s) r)
    (hend : Ev (fun k => g k n ((List.range n).map F)) R) : Ev (fun k => g k 0 []) R := by
  have outer : ∀ d i, i + d = n → Ev (fun k => g k i ((List.range i).map F)) R := by
    intro d
    induction d with
    | zero => intro i hi; obtain rfl : i = n := by omega
              exact hend
    | succ d ih =>
      intro i hi
      refine hstep i _ R (by omega) (by simp) ?_
      have := ih (i + 1) (by omega)
      rwa [List.range_succ, List.map_append] at this
  exact outer n 0 (by omega)

/-! ### Small numbers -/
theorem wadd {a b : Nat} (h : a + b ≤ 1000000) : wrap64 ((a : Int) + (b : Int)) = ((a + b : Nat) : Int) := by rw [← Int.natCast_add]; exact wrap_id (by omega) (by omega)
theorem wadd1 {a : Nat} (h : a ≤ 999999) : wrap64 ((a : Int) + 1) = ((a + 1 : Nat) : Int) := wadd (a := a) (b := 1) (by omega)
theorem wmul {a b : Nat} (h : a * b ≤ 1000000) : wrap64 ((a : Int) * (b : Int)) = ((a * b : Nat) : Int) := by
  rw [← Int.natCast_mul]; exact wrap_id (Int.le_trans (by decide) (Int.natCast_nonneg _)) (Int.le_trans (Int.ofNat_le.2 h) (by decide))
theorem wmul2 {b : Nat} (h : b ≤ 1000) : wrap64 (2 * (b : Int)) = ((2 * b : Nat) : Int) := wmul (a := 2) (b := b) (by omega)
theorem wsub {a b : Nat} (h : b ≤ a) (ha : a ≤ 1000000) : wrap64 ((a : Int) - (b : Int)) = ((a - b : Nat) : Int) := by rw [← Int.ofNat_sub h]; exact wrap_id (by omega) (by omega)
theorem wsub1 {a : Nat} (h : 1 ≤ a) (ha : a ≤ 1000000) : wrap64 ((a : Int) - 1) = ((a - 1 : Nat) : Int) := wsub (b := 1) h ha
theorem wdiv {a b : Nat} (ha : a ≤ 1000000) : wrap64 (Int.tdiv (a : Int) (b : Int)) = ((a / b : Nat) : Int) := by
  rw [show Int.tdiv (a : Int) (b : Int) = ((a / b : Nat) : Int) from rfl]
  have := Nat.div_le_self a b
  exact wrap_id (Int.le_trans (by decide) (Int.natCast_nonneg _)) (Int.le_trans (Int.ofNat_le.2 (Nat.le_trans this ha)) (by decide))
theorem place_le {x y wd hg : Nat} (hw : wd ≤ 6) (hh : hg ≤ 6) (hy : y < hg) (hx : x < wd) : y * wd ≤ 36 ∧ y * wd + x ≤ 100 := by
  have : y * wd ≤ 6 * 6 := Nat.mul_le_mul (by omega) hw
  omega
theorem at_place {l : List Pix} {wd hg x y : Nat} (hl : l.length = wd * hg) (hx : x < wd) (hy : y < hg) : (0 : Int) ≤ ((y * wd + x : Nat) : Int) ∧ ((y * wd + x : Nat) : Int) < (l.length : Int) := by
  have := place_lt hx hy hl
  omega
theorem rd_pix (l : List Pix) (wd x y : Nat) : (⟨(rd_T36 l ((y * wd + x : Nat) : Int)).f0, (rd_T36 l ((y * wd + x : Nat) : Int)).f1, (rd_T36 l ((y * wd + x : Nat) : Int)).f2, (rd_T36 l ((y * wd + x : Nat) : Int)).f3⟩ : Pix) = pix l wd x y := rfl

theorem spec_l6Crop_ev {wd hg : Nat} {l : List Pix} (hv : Valid wd hg l) (o : Op) (h0 : o.f0 = 1) (ho : OkO o) (hm : hasM o wd hg = true) :
    Ev (fun k => spec_l6Crop.f k wd hg l o.f0 o.f1 o.f2 o.f3 o.f4) ((wideM o wd hg : Int), (highM o wd hg : Int), picM o wd hg l) := by
  obtain ⟨hw, hh, hl, -⟩ := hv
  have hbd : (0 ≤ o.f1 ∧ o.f1 ≤ 5) ∧ (0 ≤ o.f2 ∧ o.f2 ≤ 5) ∧ (1 ≤ o.f3 ∧ o.f3 ≤ 6) ∧ (1 ≤ o.f4 ∧ o.f4 ≤ 6) := by
    rcases ho with ⟨_, h⟩ | ⟨h, _⟩ | ⟨h, _⟩ | ⟨h, _⟩
    · exact h
    · omega
    · omega
    · omega
  have hc := hasM_crop hm h0
  obtain ⟨a0, a1, a2, a3, a4⟩ := o
  dsimp only at h0 hbd hc ⊢
  obtain ⟨A, rfl⟩ : ∃ n : Nat, a1 = n := ⟨a1.toNat, by omega⟩
  obtain ⟨B, rfl⟩ : ∃ n : Nat, a2 = n := ⟨a2.toNat, by omega⟩
  obtain ⟨C, rfl⟩ : ∃ n : Nat, a3 = n := ⟨a3.toNat, by omega⟩
  obtain ⟨D, rfl⟩ : ∃ n : Nat, a4 = n := ⟨a4.toNat, by omega⟩
  subst h0
  have e : picM ⟨1, A, B, C, D⟩ wd hg l = mk C D fun x y => pix l wd (A + x) (B + y) := rfl
  rw [e]
  refine ev_rows C D (fun x y => pix l wd (A + x) (B + y)) (fun k i s => spec_l6Crop.l0 k i wd hg l 1 A B C D C D s) (fun k i j s => spec_l6Crop.l1 k i j wd hg l 1 A B C D C D s) _ (by omega) (by omega) ?_ ?_ ?_ ?_
  · intro i s r hi h
    refine Ev.step (fun k => ?_) h
    simp only [spec_l6Crop.l0]
    rw [if_pos (by omega)]
    rfl
  · intro i j s r hi hj hs h
    refine Ev.step (fun k => ?_) h
    have hp := place_le hw.2 hh.2 (show B + i < hg by omega) (show A + j < wd by omega)
    have ha := at_place hl (show A + j < wd by omega) (show B + i < hg by omega)
    simp only [spec_l6Crop.l1]
    rw [if_pos (by omega), wadd (a := B) (b := i) (by omega), wmul (by omega), wadd (b := A) (by omega), wadd (b := j) (by omega), Nat.add_assoc, if_pos ha.1, if_pos ha.2, if_pos (by omega), wadd1 (by omega), rd_pix]
  · intro i s r hi h
    refine Ev.step (fun k => ?_) h
    simp only [spec_l6Crop.l1]
    rw [if_neg (by omega), wadd1 (by omega)]
  · refine ev_succ ⟨0, fun k _ => ?_⟩
    simp only [spec_l6Crop.l0]
    rw [if_neg (by omega)]
    rfl
theorem spec_l6FlipX_ev {wd hg : Nat} {l : List Pix} (hv : Valid wd hg l) : Ev (fun k => spec_l6FlipX.f k wd hg l) ((wd : Int), (hg : Int), picM ⟨2, 0, 0, 0, 0⟩ wd hg l) := by
  obtain ⟨hw, hh, hl, -⟩ := hv
  rw [picM_flipX]
  refine ev_rows wd hg (fun x y => pix l wd (wd - 1 - x) y) (fun k i s => spec_l6FlipX.l0 k i wd hg l wd hg s) (fun k i j s => spec_l6FlipX.l1 k i ((wd : Int) - 1 - j) wd hg l wd hg s) _ (by omega) (by omega) ?_ ?_ ?_ ?_
  · intro i s r hi h
    refine Ev.step (fun k => ?_) h
    simp only [spec_l6FlipX.l0]
    rw [if_pos (by omega), wsub1 (by omega) (by omega)]
    congr 1
    omega
  · intro i j s r hi hj hs h
    refine Ev.step (fun k => ?_) h
    have hp := place_le hw.2 hh.2 hi (show wd - 1 - j < wd by omega)
    have ha := at_place hl (show wd - 1 - j < wd by omega) hi
    have e1 : (wd : Int) - 1 - (j : Int) = ((wd - 1 - j : Nat) : Int) := by omega
    have e2 : wrap64 (((wd - 1 - j : Nat) : Int) - 1) = (wd : Int) - 1 - ((j + 1 : Nat) : Int) := by rw [wrap_id (by omega) (by omega)]; omega
    simp only [spec_l6FlipX.l1]
    rw [if_pos (by omega), e1, wmul (by omega), wadd (by omega), if_pos ha.1, if_pos ha.2, if_pos (by omega), e2, rd_pix]
  · intro i s r hi h
    refine Ev.step (fun k => ?_) h
    simp only [spec_l6FlipX.l1]
    rw [if_neg (by omega), wadd1 (by omega)]
  · refine ev_succ ⟨0, fun k _ => ?_⟩
    simp only [spec_l6FlipX.l0]
    rw [if_neg (by omega)]
theorem spec_l6Turn_ev {wd hg : Nat} {l : List Pix} (hv : Valid wd hg l) : Ev (fun k => spec_l6Turn.f k wd hg l) ((hg : Int), (wd : Int), picM ⟨4, 0, 0, 0, 0⟩ wd hg l) := by
  obtain ⟨hw, hh, hl, -⟩ := hv
  rw [picM_turn]
  refine ev_rows hg wd (fun x y => pix l wd y (hg - 1 - x)) (fun k i s => spec_l6Turn.l0 k i wd hg l hg wd s) (fun k i j s => spec_l6Turn.l1 k i j wd hg l hg wd s) _ (by omega) (by omega) ?_ ?_ ?_ ?_
  · intro i s r hi h
    refine Ev.step (fun k => ?_) h
    simp only [spec_l6Turn.l0]
    rw [if_pos (by omega)]
    rfl
  · intro i j s r hi hj hs h
    refine Ev.step (fun k => ?_) h
    have hp := place_le hw.2 hh.2 (show hg - 1 - j < hg by omega) hi
    have ha := at_place hl hi (show hg - 1 - j < hg by omega)
    simp only [spec_l6Turn.l1]
    rw [if_pos (by omega), wsub1 (by omega) (by omega), wsub (by omega) (by omega), wmul (by omega), wadd (by omega), if_pos ha.1, if_pos ha.2, if_pos (by omega), wadd1 (by omega), rd_pix]
  · intro i s r hi h
    refine Ev.step (fun k => ?_) h
    simp only [spec_l6Turn.l1]
    rw [if_neg (by omega), wadd1 (by omega)]
  · refine ev_succ ⟨0, fun k _ => ?_⟩
    simp only [spec_l6Turn.l0]
    rw [if_neg (by omega)]
theorem spec_l6Size_ev {wd hg : Nat} {l : List Pix} (hv : Valid wd hg l) {a b : Nat} (ha : 1 ≤ a ∧ a ≤ 6) (hb : 1 ≤ b ∧ b ≤ 6) : Ev (fun k => spec_l6Size.f k wd hg l 7 a b 0 0) ((a : Int), (b : Int), picM ⟨7, a, b, 0, 0⟩ wd hg l) := by
  obtain ⟨hw, hh, hl, -⟩ := hv
  have e : picM ⟨7, a, b, 0, 0⟩ wd hg l = mk a b fun x y => pix l wd ((2 * x + 1) * wd / (2 * a)) ((2 * y + 1) * hg / (2 * b)) := rfl
  rw [e]
  refine ev_rows a b (fun x y => pix l wd ((2 * x + 1) * wd / (2 * a)) ((2 * y + 1) * hg / (2 * b))) (fun k i s => spec_l6Size.l0 k i wd hg l 7 a b 0 0 a b s) (fun k i j s => spec_l6Size.l1 k i j wd hg l 7 a b 0 0 a b s) _ (by omega) (by omega) ?_ ?_ ?_ ?_
  · intro i s r hi h
    refine Ev.step (fun k => ?_) h
    simp only [spec_l6Size.l0]
    rw [if_pos (by omega)]
    rfl
  · intro i j s r hi hj hs h
    refine Ev.step (fun k => ?_) h
    have hx := scale_lt (n := a) hj (show 0 < wd by omega)
    have hy := scale_lt (n := b) hi (show 0 < hg by omega)
    have hp := place_le hw.2 hh.2 hy hx
    have hat := at_place hl hx hy
    have q1 : (2 * i + 1) * hg ≤ 13 * 6 := Nat.mul_le_mul (by omega) hh.2
    have q2 : (2 * j + 1) * wd ≤ 13 * 6 := Nat.mul_le_mul (by omega) hw.2
    simp only [spec_l6Size.l1]
    rw [if_pos (by omega), wmul2 (b := b) (by omega), if_neg (by omega), wmul2 (b := a) (by omega), if_neg (by omega), wmul2 (b := i) (by omega), wadd1 (by omega), wmul (by omega), wdiv (by omega), wmul2 (b := j) (by omega), wadd1 (by omega), wmul (a := 2 * j + 1) (b := wd) (by omega), wdiv (by omega), wmul (by omega), wadd (by omega), if_pos hat.1, if_pos hat.2, if_pos (by omega), wadd1 (by omega), rd_pix]
  · intro i s r hi h
    refine Ev.step (fun k => ?_) h
    simp only [spec_l6Size.l1]
    rw [if_neg (by omega), wadd1 (by omega)]
  · refine ev_succ ⟨0, fun k _ => ?_⟩
    simp only [spec_l6Size.l0]
    rw [if_neg (by omega)]
end Go.Proofs.Ytoifpgkfpdeglaa.X

namespace Go.Proofs.Ytoifpgkfpdeglaa.X
open Go.RowKit Go.Proofs.YtoifpgkfpdeglaaW.PrintWords Go.Proofs.Ytoifpgkfpdeglaa.Pl
set_option linter.unusedSimpArgs false
set_option linter.unusedVariables false

theorem ev_blocks {β : Type} (w h : Nat) (f : Nat → Nat → Pix) (g : Nat → Nat → List Pix → Option β) (R : β) (hw : w ≤ 6) (hh : h ≤ 6)
    (hstep : ∀ i s r, i < h → s.length ≤ 10000 → Ev (fun k => g k (i + 1) (s ++ (List.range' 0 w).map fun x => f x i)) r → Ev (fun k => g k i s) r)
    (hend : Ev (fun k => g k h (mk w h f)) R) : Ev (fun k => g k 0 []) R := by
  have outer : ∀ d i, i + d = h → Ev (fun k => g k i (mk w i f)) R := by
    intro d
    induction d with
    | zero => intro i hi; obtain rfl : i = h := by omega
              exact hend
    | succ d ih =>
      intro i hi
      have hm : w * i ≤ 6 * 6 := Nat.mul_le_mul hw (by omega)
      refine hstep i _ R (by omega) (by rw [mk_length]; omega) ?_
      rw [← mk_succ]
      exact ih (i + 1) (by omega)
  have := outer h 0 (by omega)
  rwa [mk_zero] at this
theorem row_eq {wd hg y : Nat} {l : List Pix} (hl : l.length = wd * hg) (hy : y < hg) : (l.take ((y + 1) * wd)).drop (y * wd) = (List.range' 0 wd).map fun x => pix l wd x y := by
  have h1 : (y + 1) * wd ≤ hg * wd := Nat.mul_le_mul_right _ (by omega)
  have h2 : (y + 1) * wd = y * wd + wd := by rw [Nat.add_mul, Nat.one_mul]
  have h3 : hg * wd = l.length := by rw [hl, Nat.mul_comm]
  rw [← List.range_eq_range']
  apply List.ext_getElem?
  intro i
  rw [List.getElem?_drop, List.getElem?_take, List.getElem?_map]
  by_cases hi : i < wd
  · rw [if_pos (by omega), List.getElem?_range hi, List.getElem?_eq_getElem (by omega)]
    unfold pix
    rw [Option.map_some, List.getD_eq_getElem?_getD, List.getElem?_eq_getElem (by omega)]
    rfl
  · rw [if_neg (by omega), List.getElem?_eq_none (by simp; omega)]
    rfl
theorem spec_l5Flip_ev {wd hg : Nat} {l : List Pix} (hv : Valid wd hg l) : Ev (fun k => spec_l5Flip.f k wd hg l) ((wd : Int), (hg : Int), picM ⟨3, 0, 0, 0, 0⟩ wd hg l) := by
  obtain ⟨hw, hh, hl, -⟩ := hv
  rw [picM_flipY]
  have := ev_blocks wd hg (fun x y => pix l wd x (hg - 1 - y)) (fun k i s => spec_l5Flip.l0 k ((hg : Int) - 1 - i) wd hg l wd hg s) ((wd : Int), (hg : Int), mk wd hg fun x y => pix l wd x (hg - 1 - y)) (by omega) (by omega) ?_ ?_
  · refine Ev.congr (fun k => ?_) this
    show spec_l5Flip.f k wd hg l = _
    unfold spec_l5Flip.f
    rw [wrap_id (x := (hg : Int) - 1) (by omega) (by omega)]
    congr 1
    omega
  · intro i s r hi hs h
    refine Ev.step (fun k => ?_) h
    have e1 : (hg : Int) - 1 - (i : Int) = ((hg - 1 - i : Nat) : Int) := by omega
    have e2 : wrap64 (((hg - 1 - i : Nat) : Int) - 1) = (hg : Int) - 1 - ((i + 1 : Nat) : Int) := by rw [wrap_id (by omega) (by omega)]; omega
    have q1 : (hg - 1 - i) * wd ≤ 6 * 6 := Nat.mul_le_mul (by omega) hw.2
    have q2 : (hg - 1 - i + 1) * wd ≤ 7 * 6 := Nat.mul_le_mul (by omega) hw.2
    have h1 : (hg - 1 - i + 1) * wd ≤ hg * wd := Nat.mul_le_mul_right _ (by omega)
    have h2 : (hg - 1 - i + 1) * wd = (hg - 1 - i) * wd + wd := by rw [Nat.add_mul, Nat.one_mul]
    have h3 : hg * wd = l.length := by rw [hl, Nat.mul_comm]
    have hr := row_eq (y := hg - 1 - i) hl (by omega)
    have hlen : ((l.take ((hg - 1 - i + 1) * wd)).drop ((hg - 1 - i) * wd)).length ≤ 100 := by rw [hr]; simp; omega
    simp only [spec_l5Flip.l0]
    rw [if_pos (by omega), e1, wmul (by omega), wadd1 (by omega), wmul (by omega), if_pos (by omega), if_pos (by omega), if_pos (by omega), Option.bind_some, Int.toNat_natCast, Int.toNat_natCast, if_pos (by omega), e2, hr]
  · refine ev_succ ⟨0, fun k _ => ?_⟩
    simp only [spec_l5Flip.l0]
    rw [if_neg (by omega)]

/-! ### Colour by colour -/
theorem mnmx (a b : Int) : mn a b = (if b < a then b else a) ∧ mx a b = (if a < b then b else a) := ⟨rfl, rfl⟩
theorem mean_inner (l : List Pix) {wd hg x y Y : Nat} (hl : l.length = wd * hg) (hw : wd ≤ 6) (hh : hg ≤ 6) (hx : x < wd) (hY : Y < hg) (r : Int × Int × Int × Int) : ∀ d X C (s : Pix), X + d = nearLo x + nearMany x wd → C + d ≤ 1000 →
    Ev (fun k => spec_l6Mean.l0 k x y ((C + d : Nat) : Int) ((Y + 1 : Nat) : Int) wd hg l (rowSum l wd Y X d s).f0 (rowSum l wd Y X d s).f1 (rowSum l wd Y X d s).f2 (rowSum l wd Y X d s).f3) r →
    Ev (fun k => spec_l6Mean.l1 k x y C Y X wd hg l s.f0 s.f1 s.f2 s.f3) r := by
  have hn := nearMany_pos hx
  have hmin : mn (wrap64 ((wd : Int) - 1)) (wrap64 ((x : Int) + 1)) = ((nearLo x + nearMany x wd : Nat) : Int) - 1 := by
    rw [wrap_id (x := (wd : Int) - 1) (by omega) (by omega), wrap_id (x := (x : Int) + 1) (by omega) (by omega), (mnmx _ _).1, hn.2.1]
    split <;> omega
  intro d
  induction d with
  | zero =>
    intro X C s hX hC h
    refine Ev.step (fun k => ?_) h
    simp only [spec_l6Mean.l1]
    rw [hmin, if_neg (by omega), wadd1 (by omega)]
    rfl
  | succ d ih =>
    intro X C s hX hC h
    have hXw : X < wd := near_lt hx (by omega)
    have hp := place_le hw hh hY hXw
    have ha := at_place hl hXw hY
    have := ih (X + 1) (C + 1) (addP s (pix l wd X Y)) (by omega) (by omega) (by rw [show C + 1 + d = C + (d + 1) by omega]; exact h)
    refine Ev.step (fun k => ?_) this
    simp only [spec_l6Mean.l1]
    rw [hmin, if_pos (by omega), wmul (by omega), wadd (by omega), if_pos ha.1, if_pos ha.2, wadd1 (by omega), wadd1 (by omega)]
    rfl
theorem mean_outer (l : List Pix) {wd hg x y : Nat} (hl : l.length = wd * hg) (hw : wd ≤ 6) (hh : hg ≤ 6) (hx : x < wd) (hy : y < hg) : ∀ d Y C (s : Pix), Y + d = nearLo y + nearMany y hg → C + d * nearMany x wd = nearMany y hg * nearMany x wd →
    Ev (fun k => spec_l6Mean.l0 k x y C Y wd hg l s.f0 s.f1 s.f2 s.f3) ((meanP (boxSum l wd (nearLo x) (nearMany x wd) Y d s) (nearMany y hg * nearMany x wd)).f0, (meanP (boxSum l wd (nearLo x) (nearMany x wd) Y d s) (nearMany y hg * nearMany x wd)).f1, (meanP (boxSum l wd (nearLo x) (nearMany x wd) Y d s) (nearMany y hg * nearMany x wd)).f2, (meanP (boxSum l wd (nearLo x) (nearMany x wd) Y d s) (nearMany y hg * nearMany x wd)).f3) := by
  have hn := nearMany_pos hy
  have hnx := nearMany_pos hx
  have hmb := many_bd hx hy
  have hmin : mn (wrap64 ((hg : Int) - 1)) (wrap64 ((y : Int) + 1)) = ((nearLo y + nearMany y hg : Nat) : Int) - 1 := by
    rw [wrap_id (x := (hg : Int) - 1) (by omega) (by omega), wrap_id (x := (y : Int) + 1) (by omega) (by omega), (mnmx _ _).1, hn.2.1]
    split <;> omega
  have hmax : mx 0 (wrap64 ((x : Int) - 1)) = ((nearLo x : Nat) : Int) := by
    rw [wrap_id (x := (x : Int) - 1) (by omega) (by omega), (mnmx _ _).2]
    unfold nearLo
    split <;> omega
  intro d
  induction d with
  | zero =>
    intro Y C s hY hC
    rw [Nat.zero_mul, Nat.add_zero] at hC
    refine ev_succ ⟨0, fun k _ => ?_⟩
    simp only [spec_l6Mean.l0]
    rw [hmin, if_neg (by omega), if_neg (by omega), hC]
    rfl
  | succ d ih =>
    intro Y C s hY hC
    have hC' : C + nearMany x wd + d * nearMany x wd = nearMany y hg * nearMany x wd := by rw [Nat.add_mul, Nat.one_mul] at hC; omega
    have := mean_inner l hl hw hh hx (show Y < hg from near_lt hy (by omega)) _ (nearMany x wd) (nearLo x) C s rfl (by omega) (ih (Y + 1) (C + nearMany x wd) (rowSum l wd Y (nearLo x) (nearMany x wd) s) (by omega) hC')
    refine Ev.step (fun k => ?_) this
    simp only [spec_l6Mean.l0]
    rw [hmin, hmax, if_pos (by omega)]
theorem spec_l6Mean_ev (l : List Pix) {wd hg x y : Nat} (hl : l.length = wd * hg) (hw : wd ≤ 6) (hh : hg ≤ 6) (hx : x < wd) (hy : y < hg) :
    Ev (fun k => spec_l6Mean.f k wd hg l x y) ((blurP l wd hg x y).f0, (blurP l wd hg x y).f1, (blurP l wd hg x y).f2, (blurP l wd hg x y).f3) := by
  have h := mean_outer l hl hw hh hx hy (nearMany y hg) (nearLo y) 0 z36 rfl (by omega)
  have hmax : mx 0 (wrap64 ((y : Int) - 1)) = ((nearLo y : Nat) : Int) := by
    rw [wrap_id (x := (y : Int) - 1) (by omega) (by omega), (mnmx _ _).2]
    unfold nearLo
    split <;> omega
  refine Ev.congr (fun k => ?_) h
  show spec_l6Mean.f k wd hg l x y = _
  unfold spec_l6Mean.f
  rw [hmax]
  rfl
theorem each_ev {wd hg : Nat} {l : List Pix} (hv : Valid wd hg l) (o0 o1 o2 o3 o4 : Int) (F : Nat → Nat → Pix)
    (hstep : ∀ i (s : List Pix) r, i < l.length → s.length = i → Ev (fun k => spec_l6Each.l0 k ((i + 1 : Nat) : Int) wd hg l o0 o1 o2 o3 o4 wd hg (s ++ [F (i % wd) (i / wd)])) r → Ev (fun k => spec_l6Each.l0 k (i : Int) wd hg l o0 o1 o2 o3 o4 wd hg s) r) :
    Ev (fun k => spec_l6Each.f k wd hg l o0 o1 o2 o3 o4) ((wd : Int), (hg : Int), mk wd hg F) := by
  obtain ⟨hw, hh, hl, -⟩ := hv
  have hle : wd * hg ≤ 6 * 6 := Nat.mul_le_mul hw.2 hh.2
  have := ev_line l.length (fun i => F (i % wd) (i / wd)) (fun k i s => spec_l6Each.l0 k i wd hg l o0 o1 o2 o3 o4 wd hg s) ((wd : Int), (hg : Int), mk wd hg F) (by omega) hstep ?_
  · exact this
  · refine ev_succ ⟨0, fun k _ => ?_⟩
    simp only [spec_l6Each.l0]
    rw [if_neg (by omega), hl]
    rfl
theorem rd_at {l : List Pix} {wd i : Nat} : rd_T36 l (i : Int) = pix l wd (i % wd) (i / wd) := by
  unfold pix
  rw [show i / wd * wd + i % wd = i by rw [Nat.mul_comm]; exact Nat.div_add_mod i wd]
  rfl
theorem spec_gray_ev {wd hg : Nat} {l : List Pix} (hv : Valid wd hg l) (a b c d : Int) : Ev (fun k => spec_l6Each.f k wd hg l 5 a b c d) ((wd : Int), (hg : Int), eachM grayP wd hg l) := by
  refine each_ev hv 5 a b c d (fun x y => grayP (pix l wd x y)) ?_
  have hle : wd * hg ≤ 6 * 6 := Nat.mul_le_mul hv.1.2 hv.2.1.2
  have hl := hv.2.2.1
  intro i s r hi hs h
  refine Ev.step (fun k => ?_) h
  rw [spec_l6Each.l0, if_pos (by omega), if_pos rfl, if_pos (by omega), rd_at (wd := wd)]
  show (if s.length < 4398046511104 then _ else none) = _
  rw [if_pos (by omega), wadd1 (by omega)]
  rfl
theorem spec_flat_ev {wd hg : Nat} {l : List Pix} (hv : Valid wd hg l) (a b c d : Int) : Ev (fun k => spec_l6Each.f k wd hg l 8 a b c d) ((wd : Int), (hg : Int), eachM (flatP a b c) wd hg l) := by
  refine each_ev hv 8 a b c d (fun x y => flatP a b c (pix l wd x y)) ?_
  have hle : wd * hg ≤ 6 * 6 := Nat.mul_le_mul hv.1.2 hv.2.1.2
  have hl := hv.2.2.1
  intro i s r hi hs h
  refine Ev.step (fun k => ?_) h
  rw [spec_l6Each.l0, if_pos (by omega), if_neg (by decide), if_neg (by decide), if_pos (by omega), rd_at (wd := wd)]
  show (if s.length < 4398046511104 then _ else none) = _
  rw [if_pos (by omega), wadd1 (by omega)]
  rfl
theorem spec_blur_ev {wd hg : Nat} {l : List Pix} (hv : Valid wd hg l) (a b c d : Int) : Ev (fun k => spec_l6Each.f k wd hg l 6 a b c d) ((wd : Int), (hg : Int), mk wd hg (blurP l wd hg)) := by
  refine each_ev hv 6 a b c d (blurP l wd hg) ?_
  have hle : wd * hg ≤ 6 * 6 := Nat.mul_le_mul hv.1.2 hv.2.1.2
  have hl := hv.2.2.1
  intro i s r hi hs h
  have hmd := mod_div_lt (show i < wd * hg by omega)
  obtain ⟨K1, h1⟩ := spec_l6Mean_ev l hl hv.1.2 hv.2.1.2 hmd.1 hmd.2
  obtain ⟨K2, h2⟩ := h
  refine ⟨K1 + K2 + 1, fun n hn => ?_⟩
  obtain ⟨m, rfl⟩ : ∃ m, n = m + 1 := ⟨n - 1, by omega⟩
  have e1 := h1 m (by omega)
  have e2 := h2 m (by omega)
  dsimp only at e1 e2 ⊢
  have t1 : Int.tmod (i : Int) (wd : Int) = ((i % wd : Nat) : Int) := rfl
  rw [spec_l6Each.l0, if_pos (by omega), if_neg (by decide), if_pos rfl, if_neg (by have := hv.1.1; omega), t1, wdiv (by omega), e1]
  show (if s.length < 4398046511104 then _ else none) = _
  rw [if_pos (by omega), wadd1 (by omega)]
  exact e2
theorem spec_l6Do_ev {wd hg : Nat} {l : List Pix} (hv : Valid wd hg l) {o : Op} (ho : OkO o) :
    Ev (fun k => spec_l6Do.f k wd hg l o.f0 o.f1 o.f2 o.f3 o.f4) (if hasM o wd hg then ((wideM o wd hg : Int), (highM o wd hg : Int), picM o wd hg l, true) else (0, 0, [], false)) := by
  have hw := hv.1
  have hh := hv.2.1
  have hok := ho
  rcases ho with ⟨h0, b1, b2, b3, b4⟩ | ⟨h0, z1, z2, z3, z4⟩ | ⟨h0, b1, b2, z3, z4⟩ | ⟨h0, b1, b2, b3, z4⟩
  · have e1 : wrap64 (o.f1 + o.f3) = o.f1 + o.f3 := wrap_id (by omega) (by omega)
    have e2 : wrap64 (o.f2 + o.f4) = o.f2 + o.f4 := wrap_id (by omega) (by omega)
    by_cases hm : hasM o wd hg = true
    · have hc := hasM_crop hm h0
      obtain ⟨K, h⟩ := spec_l6Crop_ev hv o h0 hok hm
      refine ⟨K + 1, fun n hn => ?_⟩
      obtain ⟨m, rfl⟩ : ∃ m, n = m + 1 := ⟨n - 1, by omega⟩
      have := h m (by omega)
      dsimp only at this ⊢
      unfold spec_l6Do.f
      rw [if_pos h0, e1, e2, if_neg (by omega), if_pos hm]
      simp only [spec_l6Do.j0]
      rw [if_neg (by simp; omega), this]
      rfl
    · rw [if_neg hm]
      have hm' : ¬ (o.f1 + o.f3 ≤ wd ∧ o.f2 + o.f4 ≤ hg) := by
        intro hc
        apply hm
        unfold hasM
        rw [if_pos h0]
        simp [hc]
      refine ev_succ ⟨0, fun k _ => ?_⟩
      unfold spec_l6Do.f
      dsimp only
      rw [if_pos h0, e1, e2]
      by_cases hx : o.f1 + o.f3 > (wd : Int)
      · rw [if_pos hx]
        simp only [spec_l6Do.j0, if_true]
      · rw [if_neg hx]
        simp only [spec_l6Do.j0]
        rw [if_pos (by simp; omega)]
  · have hm : hasM o wd hg = true := by unfold hasM; rw [if_neg (by omega)]
    obtain ⟨a0, a1, a2, a3, a4⟩ := o
    dsimp only at h0 z1 z2 z3 z4 ⊢
    subst z1 z2 z3 z4
    rw [if_pos hm]
    have : a0 = 2 ∨ a0 = 3 ∨ a0 = 4 ∨ a0 = 5 ∨ a0 = 6 := by omega
    rcases this with rfl | rfl | rfl | rfl | rfl
    · obtain ⟨K, h⟩ := spec_l6FlipX_ev hv
      exact ⟨K, fun n hn => by have := h n hn; dsimp only at this ⊢; unfold spec_l6Do.f; rw [if_neg (by decide), if_pos rfl, this]; rfl⟩
    · obtain ⟨K, h⟩ := spec_l5Flip_ev hv
      exact ⟨K, fun n hn => by have := h n hn; dsimp only at this ⊢; unfold spec_l6Do.f; rw [if_neg (by decide), if_neg (by decide), if_pos rfl, this]; rfl⟩
    · obtain ⟨K, h⟩ := spec_l6Turn_ev hv
      exact ⟨K, fun n hn => by have := h n hn; dsimp only at this ⊢; unfold spec_l6Do.f; rw [if_neg (by decide), if_neg (by decide), if_neg (by decide), if_pos rfl, this]; rfl⟩
    · obtain ⟨K, h⟩ := spec_gray_ev hv 0 0 0 0
      exact ⟨K, fun n hn => by have := h n hn; dsimp only at this ⊢; unfold spec_l6Do.f; rw [if_neg (by decide), if_neg (by decide), if_neg (by decide), if_neg (by decide), if_neg (by decide), this]; rfl⟩
    · obtain ⟨K, h⟩ := spec_blur_ev hv 0 0 0 0
      exact ⟨K, fun n hn => by have := h n hn; dsimp only at this ⊢; unfold spec_l6Do.f; rw [if_neg (by decide), if_neg (by decide), if_neg (by decide), if_neg (by decide), if_neg (by decide), this]; rfl⟩
  · have hm : hasM o wd hg = true := by unfold hasM; rw [if_neg (by omega)]
    obtain ⟨a0, a1, a2, a3, a4⟩ := o
    dsimp only at h0 b1 b2 z3 z4 ⊢
    obtain ⟨A, rfl⟩ : ∃ n : Nat, a1 = n := ⟨a1.toNat, by omega⟩
    obtain ⟨B, rfl⟩ : ∃ n : Nat, a2 = n := ⟨a2.toNat, by omega⟩
    subst h0 z3 z4
    rw [if_pos hm]
    obtain ⟨K, h⟩ := spec_l6Size_ev hv (a := A) (b := B) (by omega) (by omega)
    exact ⟨K, fun n hn => by have := h n hn; dsimp only at this ⊢; unfold spec_l6Do.f; rw [if_neg (by decide), if_neg (by decide), if_neg (by decide), if_neg (by decide), if_pos rfl, this]; rfl⟩
  · have hm : hasM o wd hg = true := by unfold hasM; rw [if_neg (by omega)]
    obtain ⟨a0, a1, a2, a3, a4⟩ := o
    dsimp only at h0 b1 b2 b3 z4 ⊢
    subst h0 z4
    rw [if_pos hm]
    obtain ⟨K, h⟩ := spec_flat_ev hv a1 a2 a3 0
    exact ⟨K, fun n hn => by have := h n hn; dsimp only at this ⊢; unfold spec_l6Do.f; rw [if_neg (by decide), if_neg (by decide), if_neg (by decide), if_neg (by decide), if_neg (by decide), this]; rfl⟩
theorem spec_OpDo_ev (a b : Int) (l : List Pix) (o : Op) : Ev (fun k => spec_OpDo.f k a b l o.f0 o.f1 o.f2 o.f3 o.f4) (doI a b l o) := by
  obtain ⟨K1, h1⟩ := spec_RasOk_ev a b l
  have h2 := spec_OpOk_some o.f0 o.f1 o.f2 o.f3 o.f4
  cases hr : rasOkB a b l with
  | false =>
    refine ⟨K1, fun n hn => ?_⟩
    have := h1 n hn
    dsimp only at this ⊢
    unfold spec_OpDo.f doI
    rw [this, hr]
    rfl
  | true =>
    cases ho : okB o with
    | false =>
      refine ⟨K1, fun n hn => ?_⟩
      have := h1 n hn
      dsimp only at this ⊢
      unfold spec_OpDo.f doI
      rw [this, hr, h2, show opOkB o.f0 o.f1 o.f2 o.f3 o.f4 = false from ho, ho]
      rfl
    | true =>
      obtain ⟨wd, hg, rfl, rfl, hv⟩ := (rasOkB_iff a b l).1 hr
      obtain ⟨K2, h3⟩ := spec_l6Do_ev hv ((okB_iff o).1 ho)
      refine ⟨K1 + K2, fun n hn => ?_⟩
      have e1 := h1 n (by omega)
      have e3 := h3 n (by omega)
      dsimp only at e1 e3 ⊢
      unfold spec_OpDo.f doI
      rw [e1, hr, h2, show opOkB o.f0 o.f1 o.f2 o.f3 o.f4 = true from ho, ho, Int.toNat_natCast, Int.toNat_natCast]
      simp only [Option.bind_some, if_true, e3, Bool.true_and]
theorem doI_len (a b : Int) (l : List Pix) (o : Op) : (doI a b l o).2.2.1.length ≤ 1048576 := by
  unfold doI
  split
  · rename_i h
    simp only [Bool.and_eq_true] at h
    obtain ⟨wd, hg, rfl, rfl, hv⟩ := (rasOkB_iff a b l).1 h.1
    have hd := dims_ok ((okB_iff o).1 h.2.1) hv.1 hv.2.1
    show (picM o _ _ l).length ≤ _
    rw [Int.toNat_natCast, Int.toNat_natCast, picM_length]
    have : wideM o wd hg * highM o wd hg ≤ 6 * 6 := Nat.mul_le_mul hd.1.2 hd.2.2
    omega
  · simp
end Go.Proofs.Ytoifpgkfpdeglaa.X

namespace Go.Proofs.Ytoifpgkfpdeglaa.X
open Go.RowKit Go.Proofs.YtoifpgkfpdeglaaW.PrintWords Go.Proofs.Ytoifpgkfpdeglaa.Pl
set_option linter.unusedSimpArgs false
set_option linter.unusedVariables false

def mark4 (m : Int) (i : Nat) : Pix := ⟨m + 4 * i, m + 4 * i + 1, m + 4 * i + 2, m + 4 * i + 3⟩
def marks (m : Int) (n : Nat) : List Pix := (List.range n).map (mark4 m)
theorem marks_length (m : Int) (n : Nat) : (marks m n).length = n := by simp [marks]
theorem marks_getD {m : Int} {n i : Nat} (h : i < n) (z : Pix) : (marks m n).getD i z = mark4 m i := by
  unfold marks
  rw [List.getD_eq_getElem?_getD, List.getElem?_map, List.getElem?_range h]
  rfl
theorem rd_set {l : List Pix} {i : Nat} (h : i < l.length) (p : Pix) : rd_T36 (l.set i p) (i : Int) = p := by
  unfold rd_T36
  rw [List.getD_eq_getElem?_getD, Int.toNat_natCast, List.getElem?_set_self h]
  rfl
theorem markPixPixS_ev (l : List Pix) (m : Int) (hm : 0 ≤ m ∧ m ≤ 1000) (hl : l.length ≤ 1048576) : Ev (fun k => laws_markPixPixS.f k l m) (m + 4 * l.length, marks m l.length) := by
  obtain ⟨r, h, rfl⟩ := ev_up (α := Int × List Pix) l.length (fun k i (s : List Pix × Int) => laws_markPixPixS.l0 k s.1 s.2 i) (fun i s => s.1.length = l.length ∧ s.1.take i = (marks m l.length).take i ∧ s.2 = m + 4 * i) (fun r => r = (m + 4 * l.length, marks m l.length)) (by
    rintro i ⟨s, x⟩ hi ⟨h1, h2, h3⟩
    dsimp only at h1 h2 h3
    subst h3
    refine Or.inl ⟨(s.set i (mark4 m i), m + 4 * ((i + 1 : Nat) : Int)), ⟨by simpa using h1, ?_, rfl⟩, fun r hr => Ev.step (fun k => ?_) hr⟩
    · have := set_take_next (marks m l.length) s z36 i (by rw [marks_length]; exact hi) (by rw [marks_length]; exact h1) h2
      rwa [marks_getD hi] at this
    · have hs : i < s.length := by omega
      have w1 : wrap64 (m + 4 * (i : Int) + 1) = m + 4 * i + 1 := wrap_id (by omega) (by omega)
      have w2 : wrap64 (m + 4 * (i : Int) + 1 + 1) = m + 4 * i + 2 := by rw [wrap_id (by omega) (by omega)]; omega
      have w3 : wrap64 (m + 4 * (i : Int) + 2 + 1) = m + 4 * i + 3 := by rw [wrap_id (by omega) (by omega)]; omega
      have w4 : wrap64 (m + 4 * (i : Int) + 3 + 1) = m + 4 * ((i + 1 : Nat) : Int) := by rw [wrap_id (by omega) (by omega)]; omega
      dsimp only
      rw [laws_markPixPixS.l0, if_pos (by omega), if_pos (by omega)]
      simp only [Option.bind_some, Int.toNat_natCast, w1, w2, w3, w4, rd_set hs, List.set_set, wrap_succ (show i < 9223372036854775807 by omega)]
      rfl) (by
    rintro ⟨s, x⟩ ⟨h1, h2, h3⟩
    dsimp only at h1 h2 h3
    subst h3
    rw [List.take_of_length_le (by omega), List.take_of_length_le (by rw [marks_length]; omega)] at h2
    refine ⟨_, ev_succ ⟨0, fun k _ => ?_⟩, rfl⟩
    dsimp only
    rw [laws_markPixPixS.l0, if_neg (by omega), h2]) 0 (l, m) (by omega) ⟨rfl, by simp, by simp⟩
  exact h
theorem heldPixPixS_ev (n : Nat) (m : Int) (hm : 0 ≤ m ∧ m ≤ 1000) (hl : n ≤ 1048576) : Ev (fun k => laws_heldPixPixS.f k (marks m n) m) (m + 4 * n) := by
  obtain ⟨r, h, rfl⟩ := ev_up (α := Int) n (fun k i (x : Int) => laws_heldPixPixS.l0 k (marks m n) x i) (fun i x => x = m + 4 * i) (fun r => r = m + 4 * n) (by
    rintro i x hi rfl
    refine Or.inl ⟨m + 4 * ((i + 1 : Nat) : Int), rfl, fun r hr => Ev.step (fun k => ?_) hr⟩
    have w1 : wrap64 (m + 4 * (i : Int) + 1) = m + 4 * i + 1 := wrap_id (by omega) (by omega)
    have w2 : wrap64 (m + 4 * (i : Int) + 1 + 1) = m + 4 * i + 2 := by rw [wrap_id (by omega) (by omega)]; omega
    have w3 : wrap64 (m + 4 * (i : Int) + 2 + 1) = m + 4 * i + 3 := by rw [wrap_id (by omega) (by omega)]; omega
    have w4 : wrap64 (m + 4 * (i : Int) + 3 + 1) = m + 4 * ((i + 1 : Nat) : Int) := by rw [wrap_id (by omega) (by omega)]; omega
    have e : rd_T36 (marks m n) (i : Int) = mark4 m i := marks_getD hi _
    have hlen := marks_length m n
    rw [laws_heldPixPixS.l0, if_pos (by omega), if_pos (by omega)]
    simp only [e, mark4, w1, w2, w3, w4, if_true]
    rw [wrap_succ (by omega)]) (by
    rintro x rfl
    have hlen := marks_length m n
    refine ⟨_, ev_succ ⟨0, fun k _ => ?_⟩, rfl⟩
    dsimp only
    rw [laws_heldPixPixS.l0, if_neg (by omega)]) 0 m (by omega) (by simp)
  exact h
theorem markRas_ev (a b : Int) (l : List Pix) (m : Int) (hm : 0 ≤ m ∧ m ≤ 1000) (hl : l.length ≤ 1048576) : Ev (fun k => laws_markRasRaster.f k a b l m) (m + 4 * l.length, marks m l.length) := by
  obtain ⟨K, h⟩ := markPixPixS_ev l m hm hl
  refine ⟨K, fun n hn => ?_⟩
  have := h n hn
  dsimp only at this ⊢
  unfold laws_markRasRaster.f
  rw [this]
  rfl
theorem heldRas_ev (a b : Int) (n : Nat) (m : Int) (hm : 0 ≤ m ∧ m ≤ 1000) (hl : n ≤ 1048576) : Ev (fun k => laws_heldRasRaster.f k a b (marks m n) m) (m + 4 * n) := by
  obtain ⟨K, h⟩ := heldPixPixS_ev n m hm hl
  refine ⟨K, fun n' hn => ?_⟩
  have := h n' hn
  dsimp only at this ⊢
  unfold laws_heldRasRaster.f
  rw [this]
  simp only [Option.bind_some]
  rw [if_neg (by omega)]
end Go.Proofs.Ytoifpgkfpdeglaa.X

namespace Go.Proofs.Ytoifpgkfpdeglaa.X
open Go.RowKit Go.Proofs.YtoifpgkfpdeglaaW.PrintWords Go.Proofs.Ytoifpgkfpdeglaa.Pl
set_option linter.unusedSimpArgs false
set_option linter.unusedVariables false
end Go.Proofs.Ytoifpgkfpdeglaa.X

namespace Go.Proofs.Ytoifpgkfpdeglaa.X
open Go.RowKit Go.Proofs.YtoifpgkfpdeglaaW.PrintWords Go.Proofs.Ytoifpgkfpdeglaa.Pl
set_option linter.unusedSimpArgs false
set_option linter.unusedVariables false
def sm94 (x : S94) : Prop := True
def sm36 (x : S36) : Prop := True
def cPixPix (x : S94) : S36 := ⟨x.f0, x.f1, x.f2, x.f3⟩
theorem sm_cPixPix {x : S94} (h : sm94 x) : sm36 (cPixPix x) := by
  unfold sm94 at h; unfold sm36; exact h
theorem toPixPix_ev (v0 : Int) (v1 : Int) (v2 : Int) (v3 : Int) : Ev (fun k => laws_toPixPix.f v0 v1 v2 v3) (v0, v1, v2, v3) := by
  refine ⟨0, fun k hk => ?_⟩
  rfl
theorem eqPixPix_ev (v0 : Int) (v1 : Int) (v2 : Int) (v3 : Int) : Ev (fun k => laws_eqPixPix.f v0 v1 v2 v3 v0 v1 v2 v3) true := by
  refine ⟨0, fun k hk => ?_⟩
  simp [laws_eqPixPix.f]
theorem toPixPixS_ev (l : List S94) (hl : l.length ≤ 1048576 ∧ ∀ y ∈ l, sm94 y) : Ev (fun k => laws_toPixPixS.f k l) (l.map cPixPix) := by
  have hle := hl.1
  have := ev_map cPixPix z94 z36 l (fun k i s => laws_toPixPixS.l0 k l s i) hle ?_ ?_
  · refine Ev.congr (fun k => ?_) this
    show laws_toPixPixS.f k l = _
    unfold laws_toPixPixS.f
    rw [if_pos (by omega), if_pos (by omega)]
    rfl
  · intro i s hi hs r h
    have hx : sm94 (rd_T94 l (i : Int)) := hl.2 _ (getD_mem l z94 i hi)
    obtain ⟨K0, h0⟩ := toPixPix_ev ((rd_T94 l (i : Int)).f0) ((rd_T94 l (i : Int)).f1) ((rd_T94 l (i : Int)).f2) ((rd_T94 l (i : Int)).f3) 
    obtain ⟨K, h⟩ := h
    refine ⟨K + K0 + 1, fun k hk => ?_⟩
    obtain ⟨k, rfl⟩ : ∃ m, k = m + 1 := ⟨k - 1, by omega⟩
    have e0 := h0 k (by omega)
    have e1 := h k (by omega)
    dsimp only at e0 e1
    simp only [laws_toPixPixS.l0]
    rw [if_pos (by omega), if_pos (by omega), e0]
    simp only [Option.bind_some]
    rw [if_pos (by omega), wrap_succ (by omega)]
    exact e1
  · intro k s hs
    simp only [laws_toPixPixS.l0]
    rw [if_neg (by omega)]
theorem eqPixPixS_ev (l : List S36) (hl : l.length ≤ 1048576 ∧ ∀ y ∈ l, sm36 y) : Ev (fun k => laws_eqPixPixS.f k l l) true := by
  have hle := hl.1
  have := ev_all l.length (fun k i => laws_eqPixPixS.l0 k l l i) ?_ ?_
  · refine Ev.congr (fun k => ?_) this
    show laws_eqPixPixS.f k l l = _
    unfold laws_eqPixPixS.f
    rw [if_pos rfl]
  · intro i hi h
    have hx : sm36 (rd_T36 l (i : Int)) := hl.2 _ (getD_mem l z36 i hi)
    obtain ⟨K0, h0⟩ := eqPixPix_ev ((rd_T36 l (i : Int)).f0) ((rd_T36 l (i : Int)).f1) ((rd_T36 l (i : Int)).f2) ((rd_T36 l (i : Int)).f3) 
    obtain ⟨K, h⟩ := h
    refine ⟨K + K0 + 1, fun k hk => ?_⟩
    obtain ⟨k, rfl⟩ : ∃ m, k = m + 1 := ⟨k - 1, by omega⟩
    have e0 := h0 k (by omega)
    have e1 := h k (by omega)
    dsimp only at e0 e1
    simp only [laws_eqPixPixS.l0]
    rw [if_pos (by omega), if_pos (by omega), if_pos (by omega), e0]
    simp only [Option.bind_some, if_true]
    rw [wrap_succ (by omega)]
    exact e1
  · intro k
    simp only [laws_eqPixPixS.l0]
    rw [if_neg (by omega)]
theorem szPixPixS_ev (l : List S94) (left : Int) (h0 : 0 ≤ left) (h1 : left ≤ 1048576) (g : l.length ≤ maxLen ∧ ∀ y ∈ l, g94 y) : ∃ r, Ev (fun k => laws_szPixPixS.f l left) r ∧ r ≤ 1048576 ∧ (0 ≤ r → l.length ≤ 1048576 ∧ ∀ y ∈ l, sm94 y) := by
  have hm : maxLen = 9223372036854775807 := rfl
  have hlm : l.length ≤ maxLen := g.1
  have w : wrap64 (left - (l.length : Int)) = left - (l.length : Int) := wrap_id (by omega) (by omega)
  by_cases n : left - (l.length : Int) < 0
  · exact ⟨-1, ⟨0, fun k hk => by simp [laws_szPixPixS.f, w, n]⟩, by omega, fun h => absurd h (by omega)⟩
  exact ⟨left - (l.length : Int), ⟨0, fun k hk => by simp [laws_szPixPixS.f, w, n]⟩, by omega, fun _ => ⟨by omega, fun y _ => trivial⟩⟩
end Go.Proofs.Ytoifpgkfpdeglaa.X

namespace Go.Proofs.Ytoifpgkfpdeglaa.X
open Go.RowKit Go.Proofs.YtoifpgkfpdeglaaW.PrintWords Go.Proofs.Ytoifpgkfpdeglaa.Pl
set_option linter.unusedSimpArgs false
set_option linter.unusedVariables false
theorem toRasRaster_ev (v0 : Int) (v1 : Int) (v2 : List S94) (s2 : (v2.length ≤ 1048576 ∧ ∀ y ∈ v2, sm94 y)) : Ev (fun k => laws_toRasRaster.f k v0 v1 v2) (v0, v1, (v2.map cPixPix)) := by
  obtain ⟨K0, h0⟩ := toPixPixS_ev v2 s2
  refine ⟨K0, fun k hk => ?_⟩
  simp only [laws_toRasRaster.f, h0 k (by omega), Option.bind_some]
theorem eqRasRaster_ev (v0 : Int) (v1 : Int) (v2 : List S36) (s2 : (v2.length ≤ 1048576 ∧ ∀ y ∈ v2, sm36 y)) : Ev (fun k => laws_eqRasRaster.f k v0 v1 v2 v0 v1 v2) true := by
  obtain ⟨K0, h0⟩ := eqPixPixS_ev v2 s2
  refine ⟨K0, fun k hk => ?_⟩
  simp [laws_eqRasRaster.f, h0 k (by omega)]
theorem szRasRaster_ev (v0 : Int) (v1 : Int) (v2 : List S94) (left : Int) (h0 : 0 ≤ left) (h1 : left ≤ 1048576) (g2 : v2.length ≤ maxLen ∧ ∀ y ∈ v2, g94 y) : ∃ r, Ev (fun k => laws_szRasRaster.f v0 v1 v2 left) r ∧ r ≤ 1048576 ∧ (0 ≤ r → (v2.length ≤ 1048576 ∧ ∀ y ∈ v2, sm94 y)) := by
  have hm : maxLen = 9223372036854775807 := rfl
  obtain ⟨c0, ⟨K0, e0⟩, u0, q0⟩ := szPixPixS_ev v2 left (by omega) (by omega) g2
  by_cases n0 : c0 < 0
  · exact ⟨-1, ⟨K0, fun k hk => by simp [laws_szRasRaster.f, e0 k (by omega), n0]⟩, by omega, fun h => absurd h (by omega)⟩
  exact ⟨c0, ⟨K0, fun k hk => by simp [laws_szRasRaster.f, e0 k (by omega), n0]⟩, by omega, fun _ => q0 (by omega)⟩
end Go.Proofs.Ytoifpgkfpdeglaa.X

namespace Go.Proofs.Ytoifpgkfpdeglaa.Pure
open Go.RowKit Go.Proofs.YtoifpgkfpdeglaaW.PrintWords Go.Proofs.Ytoifpgkfpdeglaa.Pl Go.Proofs.Ytoifpgkfpdeglaa.X
set_option linter.unusedSimpArgs false

theorem FnExactOpDo : laws_FnExactOpDo.Pure := by
  intro a b l0 o0 o1 o2 o3 o4 _ _ hl hg _ _ _ _ _
  obtain ⟨r, ⟨K0, e0⟩, _, hr⟩ := szRasRaster_ev a b l0 1048576 (by omega) (by omega) ⟨hl, hg⟩
  by_cases hn : r < 0
  · refine ⟨K0, ?_⟩
    have := e0 K0 (by omega)
    dsimp only at this
    unfold laws_FnExactOpDo.f
    rw [this]
    simp [hn]
  · have hsm := hr (by omega)
    have hsi : (l0.map cPixPix).length ≤ 1048576 ∧ ∀ y ∈ l0.map cPixPix, sm36 y := ⟨by rw [List.length_map]; exact hsm.1, fun y hy => by obtain ⟨z, hz, rfl⟩ := List.mem_map.1 hy; exact sm_cPixPix (hsm.2 z hz)⟩
    obtain ⟨l, hle⟩ : ∃ l, l = l0.map cPixPix := ⟨_, rfl⟩
    have hll : l.length ≤ 1048576 := by rw [hle]; exact hsi.1
    obtain ⟨D, hD⟩ : ∃ D, D = doI a b l ⟨o0, o1, o2, o3, o4⟩ := ⟨_, rfl⟩
    have hDl : D.2.2.1.length ≤ 1048576 := by rw [hD]; exact doI_len a b l ⟨o0, o1, o2, o3, o4⟩
    have hsD : D.2.2.1.length ≤ 1048576 ∧ ∀ y ∈ D.2.2.1, sm36 y := ⟨hDl, fun y _ => trivial⟩
    obtain ⟨K1, e1⟩ := toRasRaster_ev a b l0 hsm
    obtain ⟨K2, e2⟩ := spec_OpDo_ev a b l ⟨o0, o1, o2, o3, o4⟩
    obtain ⟨K3, e3⟩ := eqRasRaster_ev D.1 D.2.1 D.2.2.1 hsD
    obtain ⟨K4, e4⟩ := eqRasRaster_ev a b l ⟨hll, fun y _ => trivial⟩
    obtain ⟨K5, e5⟩ := markRas_ev a b l 1 (by omega) hll
    obtain ⟨K6, e6⟩ := markRas_ev D.1 D.2.1 D.2.2.1 1 (by omega) hDl
    obtain ⟨K7, e7⟩ := heldRas_ev D.1 D.2.1 D.2.2.1.length 1 (by omega) hDl
    rw [← hle] at e1
    rw [← hD] at e2
    obtain ⟨K, hK⟩ : ∃ K, K = K0 + K1 + K2 + K3 + K4 + K5 + K6 + K7 := ⟨_, rfl⟩
    have f0 := fun n (h : K ≤ n) => e0 n (by omega)
    have f1 := fun n (h : K ≤ n) => e1 n (by omega)
    have f2 := fun n (h : K ≤ n) => e2 n (by omega)
    have f3 := fun n (h : K ≤ n) => e3 n (by omega)
    have f4 := fun n (h : K ≤ n) => e4 n (by omega)
    have f5 := fun n (h : K ≤ n) => e5 n (by omega)
    have f6 := fun n (h : K ≤ n) => e6 n (by omega)
    have f7 := fun n (h : K ≤ n) => e7 n (by omega)
    dsimp only at f0 f1 f2 f3 f4 f5 f6 f7
    clear e0 e1 e2 e3 e4 e5 e6 e7
    have hi : impl_OpDo.f a b l o0 o1 o2 o3 o4 = some D := by rw [hD]; rfl
    have ht : laws_toOpOp.f o0 o1 o2 o3 o4 = some (o0, o1, o2, o3, o4) := rfl
    have n1 : ¬ (1 + 4 * (l.length : Int) < 0) := by omega
    have n2 : ¬ (1 + 4 * (D.2.2.1.length : Int) < 0) := by omega
    refine ⟨K + 3, ?_⟩
    unfold laws_FnExactOpDo.f
    rw [f0 (K + 3) (by omega)]
    simp only [Option.bind_some, if_neg hn, f1 (K + 3) (by omega), ht, f2 (K + 3) (by omega), hi, f3 (K + 3) (by omega), if_true]
    rw [laws_FnExactOpDo.j0]
    simp only [bne_self_eq_false, Bool.false_eq_true, if_false, Option.bind_some, f1 (K + 2) (by omega), f4 (K + 2) (by omega), if_true, f5 (K + 2) (by omega), if_neg n1, f3 (K + 2) (by omega)]
    rw [laws_FnExactOpDo.j1]
    simp only [bne_self_eq_false, Bool.false_eq_true, if_false, Option.bind_some, f6 (K + 1) (by omega), f7 (K + 1) (by omega), if_neg n2, if_true, f1 (K + 1) (by omega), ht, hi, f3 (K + 1) (by omega)]
    rw [laws_FnExactOpDo.j2]
    simp only [bne_self_eq_false, Bool.false_eq_true, if_false, Option.bind_some, f7 K (by omega), if_neg n2, if_true]
end Go.Proofs.Ytoifpgkfpdeglaa.Pure
