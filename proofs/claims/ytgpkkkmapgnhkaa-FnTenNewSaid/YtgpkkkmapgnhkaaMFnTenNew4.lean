/- Lemmas and contracts for the law FnTenNew, part 4: of the program's functions, and over data alone. No condition. -/
import Derived.Test.YtgpkkkmapgnhkaaMFnTenNew2
import Derived.Test.YtgpkkkmapgnhkaaMFnTenNew3
namespace Go.Proofs.Ytgpkkkmapgnhkaa.X
open Go.RowKit Go.Proofs.YtgpkkkmapgnhkaaW.PrintWords Go.Proofs.YtgpkkkmapgnhkaaW.PrintLast Go.Proofs.YtgpkkkmapgnhkaaW.PrintMore
attribute [local go_sem] max2_int min2_int max_two min_two max_three min_three max_four min_four
set_option linter.unusedVariables false
set_option linter.unusedSimpArgs false

/-! ### laws_eaTexts: function 85 -/
def laws_eaTexts.l0 : Nat → List ByteArray → List ByteArray → Int → Option (Bool)
 | 0, _, _, _ => none
 | k + 1, x0, x1, x5 => if x5 < (x0.length : Int) then (if 0 ≤ x5 then (if x5 < (x1.length : Int) then (if (rdOf ByteArray.empty x0 x5).toList = (rdOf ByteArray.empty x1 x5).toList then (laws_eaTexts.l0 k x0 x1 (wrap64 (x5 + 1))) else (some false)) else (none)) else (none)) else (some true)
def laws_eaTexts.f (k : Nat) (l0 : List ByteArray) (l1 : List ByteArray) : Option (Bool) := if (l0.length : Int) = (l1.length : Int) then (laws_eaTexts.l0 k l0 l1 0) else (some false)
set_option maxHeartbeats 8000000 in
set_option maxRecDepth 100000 in
theorem laws_eaTexts.calls (k : Nat) (A0 : Option Addr) (c0 : Nat) (l0 : List ByteArray) (A1 : Option Addr) (c1 : Nat) (l1 : List ByteArray) (r : Bool) (w : World) (hr0 : Kd.C Kd.string w A0 l0.length l0) (hc0 : l0.length ≤ c0) (hr1 : Kd.C Kd.string w A1 l1.length l1) (hc1 : l1.length ≤ c1) (h : laws_eaTexts.f k l0 l1 = some r) :
  Calls Try.prog 85 #[.slice A0 l0.length c0, .slice A1 l1.length c1] w fun e w' => e = .returned (.bool r) ∧ Drawn0 w w' := by
 have HR0 := Aside0.mk hr0; have HC0 := Aside0.mk hc0; clear hr0 hc0; have HR1 := Aside0.mk hr1; have HC1 := Aside0.mk hc1; clear hr1 hc1; have H : (if (l0.length : Int) = (l1.length : Int) then (laws_eaTexts.l0 k l0 l1 0) else (some false)) = some r := h; clear h
 by_cases c3 : (l0.length : Int) = (l1.length : Int)
 ·
  rw [if_pos c3] at H
  have a7 : ((l0.length : Int) == (l1.length : Int)) = true := beq_iff_eq.mpr c3; have a8 : ((l0.length : Int) != (l1.length : Int)) = false := bne_eq_false_iff_eq.mpr c3
  have a9 : (l0.length == l1.length) = true := by first | simpa using c3 | (simp at c3 ⊢; omega)
  clear c3; have H' := Aside0.mk H; clear H
  go_enter Try.func85, Try.ntmps85
  go_wp2
  repeat (go_quiet (fail); try go_wp2)
  (try simp only [Act.put, List.setIfInBounds_toArray, List.set_cons_zero, List.set_cons_succ])
  go_loopg [5] k (fun kq v5 w' => ∃ (a2 : Int), v5 = .int .i64 a2 ∧ Aside0 (laws_eaTexts.l0 kq l0 l1 a2 = some r) ∧ Aside0 (kq ≤ k) ∧ Drawn0 w w')
  case atStart => exact ⟨(0), (by first | rfl | (simp; done) | (simp [*]; done)), H', ⟨Nat.le_refl _⟩, by repeat (first | exact Drawn0.refl _ | apply Drawn0.step)⟩
  case round =>
   clear H'; (try clear c1); (try clear p2); (try clear c3); (try clear a7); (try clear a8); (try clear a9); obtain ⟨a2, rfl, HA, HK1, ⟨m1, rfl⟩⟩ := hrel
   cases gk with
   | zero => exact absurd HA.out (by simp [laws_eaTexts.l0])
   | succ k1 =>
    have H := HA.out; clear HA
    simp only [laws_eaTexts.l0] at H
    by_cases c4 : a2 < (l0.length : Int)
    ·
     rw [if_pos c4] at H
     have b0 : decide (a2 < (l0.length : Int)) = true := decide_eq_true c4; clear c4
     by_cases c5 : 0 ≤ a2
     ·
      rw [if_pos c5] at H
      have b3 : decide (0 ≤ a2) = true := decide_eq_true c5; clear c5
      by_cases c6 : a2 < (l1.length : Int)
      ·
       rw [if_pos c6] at H
       have b4 : decide (a2 < (l1.length : Int)) = true := decide_eq_true c6; clear c6
       by_cases c7 : (rdOf ByteArray.empty l0 a2).toList = (rdOf ByteArray.empty l1 a2).toList
       ·
        rw [if_pos c7] at H
        have b1 : ((rdOf ByteArray.empty l0 a2).toList == (rdOf ByteArray.empty l1 a2).toList) = true := beq_iff_eq.mpr c7; have b2 : ((rdOf ByteArray.empty l0 a2).toList != (rdOf ByteArray.empty l1 a2).toList) = false := bne_eq_false_iff_eq.mpr c7; clear c7; have H' := Aside0.mk H; clear H
        have p101 : 0 ≤ (a2 : Int) := of_decide_eq_true (by first | (with_reducible assumption) | assumption)
        have q101 : a2 < (l0.length : Int) := of_decide_eq_true (by first | (with_reducible assumption) | assumption)
        obtain ⟨ad101, a5, a3⟩ := Kd.at_string HR0.out a2 p101 q101
        cases a5
        replace p101 := eq_true p101; replace q101 := eq_true q101
        have p102 : 0 ≤ (a2 : Int) := of_decide_eq_true (by first | (with_reducible assumption) | assumption)
        have q102 : a2 < (l1.length : Int) := of_decide_eq_true (by first | (with_reducible assumption) | assumption)
        obtain ⟨ad102, a6, a4⟩ := Kd.at_string HR1.out a2 p102 q102
        cases a6
        replace p102 := eq_true p102; replace q102 := eq_true q102
        go_wp2
        repeat (go_quiet (fail); try go_wp2)
        go_roundg k1
        case measure => have := HK1.out; omega
        case rel => exact ⟨(wrap64 (a2 + 1)), (by first | rfl | (simp; done) | (simp [*]; done)), H', ⟨by have := HK1.out; omega⟩, by repeat (first | exact Drawn0.refl _ | apply Drawn0.step)⟩
       ·
        rw [if_neg c7] at H
        have b1 : ((rdOf ByteArray.empty l0 a2).toList == (rdOf ByteArray.empty l1 a2).toList) = false := beq_eq_false_iff_ne.mpr c7; have b2 : ((rdOf ByteArray.empty l0 a2).toList != (rdOf ByteArray.empty l1 a2).toList) = true := bne_iff_ne.mpr c7; obtain rfl := Option.some.inj H
        have p101 : 0 ≤ (a2 : Int) := of_decide_eq_true (by first | (with_reducible assumption) | assumption)
        have q101 : a2 < (l0.length : Int) := of_decide_eq_true (by first | (with_reducible assumption) | assumption)
        obtain ⟨ad101, a5, a3⟩ := Kd.at_string HR0.out a2 p101 q101
        cases a5
        replace p101 := eq_true p101; replace q101 := eq_true q101
        have p102 : 0 ≤ (a2 : Int) := of_decide_eq_true (by first | (with_reducible assumption) | assumption)
        have q102 : a2 < (l1.length : Int) := of_decide_eq_true (by first | (with_reducible assumption) | assumption)
        obtain ⟨ad102, a6, a4⟩ := Kd.at_string HR1.out a2 p102 q102
        cases a6
        replace p102 := eq_true p102; replace q102 := eq_true q102
        go_wp2
        repeat (go_quiet (fail); try go_wp2)
        go_ret
        exact ⟨by first | rfl | (simp; done) | (simp [*]; done), by repeat (first | exact Drawn0.refl _ | apply Drawn0.step)⟩
      ·
       rw [if_neg c6] at H
       exact absurd H (by simp)
     ·
      rw [if_neg c5] at H
      exact absurd H (by simp)
    ·
     rw [if_neg c4] at H
     have b0 : decide (a2 < (l0.length : Int)) = false := decide_eq_false c4; clear c4; obtain rfl := Option.some.inj H
     go_wp2
     repeat (go_quiet (fail); try go_wp2)
     go_ret
     exact ⟨by first | rfl | (simp; done) | (simp [*]; done), by repeat (first | exact Drawn0.refl _ | apply Drawn0.step)⟩
 ·
  rw [if_neg c3] at H
  have a7 : ((l0.length : Int) == (l1.length : Int)) = false := beq_eq_false_iff_ne.mpr c3; have a8 : ((l0.length : Int) != (l1.length : Int)) = true := bne_iff_ne.mpr c3
  have a9 : (l0.length == l1.length) = false := by first | simpa using c3 | (simp at c3 ⊢; omega)
  obtain rfl := Option.some.inj H
  go_enter Try.func85, Try.ntmps85
  go_wp2
  repeat (go_quiet (fail); try go_wp2)
  go_ret
  exact ⟨by first | rfl | (simp; done) | (simp [*]; done), by repeat (first | exact Drawn0.refl _ | apply Drawn0.step)⟩

end Go.Proofs.Ytgpkkkmapgnhkaa.X

namespace Go.Proofs.Ytgpkkkmapgnhkaa.X
open Go.RowKit Go.Proofs.YtgpkkkmapgnhkaaW.PrintWords Go.Proofs.YtgpkkkmapgnhkaaW.PrintLast Go.Proofs.YtgpkkkmapgnhkaaW.PrintMore
attribute [local go_sem] max2_int min2_int max_two min_two max_three min_three max_four min_four
set_option linter.unusedVariables false
set_option linter.unusedSimpArgs false

open Go.Proofs.Ytgpkkkmapgnhkaa.X renaming rd_T158 → yaa
open Go.Proofs.YtgpkkkmapgnhkaaW.PrintWords.Aside0 renaming mk → yab
open Go.Proofs.YtgpkkkmapgnhkaaW.PrintLast renaming any_of → yac

/-! ### laws_eaOuts: function 86 -/
abbrev q86_0 : Array Bool := #[false, false, false, false, false, false, false, false, false, false, false, false, false, false, false, false, false, false, false, false, false, false, false, false, false, false, false, false, false, false, false, false, false, false, false, false, false, false]
abbrev q86_1 : Array Bool := #[true, false, false, false, false, false, false, false, false, false, false, false, false, false, false, false, false, false, false, false, false, false, false, false, false, false, false, false, false, false, false, false, false, false, false, false, false, false]
abbrev q86_2 : Array Bool := #[true, true, false, false, false, false, false, false, false, false, false, false, false, false, false, false, false, false, false, false, false, false, false, false, false, false, false, false, false, false, false, false, false, false, false, false, false, false]
abbrev q86_3 : Array Bool := #[true, true, true, false, false, false, false, false, false, false, false, false, false, false, false, false, false, false, false, false, false, false, false, false, false, false, false, false, false, false, false, false, false, false, false, false, false, false]
abbrev q86_4 : Array Bool := #[true, true, true, true, false, false, false, false, false, false, false, false, false, false, false, false, false, false, false, false, false, false, false, false, false, false, false, false, false, false, false, false, false, false, false, false, false, false]
abbrev q86_5 : Array Bool := #[true, true, true, true, false, true, false, false, false, false, false, false, false, false, false, false, false, false, false, false, false, false, false, false, false, false, false, false, false, false, false, false, false, false, false, false, false, false]
abbrev q86_6 : Array Bool := #[true, true, true, true, false, true, true, false, false, false, false, false, false, false, false, false, false, false, false, false, false, false, false, false, false, false, false, false, false, false, false, false, false, false, false, false, false, false]
abbrev q86_7 : Array Bool := #[true, true, true, true, false, true, true, true, false, false, false, false, false, false, false, false, false, false, false, false, false, false, false, false, false, false, false, false, false, false, false, false, false, false, false, false, false, false]
abbrev q86_8 : Array Bool := #[true, true, true, true, false, true, true, true, true, false, false, false, false, false, false, false, false, false, false, false, false, false, false, false, false, false, false, false, false, false, false, false, false, false, false, false, false, false]
abbrev q86_9 : Array Bool := #[true, true, true, true, true, true, true, true, true, false, false, false, false, false, false, false, false, false, false, false, false, false, false, false, false, false, false, false, false, false, false, false, false, false, false, false, false, false]
abbrev q86_10 : Array Bool := #[true, true, true, true, true, true, true, true, true, true, false, false, false, false, false, false, false, false, false, false, false, false, false, false, false, false, false, false, false, false, false, false, false, false, false, false, false, false]
abbrev q86_11 : Array Bool := #[true, true, true, true, true, true, true, true, true, true, true, false, false, false, false, false, false, false, false, false, false, false, false, false, false, false, false, false, false, false, false, false, false, false, false, false, false, false]
abbrev q86_12 : Array Bool := #[true, true, true, true, true, true, true, true, true, true, true, true, false, false, false, false, false, false, false, false, false, false, false, false, false, false, false, false, false, false, false, false, false, false, false, false, false, false]
abbrev q86_13 : Array Bool := #[true, true, true, true, true, true, true, true, true, true, true, true, true, false, false, false, false, false, false, false, false, false, false, false, false, false, false, false, false, false, false, false, false, false, false, false, false, false]
abbrev q86_14 : Array Bool := #[true, true, true, true, true, true, true, true, true, true, true, true, true, true, false, false, false, false, false, false, false, false, false, false, false, false, false, false, false, false, false, false, false, false, false, false, false, false]
abbrev q86_15 : Array Bool := #[true, true, true, true, true, true, true, true, true, true, true, true, true, true, true, false, false, false, false, false, false, false, false, false, false, false, false, false, false, false, false, false, false, false, false, false, false, false]
abbrev q86_16 : Array Bool := #[true, true, true, true, true, true, true, true, true, true, true, true, true, true, true, true, false, false, false, false, false, false, false, false, false, false, false, false, false, false, false, false, false, false, false, false, false, false]
abbrev q86_17 : Array Bool := #[true, true, true, true, true, true, true, true, true, true, true, true, true, true, true, true, false, true, false, false, false, false, false, false, false, false, false, false, false, false, false, false, false, false, false, false, false, false]
abbrev q86_18 : Array Bool := #[true, true, true, true, true, true, true, true, true, true, true, true, true, true, true, true, false, true, true, false, false, false, false, false, false, false, false, false, false, false, false, false, false, false, false, false, false, false]
abbrev q86_19 : Array Bool := #[true, true, true, true, true, true, true, true, true, true, true, true, true, true, true, true, false, true, true, true, false, false, false, false, false, false, false, false, false, false, false, false, false, false, false, false, false, false]
abbrev q86_20 : Array Bool := #[true, true, true, true, true, true, true, true, true, true, true, true, true, true, true, true, false, true, true, true, true, false, false, false, false, false, false, false, false, false, false, false, false, false, false, false, false, false]
abbrev q86_21 : Array Bool := #[true, true, true, true, true, true, true, true, true, true, true, true, true, true, true, true, true, true, true, true, true, false, false, false, false, false, false, false, false, false, false, false, false, false, false, false, false, false]
abbrev q86_22 : Array Bool := #[true, true, true, true, true, true, true, true, true, true, true, true, true, true, true, true, true, true, true, true, true, true, false, false, false, false, false, false, false, false, false, false, false, false, false, false, false, false]
abbrev q86_23 : Array Bool := #[true, true, true, true, true, true, true, true, true, true, true, true, true, true, true, true, true, true, true, true, true, true, true, false, false, false, false, false, false, false, false, false, false, false, false, false, false, false]
abbrev q86_24 : Array Bool := #[true, true, true, true, true, true, true, true, true, true, true, true, true, true, true, true, true, true, true, true, true, true, true, true, false, false, false, false, false, false, false, false, false, false, false, false, false, false]
abbrev q86_25 : Array Bool := #[true, true, true, true, true, true, true, true, true, true, true, true, true, true, true, true, true, true, true, true, true, true, true, true, true, false, false, false, false, false, false, false, false, false, false, false, false, false]
abbrev q86_26 : Array Bool := #[true, true, true, true, true, true, true, true, true, true, true, true, true, true, true, true, true, true, true, true, true, true, true, true, true, true, false, false, false, false, false, false, false, false, false, false, false, false]
abbrev q86_27 : Array Bool := #[true, true, true, true, true, true, true, true, true, true, true, true, true, true, true, true, true, true, true, true, true, true, true, true, true, true, true, false, false, false, false, false, false, false, false, false, false, false]
abbrev q86_28 : Array Bool := #[true, true, true, true, true, true, true, true, true, true, true, true, true, true, true, true, true, true, true, true, true, true, true, true, true, true, true, true, false, false, false, false, false, false, false, false, false, false]
abbrev q86_29 : Array Bool := #[true, true, true, true, true, true, true, true, true, true, true, true, true, true, true, true, true, true, true, true, true, true, true, true, true, true, true, true, true, false, false, false, false, false, false, false, false, false]
abbrev q86_30 : Array Bool := #[true, true, true, true, true, true, true, true, true, true, true, true, true, true, true, true, true, true, true, true, true, true, true, true, true, true, true, true, true, false, true, false, false, false, false, false, false, false]
abbrev q86_31 : Array Bool := #[true, true, true, true, true, true, true, true, true, true, true, true, true, true, true, true, true, true, true, true, true, true, true, true, true, true, true, true, true, false, true, true, false, false, false, false, false, false]
abbrev q86_32 : Array Bool := #[true, true, true, true, true, true, true, true, true, true, true, true, true, true, true, true, true, true, true, true, true, true, true, true, true, true, true, true, true, false, true, true, true, false, false, false, false, false]
abbrev q86_33 : Array Bool := #[true, true, true, true, true, true, true, true, true, true, true, true, true, true, true, true, true, true, true, true, true, true, true, true, true, true, true, true, true, false, true, true, true, true, false, false, false, false]
abbrev q86_34 : Array Bool := #[true, true, true, true, true, true, true, true, true, true, true, true, true, true, true, true, true, true, true, true, true, true, true, true, true, true, true, true, true, true, true, true, true, true, false, false, false, false]
abbrev q86_35 : Array Bool := #[true, true, true, true, true, true, true, true, true, true, true, true, true, true, true, true, true, true, true, true, true, true, true, true, true, true, true, true, true, true, true, true, true, true, true, false, false, false]
abbrev q86_36 : Array Bool := #[true, true, true, true, true, true, true, true, true, true, true, true, true, true, true, true, true, true, true, true, true, true, true, true, true, true, true, true, true, true, true, true, true, true, true, true, false, false]
abbrev q86_37 : Array Bool := #[true, true, true, true, true, true, true, true, true, true, true, true, true, true, true, true, true, true, true, true, true, true, true, true, true, true, true, true, true, true, true, true, true, true, true, true, true, false]
abbrev q86_38 : Array Bool := #[true, true, true, true, true, true, true, true, true, true, true, true, true, true, true, true, true, true, true, true, true, true, true, true, true, true, true, true, true, true, true, true, true, true, true, true, true, true]
abbrev q86_39 : Array Bool := #[true, true, true, true, true, true, true, true, true, true, true, true, true, true, true, true, true, true, true, true, true, true, true, true, true, true, true, true, true, true, false, false, false, false, false, false, false, false]
abbrev q86_40 : Array Bool := #[true, true, true, true, true, true, true, true, true, true, true, true, true, true, true, true, true, true, true, true, true, true, true, true, true, true, true, true, true, true, true, false, false, false, false, false, false, false]
abbrev q86_41 : Array Bool := #[true, true, true, true, true, true, true, true, true, true, true, true, true, true, true, true, true, true, true, true, true, true, true, true, true, true, true, true, true, true, true, true, false, false, false, false, false, false]
abbrev q86_42 : Array Bool := #[true, true, true, true, true, true, true, true, true, true, true, true, true, true, true, true, true, true, true, true, true, true, true, true, true, true, true, true, true, true, true, true, true, false, false, false, false, false]
abbrev q86_43 : Array Bool := #[true, true, true, true, true, true, true, true, true, true, true, true, true, true, true, true, true, false, false, false, false, false, false, false, false, false, false, false, false, false, false, false, false, false, false, false, false, false]
abbrev q86_44 : Array Bool := #[true, true, true, true, true, true, true, true, true, true, true, true, true, true, true, true, true, true, false, false, false, false, false, false, false, false, false, false, false, false, false, false, false, false, false, false, false, false]
abbrev q86_45 : Array Bool := #[true, true, true, true, true, true, true, true, true, true, true, true, true, true, true, true, true, true, true, false, false, false, false, false, false, false, false, false, false, false, false, false, false, false, false, false, false, false]
abbrev q86_46 : Array Bool := #[true, true, true, true, true, true, true, true, true, true, true, true, true, true, true, true, true, true, true, true, false, false, false, false, false, false, false, false, false, false, false, false, false, false, false, false, false, false]
def laws_eaOuts.l0 : Nat → List (S158) → List (S158) → Int → Option (Bool)
 | 0, _, _, _ => none
 | k + 1, x0, x1, x5 => if x5 < (x0.length : Int) then (if 0 ≤ x5 then (if x5 < (x1.length : Int) then (if ((rd_T158 x0 x5).f0) = ((rd_T158 x1 x5).f0) then (if ((rd_T158 x0 x5).f1) = ((rd_T158 x1 x5).f1) then ((laws_eaBytes.f ((rd_T158 x0 x5).f2) ((rd_T158 x1 x5).f2)).bind fun t107 => (if t107 = true then (laws_eaOuts.l0 k x0 x1 (wrap64 (x5 + 1))) else (some false))) else (some false)) else (some false)) else (none)) else (none)) else (some true)
def laws_eaOuts.f (k : Nat) (l0 : List (S158)) (l1 : List (S158)) : Option (Bool) := if (l0.length : Int) = (l1.length : Int) then (laws_eaOuts.l0 k l0 l1 0) else (some false)
def laws_eaOuts.T6 : Bool × List (List Nat × List Nat) := (true, [([], []), ([], []), ([0, 1], [0, 1]), ([2], [2]), ([3], [3]), ([], []), ([], []), ([5, 6], [5, 6]), ([7], [7]), ([8], [8]), ([4, 9], [4, 9]), ([10], [10]), ([11], [11]), ([11], [11]), ([12, 13, 11], [11, 12, 13]), ([14, 11], [11, 14]), ([15, 11], [11, 15]), ([11], [11]), ([11], [11]), ([17, 18, 11], [11, 17, 18]), ([19, 11], [11, 19]), ([20, 11], [11, 20]), ([16, 21, 11], [11, 16, 21]), ([11, 22], [11, 22]), ([23, 11], [23]), ([24], [24]), ([24], [24]), ([25, 26, 24], [24, 25, 26]), ([27, 24], [24, 27]), ([28, 24], [24, 28]), ([24], [24]), ([24], [24]), ([30, 31, 24], [24, 30, 31]), ([32, 24], [24, 32]), ([33, 24], [24, 33]), ([29, 34, 24, 24], [24, 29, 34]), ([35, 24], [24, 35]), ([24, 36], [24, 36])])
def laws_eaOuts.B6 : List Nat := [0, 0, 3, 7, 15, 0, 0, 96, 224, 480, 1023, 2047, 4095, 4095, 16383, 32767, 65535, 4095, 4095, 397311, 921599, 1970175, 4194303, 8388607, 16777215, 33554431, 33554431, 134217727, 268435455, 536870911, 33554431, 33554431, 3254779903, 7549747199, 16139681791, 34359738367, 68719476735, 137438953471]
theorem laws_eaOuts.tab6 : rtab .any (opsOf Try.f86 6) = laws_eaOuts.T6 := by kernel_rfl
theorem laws_eaOuts.bits6 : waitsOk laws_eaOuts.T6.2 laws_eaOuts.B6 = true := by kernel_rfl
set_option maxHeartbeats 8000000 in
set_option maxRecDepth 100000 in
theorem laws_eaOuts.calls (k : Nat) (A0 : Option Addr) (c0 : Nat) (l0 : List (S158)) (A1 : Option Addr) (c1 : Nat) (l1 : List (S158)) (r : Bool) (w : World) (hr0 : Kd.C k158 w A0 l0.length l0) (hc0 : l0.length ≤ c0) (hr1 : Kd.C k158 w A1 l1.length l1) (hc1 : l1.length ≤ c1) (h : laws_eaOuts.f k l0 l1 = some r) :
  Calls Try.prog 86 #[.slice A0 l0.length c0, .slice A1 l1.length c1] w fun e w' => e = .returned (.bool r) ∧ Below w.heap.size w w' := by
 have HR0 := yab hr0; have HC0 := yab hc0; clear hr0 hc0; have HR1 := yab hr1; have HC1 := yab hc1; clear hr1 hc1; have HB := yab (Below.refl w.heap.size w); have H : (if (l0.length : Int) = (l1.length : Int) then (laws_eaOuts.l0 k l0 l1 0) else (some false)) = some r := h; clear h
 by_cases c3 : (l0.length : Int) = (l1.length : Int)
 ·
  rw [if_pos c3] at H
  have g8 : ((l0.length : Int) == (l1.length : Int)) = true := beq_iff_eq.mpr c3; have g9 : ((l0.length : Int) != (l1.length : Int)) = false := bne_eq_false_iff_eq.mpr c3
  have h0 : (l0.length == l1.length) = true := by first | simpa using c3 | (simp at c3 ⊢; omega)
  clear c3; have H' := yab H; clear H
  go_enter Try.func86, Try.ntmps86
  go_wp2
  (try simp only [Act.put, List.setIfInBounds_toArray, List.set_cons_zero, List.set_cons_succ])
  go_loopg [5] k (fun kq v5 w' => ∃ (a2 : Int), v5 = .int .i64 a2 ∧ Aside0 (laws_eaOuts.l0 kq l0 l1 a2 = some r) ∧ Aside0 (kq ≤ k) ∧ Aside0 (Below w.heap.size w w'))
  case atStart => exact ⟨(0), (by first | rfl | (simp; done) | (simp [*]; done)), H', ⟨Nat.le_refl _⟩, ⟨upH HB.out⟩⟩
  case round =>
   clear H'; (try clear c1); (try clear p2); (try clear c3); (try clear g8); (try clear g9); (try clear h0); obtain ⟨a2, rfl, HA, HK1, HB⟩ := hrel
   cases gk with
   | zero => exact absurd HA.out (by simp [laws_eaOuts.l0])
   | succ k1 =>
    have H := HA.out; clear HA
    simp only [laws_eaOuts.l0] at H
    by_cases c4 : a2 < (l0.length : Int)
    ·
     rw [if_pos c4] at H
     have h1 : decide (a2 < (l0.length : Int)) = true := decide_eq_true c4; clear c4
     by_cases c5 : 0 ≤ a2
     ·
      rw [if_pos c5] at H
      have h7 : decide (0 ≤ a2) = true := decide_eq_true c5; clear c5
      by_cases c6 : a2 < (l1.length : Int)
      ·
       rw [if_pos c6] at H
       have h8 : decide (a2 < (l1.length : Int)) = true := decide_eq_true c6; clear c6
       by_cases c7 : ((yaa l0 a2).f0) = ((yaa l1 a2).f0)
       ·
        rw [if_pos c7] at H
        have h2 : (((yaa l0 a2).f0) == ((yaa l1 a2).f0)) = true := beq_iff_eq.mpr c7; have h3 : (((yaa l0 a2).f0) != ((yaa l1 a2).f0)) = false := bne_eq_false_iff_eq.mpr c7; clear c7
        by_cases c8 : ((yaa l0 a2).f1) = ((yaa l1 a2).f1)
        ·
         rw [if_pos c8] at H
         have h4 : (((yaa l0 a2).f1) == ((yaa l1 a2).f1)) = true := beq_iff_eq.mpr c8; have h5 : (((yaa l0 a2).f1) != ((yaa l1 a2).f1)) = false := bne_eq_false_iff_eq.mpr c8; clear c8; replace H := Option.bind_eq_some_iff.mp H; obtain ⟨h6, A90, H⟩ := H; (try dsimp only at H); have A9 := yab A90; clear A90
         by_cases c10 : h6 = true
         ·
          subst c10
          rw [if_pos rfl] at H
          have H' := yab H; clear H
          try go_wp2
          replace HB := yab (below_drew1 HB.out)
          have p101 : 0 ≤ (a2 : Int) := of_decide_eq_true (by first | (with_reducible assumption) | assumption)
          have q101 : a2 < (l0.length : Int) := of_decide_eq_true (by first | (with_reducible assumption) | assumption)
          obtain ⟨ad101, d7, d8, f4, a5, a6, a3, hl101_2, hi101_2⟩ := at_T158 HR0.out a2 p101 q101; have b5 := a3; have b6 := a6; have b7 := a5
          cases f4
          replace a5 := (HB.out.cell (World.block_lt_of_cell? w _ a5)).trans a5; replace a6 := (HB.out.cell (World.block_lt_of_cell? w _ a6)).trans a6; replace a3 := (HB.out.cell (World.block_lt_of_cell? w _ a3)).trans a3; have HR101_2 := yab hi101_2; have HC101_2 := yab hl101_2; clear hi101_2 hl101_2; replace p101 := eq_true p101; replace q101 := eq_true q101
          have p102 : 0 ≤ (a2 : Int) := of_decide_eq_true (by first | (with_reducible assumption) | assumption)
          have q102 : a2 < (l1.length : Int) := of_decide_eq_true (by first | (with_reducible assumption) | assumption)
          obtain ⟨ad102, d9, e0, f5, a7, a8, a4, hl102_2, hi102_2⟩ := at_T158 HR1.out a2 p102 q102; have b8 := a4; have b9 := a8; have c2 := a7
          cases f5
          replace a7 := (HB.out.cell (World.block_lt_of_cell? w _ a7)).trans a7; replace a8 := (HB.out.cell (World.block_lt_of_cell? w _ a8)).trans a8; replace a4 := (HB.out.cell (World.block_lt_of_cell? w _ a4)).trans a4; have HR102_2 := yab hi102_2; have HC102_2 := yab hl102_2; clear hi102_2 hl102_2; replace p102 := eq_true p102; replace q102 := eq_true q102
          have p103 : 0 ≤ (a2 : Int) := of_decide_eq_true (by first | (with_reducible assumption) | assumption)
          have q103 : a2 < (l0.length : Int) := of_decide_eq_true (by first | (with_reducible assumption) | assumption)
          obtain ⟨ad103, f6, f7, f8, b1, b2, a9, hl103_2, hi103_2⟩ := at_T158 HR0.out a2 p103 q103; have d1 := a9; have d2 := b2; have d3 := b1; obtain rfl : ad101 = ad103 := (by injection f8); replace b1 := (HB.out.cell (World.block_lt_of_cell? w _ b1)).trans b1; replace b2 := (HB.out.cell (World.block_lt_of_cell? w _ b2)).trans b2; replace a9 := (HB.out.cell (World.block_lt_of_cell? w _ a9)).trans a9; have HR103_2 := yab hi103_2; have HC103_2 := yab hl103_2; clear hi103_2 hl103_2; replace p103 := eq_true p103; replace q103 := eq_true q103; have ea_ := Option.some.inj (a3.symm.trans a9)
          injection ea_ with ea_ en_ ec_
          subst ea_; subst ec_; clear en_
          have p104 : 0 ≤ (a2 : Int) := of_decide_eq_true (by first | (with_reducible assumption) | assumption)
          have q104 : a2 < (l1.length : Int) := of_decide_eq_true (by first | (with_reducible assumption) | assumption)
          obtain ⟨ad104, f9, g0, g1, b3, b4, b0, hl104_2, hi104_2⟩ := at_T158 HR1.out a2 p104 q104; have d4 := b0; have d5 := b4; have d6 := b3; obtain rfl : ad102 = ad104 := (by injection g1); replace b3 := (HB.out.cell (World.block_lt_of_cell? w _ b3)).trans b3; replace b4 := (HB.out.cell (World.block_lt_of_cell? w _ b4)).trans b4; replace b0 := (HB.out.cell (World.block_lt_of_cell? w _ b0)).trans b0; have HR104_2 := yab hi104_2; have HC104_2 := yab hl104_2; clear hi104_2 hl104_2; replace p104 := eq_true p104; replace q104 := eq_true q104; have ea_ := Option.some.inj (a4.symm.trans b0)
          injection ea_ with ea_ en_ ec_
          subst ea_; subst ec_; clear en_
          have p105 : 0 ≤ (a2 : Int) := of_decide_eq_true (by first | (with_reducible assumption) | assumption)
          have q105 : a2 < (l0.length : Int) := of_decide_eq_true (by first | (with_reducible assumption) | assumption)
          obtain ⟨ad105, g2, g3, g4, e1, e2, c9, hl105_2, hi105_2⟩ := at_T158 HR0.out a2 p105 q105; have e5 := c9; have e6 := e2; have e7 := e1; obtain rfl : ad101 = ad105 := (by injection g4); replace e1 := (HB.out.cell (World.block_lt_of_cell? w _ e1)).trans e1; replace e2 := (HB.out.cell (World.block_lt_of_cell? w _ e2)).trans e2; replace c9 := (HB.out.cell (World.block_lt_of_cell? w _ c9)).trans c9; have HR105_2 := yab hi105_2; have HC105_2 := yab hl105_2; clear hi105_2 hl105_2; replace p105 := eq_true p105; replace q105 := eq_true q105; have ea_ := Option.some.inj (a3.symm.trans c9)
          injection ea_ with ea_ en_ ec_
          subst ea_; subst ec_; clear en_
          have p106 : 0 ≤ (a2 : Int) := of_decide_eq_true (by first | (with_reducible assumption) | assumption)
          have q106 : a2 < (l1.length : Int) := of_decide_eq_true (by first | (with_reducible assumption) | assumption)
          obtain ⟨ad106, g5, g6, g7, e3, e4, d0, hl106_2, hi106_2⟩ := at_T158 HR1.out a2 p106 q106; have e8 := d0; have e9 := e4; have f3 := e3; obtain rfl : ad102 = ad106 := (by injection g7); replace e3 := (HB.out.cell (World.block_lt_of_cell? w _ e3)).trans e3; replace e4 := (HB.out.cell (World.block_lt_of_cell? w _ e4)).trans e4; replace d0 := (HB.out.cell (World.block_lt_of_cell? w _ d0)).trans d0; have HR106_2 := yab hi106_2; have HC106_2 := yab hl106_2; clear hi106_2 hl106_2; replace p106 := eq_true p106; replace q106 := eq_true q106; have ea_ := Option.some.inj (a4.symm.trans d0)
          injection ea_ with ea_ en_ ec_
          subst ea_; subst ec_; clear en_
          refine start_ (n := 38) (S := fun w' => w'.cell? (ad101.add ((a2).toNat * 3)) = some (.int .i64 ((yaa l0 a2).f0)) ∧ w'.cell? ⟨(ad101.add ((a2).toNat * 3)).block, (ad101.add ((a2).toNat * 3)).off + 1, none⟩ = some (.int .i64 ((yaa l0 a2).f1)) ∧ w'.cell? ⟨(ad101.add ((a2).toNat * 3)).block, (ad101.add ((a2).toNat * 3)).off + 2, none⟩ = some (.slice d7 ((yaa l0 a2).f2).length d8) ∧ w'.cell? (ad102.add ((a2).toNat * 3)) = some (.int .i64 ((yaa l1 a2).f0)) ∧ w'.cell? ⟨(ad102.add ((a2).toNat * 3)).block, (ad102.add ((a2).toNat * 3)).off + 1, none⟩ = some (.int .i64 ((yaa l1 a2).f1)) ∧ w'.cell? ⟨(ad102.add ((a2).toNat * 3)).block, (ad102.add ((a2).toNat * 3)).off + 2, none⟩ = some (.slice d9 ((yaa l1 a2).f2).length e0) ∧ w'.cell? (ad101.add ((a2).toNat * 3)) = some (.int .i64 ((yaa l0 a2).f0)) ∧ w'.cell? ⟨(ad101.add ((a2).toNat * 3)).block, (ad101.add ((a2).toNat * 3)).off + 1, none⟩ = some (.int .i64 ((yaa l0 a2).f1)) ∧ w'.cell? ⟨(ad101.add ((a2).toNat * 3)).block, (ad101.add ((a2).toNat * 3)).off + 2, none⟩ = some (.slice d7 ((yaa l0 a2).f2).length d8) ∧ w'.cell? (ad102.add ((a2).toNat * 3)) = some (.int .i64 ((yaa l1 a2).f0)) ∧ w'.cell? ⟨(ad102.add ((a2).toNat * 3)).block, (ad102.add ((a2).toNat * 3)).off + 1, none⟩ = some (.int .i64 ((yaa l1 a2).f1)) ∧ w'.cell? ⟨(ad102.add ((a2).toNat * 3)).block, (ad102.add ((a2).toNat * 3)).off + 2, none⟩ = some (.slice d9 ((yaa l1 a2).f2).length e0) ∧ w'.cell? (ad101.add ((a2).toNat * 3)) = some (.int .i64 ((yaa l0 a2).f0)) ∧ w'.cell? ⟨(ad101.add ((a2).toNat * 3)).block, (ad101.add ((a2).toNat * 3)).off + 1, none⟩ = some (.int .i64 ((yaa l0 a2).f1)) ∧ w'.cell? ⟨(ad101.add ((a2).toNat * 3)).block, (ad101.add ((a2).toNat * 3)).off + 2, none⟩ = some (.slice d7 ((yaa l0 a2).f2).length d8) ∧ w'.cell? (ad102.add ((a2).toNat * 3)) = some (.int .i64 ((yaa l1 a2).f0)) ∧ w'.cell? ⟨(ad102.add ((a2).toNat * 3)).block, (ad102.add ((a2).toNat * 3)).off + 1, none⟩ = some (.int .i64 ((yaa l1 a2).f1)) ∧ w'.cell? ⟨(ad102.add ((a2).toNat * 3)).block, (ad102.add ((a2).toNat * 3)).off + 2, none⟩ = some (.slice d9 ((yaa l1 a2).f2).length e0)) (ds := []) q86_0 (by kernel_rfl) rfl rfl ⟨((HB.out.cell (World.block_lt_of_cell? w _ b7)).trans b7), ((HB.out.cell (World.block_lt_of_cell? w _ b6)).trans b6), ((HB.out.cell (World.block_lt_of_cell? w _ b5)).trans b5), ((HB.out.cell (World.block_lt_of_cell? w _ c2)).trans c2), ((HB.out.cell (World.block_lt_of_cell? w _ b9)).trans b9), ((HB.out.cell (World.block_lt_of_cell? w _ b8)).trans b8), ((HB.out.cell (World.block_lt_of_cell? w _ d3)).trans d3), ((HB.out.cell (World.block_lt_of_cell? w _ d2)).trans d2), ((HB.out.cell (World.block_lt_of_cell? w _ d1)).trans d1), ((HB.out.cell (World.block_lt_of_cell? w _ d6)).trans d6), ((HB.out.cell (World.block_lt_of_cell? w _ d5)).trans d5), ((HB.out.cell (World.block_lt_of_cell? w _ d4)).trans d4), ((HB.out.cell (World.block_lt_of_cell? w _ e7)).trans e7), ((HB.out.cell (World.block_lt_of_cell? w _ e6)).trans e6), ((HB.out.cell (World.block_lt_of_cell? w _ e5)).trans e5), ((HB.out.cell (World.block_lt_of_cell? w _ f3)).trans f3), ((HB.out.cell (World.block_lt_of_cell? w _ e9)).trans e9), ((HB.out.cell (World.block_lt_of_cell? w _ e8)).trans e8)⟩ (fun hHeld => ?_); refine with_tabW laws_eaOuts.tab6 laws_eaOuts.bits6 (fun HT_ HW_ => ?_)
          generalize wr.drew = w11 at HB HR101_2 HR102_2 HR103_2 HR104_2 HR105_2 HR106_2 a5 a6 a3 a7 a8 a4 b1 b2 a9 b3 b4 b0 e1 e2 c9 e3 e4 d0 hHeld ⊢
          refine pz_ 0 17 q86_1 HT_ (by kernel_rfl) ?_
          refine pz_ 1 18 q86_2 HT_ (by kernel_rfl) ?_
          refine pz_ 2 19 q86_3 HT_ (by kernel_rfl) ?_
          refine pz_ 3 20 q86_4 HT_ (by kernel_rfl) ?_
          refine pz_ 5 22 q86_5 HT_ (by kernel_rfl) ?_
          refine pz_ 6 23 q86_6 HT_ (by kernel_rfl) ?_
          refine pz_ 7 24 q86_7 HT_ (by kernel_rfl) ?_
          refine pz_ 8 25 q86_8 HT_ (by kernel_rfl) ?_
          refine tz_ 4 21 q86_9 HT_ HW_ (by kernel_rfl) hHeld ?_
          refine tz_ 9 26 q86_10 HT_ HW_ (by kernel_rfl) hHeld ?_
          refine pz_ 10 27 q86_11 HT_ (by kernel_rfl) ?_
          refine pz_ 11 28 q86_12 HT_ (by kernel_rfl) ?_
          refine pz_ 12 29 q86_13 HT_ (by kernel_rfl) ?_
          refine pz_ 13 30 q86_14 HT_ (by kernel_rfl) ?_
          refine pz_ 14 31 q86_15 HT_ (by kernel_rfl) ?_
          refine pz_ 15 32 q86_16 HT_ (by kernel_rfl) ?_
          refine pz_ 17 34 q86_17 HT_ (by kernel_rfl) ?_
          refine pz_ 18 35 q86_18 HT_ (by kernel_rfl) ?_
          refine pz_ 19 36 q86_19 HT_ (by kernel_rfl) ?_
          refine pz_ 20 37 q86_20 HT_ (by kernel_rfl) ?_
          refine tz_ 16 33 q86_21 HT_ HW_ (by kernel_rfl) hHeld ?_
          refine tz_ 21 38 q86_22 HT_ HW_ (by kernel_rfl) hHeld ?_
          refine pz_ 22 39 q86_23 HT_ (by kernel_rfl) ?_
          refine pz_ 23 40 q86_24 HT_ (by kernel_rfl) ?_
          refine pz_ 24 41 q86_25 HT_ (by kernel_rfl) ?_
          refine pz_ 25 42 q86_26 HT_ (by kernel_rfl) ?_
          refine pz_ 26 43 q86_27 HT_ (by kernel_rfl) ?_
          refine pz_ 27 44 q86_28 HT_ (by kernel_rfl) ?_
          refine pz_ 28 45 q86_29 HT_ (by kernel_rfl) ?_
          refine pz_ 30 47 q86_30 HT_ (by kernel_rfl) ?_
          refine pz_ 31 48 q86_31 HT_ (by kernel_rfl) ?_
          refine pz_ 32 49 q86_32 HT_ (by kernel_rfl) ?_
          refine pz_ 33 50 q86_33 HT_ (by kernel_rfl) ?_
          refine tz_ 29 46 q86_34 HT_ HW_ (by kernel_rfl) hHeld ?_
          refine tz_ 34 51 q86_35 HT_ HW_ (by kernel_rfl) hHeld ?_
          refine one_ (i := 35) (N := some 52) q86_36 rfl rfl (one_of HT_.out (by kernel_rfl)) (by decide) (fun K hK => ?_)
          refine goes_ Try.func128 (by kernel_rfl) rfl #[.slice d7 ((yaa l0 a2).f2).length d8, .slice d9 ((yaa l1 a2).f2).length e0] (by rfl) rfl rfl (by (try simp only [List.map_toArray, List.map_cons, List.map_nil]); first | done | rfl | (simp only [List.length_drop, List.length_take]; rfl)) ?_
          with_reducible refine (laws_eaBytes.calls _ _ ((yaa l0 a2).f2) _ _ ((yaa l1 a2).f2) true _ ?side1 ?side2 ?side3 ?side4 A9.out).mono ?_
          (case side1 => repeat (first | exact (Kd.C_below HR105_2.out HB.out) | (with_reducible refine Kd.C_alloc ?_ _) | (with_reducible refine Kd.C_drewN ?_ _) | (with_reducible refine Kd.C_drew ?_)))
          (case side2 => exact HC105_2.out)
          (case side3 => repeat (first | exact (Kd.C_below HR106_2.out HB.out) | (with_reducible refine Kd.C_alloc ?_ _) | (with_reducible refine Kd.C_drewN ?_ _) | (with_reducible refine Kd.C_drew ?_)))
          (case side4 => exact HC106_2.out)
          rintro e w' ⟨rfl, ⟨nd, rfl⟩⟩; refine ⟨_, rfl, ?_⟩
          refine hK.out _ _ ⟨((HB.out.cell (World.block_lt_of_cell? w _ b7)).trans b7), ((HB.out.cell (World.block_lt_of_cell? w _ b6)).trans b6), ((HB.out.cell (World.block_lt_of_cell? w _ b5)).trans b5), ((HB.out.cell (World.block_lt_of_cell? w _ c2)).trans c2), ((HB.out.cell (World.block_lt_of_cell? w _ b9)).trans b9), ((HB.out.cell (World.block_lt_of_cell? w _ b8)).trans b8), ((HB.out.cell (World.block_lt_of_cell? w _ d3)).trans d3), ((HB.out.cell (World.block_lt_of_cell? w _ d2)).trans d2), ((HB.out.cell (World.block_lt_of_cell? w _ d1)).trans d1), ((HB.out.cell (World.block_lt_of_cell? w _ d6)).trans d6), ((HB.out.cell (World.block_lt_of_cell? w _ d5)).trans d5), ((HB.out.cell (World.block_lt_of_cell? w _ d4)).trans d4), ((HB.out.cell (World.block_lt_of_cell? w _ e7)).trans e7), ((HB.out.cell (World.block_lt_of_cell? w _ e6)).trans e6), ((HB.out.cell (World.block_lt_of_cell? w _ e5)).trans e5), ((HB.out.cell (World.block_lt_of_cell? w _ f3)).trans f3), ((HB.out.cell (World.block_lt_of_cell? w _ e9)).trans e9), ((HB.out.cell (World.block_lt_of_cell? w _ e8)).trans e8)⟩ (fun hHeld => ?_)
          clear hK K
          refine norm_ (a' := ?_) ?_ ?_
          rotate_left
          ·
           show Act.put _ (some 52) _ = _
           simp only [Act.put, List.setIfInBounds_toArray, List.set_cons_zero, List.set_cons_succ, i64_w, i32_w]
           rfl
          refine pz_ 36 53 q86_37 HT_ (by kernel_rfl) ?_
          refine pz_ 37 54 q86_38 HT_ (by kernel_rfl) ?_
          refine done_ (done_of HT_.out (by kernel_rfl)) ?_
          try go_wp2
          go_roundg k1
          case measure => have := HK1.out; omega
          case rel => exact ⟨(wrap64 (a2 + 1)), (by first | rfl | (simp; done) | (simp [*]; done)), H', ⟨by have := HK1.out; omega⟩, ⟨upH HB.out⟩⟩
         ·
          replace c10 := Bool.eq_false_iff.mpr c10
          subst c10
          rw [if_neg (show ¬ (false = true) by decide)] at H
          obtain rfl := Option.some.inj H
          try go_wp2
          replace HB := yab (below_drew1 HB.out)
          have p101 : 0 ≤ (a2 : Int) := of_decide_eq_true (by first | (with_reducible assumption) | assumption)
          have q101 : a2 < (l0.length : Int) := of_decide_eq_true (by first | (with_reducible assumption) | assumption)
          obtain ⟨ad101, d7, d8, f4, a5, a6, a3, hl101_2, hi101_2⟩ := at_T158 HR0.out a2 p101 q101; have b5 := a3; have b6 := a6; have b7 := a5
          cases f4
          replace a5 := (HB.out.cell (World.block_lt_of_cell? w _ a5)).trans a5; replace a6 := (HB.out.cell (World.block_lt_of_cell? w _ a6)).trans a6; replace a3 := (HB.out.cell (World.block_lt_of_cell? w _ a3)).trans a3; have HR101_2 := yab hi101_2; have HC101_2 := yab hl101_2; clear hi101_2 hl101_2; replace p101 := eq_true p101; replace q101 := eq_true q101
          have p102 : 0 ≤ (a2 : Int) := of_decide_eq_true (by first | (with_reducible assumption) | assumption)
          have q102 : a2 < (l1.length : Int) := of_decide_eq_true (by first | (with_reducible assumption) | assumption)
          obtain ⟨ad102, d9, e0, f5, a7, a8, a4, hl102_2, hi102_2⟩ := at_T158 HR1.out a2 p102 q102; have b8 := a4; have b9 := a8; have c2 := a7
          cases f5
          replace a7 := (HB.out.cell (World.block_lt_of_cell? w _ a7)).trans a7; replace a8 := (HB.out.cell (World.block_lt_of_cell? w _ a8)).trans a8; replace a4 := (HB.out.cell (World.block_lt_of_cell? w _ a4)).trans a4; have HR102_2 := yab hi102_2; have HC102_2 := yab hl102_2; clear hi102_2 hl102_2; replace p102 := eq_true p102; replace q102 := eq_true q102
          have p103 : 0 ≤ (a2 : Int) := of_decide_eq_true (by first | (with_reducible assumption) | assumption)
          have q103 : a2 < (l0.length : Int) := of_decide_eq_true (by first | (with_reducible assumption) | assumption)
          obtain ⟨ad103, f6, f7, f8, b1, b2, a9, hl103_2, hi103_2⟩ := at_T158 HR0.out a2 p103 q103; have d1 := a9; have d2 := b2; have d3 := b1; obtain rfl : ad101 = ad103 := (by injection f8); replace b1 := (HB.out.cell (World.block_lt_of_cell? w _ b1)).trans b1; replace b2 := (HB.out.cell (World.block_lt_of_cell? w _ b2)).trans b2; replace a9 := (HB.out.cell (World.block_lt_of_cell? w _ a9)).trans a9; have HR103_2 := yab hi103_2; have HC103_2 := yab hl103_2; clear hi103_2 hl103_2; replace p103 := eq_true p103; replace q103 := eq_true q103; have ea_ := Option.some.inj (a3.symm.trans a9)
          injection ea_ with ea_ en_ ec_
          subst ea_; subst ec_; clear en_
          have p104 : 0 ≤ (a2 : Int) := of_decide_eq_true (by first | (with_reducible assumption) | assumption)
          have q104 : a2 < (l1.length : Int) := of_decide_eq_true (by first | (with_reducible assumption) | assumption)
          obtain ⟨ad104, f9, g0, g1, b3, b4, b0, hl104_2, hi104_2⟩ := at_T158 HR1.out a2 p104 q104; have d4 := b0; have d5 := b4; have d6 := b3; obtain rfl : ad102 = ad104 := (by injection g1); replace b3 := (HB.out.cell (World.block_lt_of_cell? w _ b3)).trans b3; replace b4 := (HB.out.cell (World.block_lt_of_cell? w _ b4)).trans b4; replace b0 := (HB.out.cell (World.block_lt_of_cell? w _ b0)).trans b0; have HR104_2 := yab hi104_2; have HC104_2 := yab hl104_2; clear hi104_2 hl104_2; replace p104 := eq_true p104; replace q104 := eq_true q104; have ea_ := Option.some.inj (a4.symm.trans b0)
          injection ea_ with ea_ en_ ec_
          subst ea_; subst ec_; clear en_
          have p105 : 0 ≤ (a2 : Int) := of_decide_eq_true (by first | (with_reducible assumption) | assumption)
          have q105 : a2 < (l0.length : Int) := of_decide_eq_true (by first | (with_reducible assumption) | assumption)
          obtain ⟨ad105, g2, g3, g4, e1, e2, c9, hl105_2, hi105_2⟩ := at_T158 HR0.out a2 p105 q105; have e5 := c9; have e6 := e2; have e7 := e1; obtain rfl : ad101 = ad105 := (by injection g4); replace e1 := (HB.out.cell (World.block_lt_of_cell? w _ e1)).trans e1; replace e2 := (HB.out.cell (World.block_lt_of_cell? w _ e2)).trans e2; replace c9 := (HB.out.cell (World.block_lt_of_cell? w _ c9)).trans c9; have HR105_2 := yab hi105_2; have HC105_2 := yab hl105_2; clear hi105_2 hl105_2; replace p105 := eq_true p105; replace q105 := eq_true q105; have ea_ := Option.some.inj (a3.symm.trans c9)
          injection ea_ with ea_ en_ ec_
          subst ea_; subst ec_; clear en_
          have p106 : 0 ≤ (a2 : Int) := of_decide_eq_true (by first | (with_reducible assumption) | assumption)
          have q106 : a2 < (l1.length : Int) := of_decide_eq_true (by first | (with_reducible assumption) | assumption)
          obtain ⟨ad106, g5, g6, g7, e3, e4, d0, hl106_2, hi106_2⟩ := at_T158 HR1.out a2 p106 q106; have e8 := d0; have e9 := e4; have f3 := e3; obtain rfl : ad102 = ad106 := (by injection g7); replace e3 := (HB.out.cell (World.block_lt_of_cell? w _ e3)).trans e3; replace e4 := (HB.out.cell (World.block_lt_of_cell? w _ e4)).trans e4; replace d0 := (HB.out.cell (World.block_lt_of_cell? w _ d0)).trans d0; have HR106_2 := yab hi106_2; have HC106_2 := yab hl106_2; clear hi106_2 hl106_2; replace p106 := eq_true p106; replace q106 := eq_true q106; have ea_ := Option.some.inj (a4.symm.trans d0)
          injection ea_ with ea_ en_ ec_
          subst ea_; subst ec_; clear en_
          refine start_ (n := 38) (S := fun w' => w'.cell? (ad101.add ((a2).toNat * 3)) = some (.int .i64 ((yaa l0 a2).f0)) ∧ w'.cell? ⟨(ad101.add ((a2).toNat * 3)).block, (ad101.add ((a2).toNat * 3)).off + 1, none⟩ = some (.int .i64 ((yaa l0 a2).f1)) ∧ w'.cell? ⟨(ad101.add ((a2).toNat * 3)).block, (ad101.add ((a2).toNat * 3)).off + 2, none⟩ = some (.slice d7 ((yaa l0 a2).f2).length d8) ∧ w'.cell? (ad102.add ((a2).toNat * 3)) = some (.int .i64 ((yaa l1 a2).f0)) ∧ w'.cell? ⟨(ad102.add ((a2).toNat * 3)).block, (ad102.add ((a2).toNat * 3)).off + 1, none⟩ = some (.int .i64 ((yaa l1 a2).f1)) ∧ w'.cell? ⟨(ad102.add ((a2).toNat * 3)).block, (ad102.add ((a2).toNat * 3)).off + 2, none⟩ = some (.slice d9 ((yaa l1 a2).f2).length e0) ∧ w'.cell? (ad101.add ((a2).toNat * 3)) = some (.int .i64 ((yaa l0 a2).f0)) ∧ w'.cell? ⟨(ad101.add ((a2).toNat * 3)).block, (ad101.add ((a2).toNat * 3)).off + 1, none⟩ = some (.int .i64 ((yaa l0 a2).f1)) ∧ w'.cell? ⟨(ad101.add ((a2).toNat * 3)).block, (ad101.add ((a2).toNat * 3)).off + 2, none⟩ = some (.slice d7 ((yaa l0 a2).f2).length d8) ∧ w'.cell? (ad102.add ((a2).toNat * 3)) = some (.int .i64 ((yaa l1 a2).f0)) ∧ w'.cell? ⟨(ad102.add ((a2).toNat * 3)).block, (ad102.add ((a2).toNat * 3)).off + 1, none⟩ = some (.int .i64 ((yaa l1 a2).f1)) ∧ w'.cell? ⟨(ad102.add ((a2).toNat * 3)).block, (ad102.add ((a2).toNat * 3)).off + 2, none⟩ = some (.slice d9 ((yaa l1 a2).f2).length e0) ∧ w'.cell? (ad101.add ((a2).toNat * 3)) = some (.int .i64 ((yaa l0 a2).f0)) ∧ w'.cell? ⟨(ad101.add ((a2).toNat * 3)).block, (ad101.add ((a2).toNat * 3)).off + 1, none⟩ = some (.int .i64 ((yaa l0 a2).f1)) ∧ w'.cell? ⟨(ad101.add ((a2).toNat * 3)).block, (ad101.add ((a2).toNat * 3)).off + 2, none⟩ = some (.slice d7 ((yaa l0 a2).f2).length d8) ∧ w'.cell? (ad102.add ((a2).toNat * 3)) = some (.int .i64 ((yaa l1 a2).f0)) ∧ w'.cell? ⟨(ad102.add ((a2).toNat * 3)).block, (ad102.add ((a2).toNat * 3)).off + 1, none⟩ = some (.int .i64 ((yaa l1 a2).f1)) ∧ w'.cell? ⟨(ad102.add ((a2).toNat * 3)).block, (ad102.add ((a2).toNat * 3)).off + 2, none⟩ = some (.slice d9 ((yaa l1 a2).f2).length e0)) (ds := []) q86_0 (by kernel_rfl) rfl rfl ⟨((HB.out.cell (World.block_lt_of_cell? w _ b7)).trans b7), ((HB.out.cell (World.block_lt_of_cell? w _ b6)).trans b6), ((HB.out.cell (World.block_lt_of_cell? w _ b5)).trans b5), ((HB.out.cell (World.block_lt_of_cell? w _ c2)).trans c2), ((HB.out.cell (World.block_lt_of_cell? w _ b9)).trans b9), ((HB.out.cell (World.block_lt_of_cell? w _ b8)).trans b8), ((HB.out.cell (World.block_lt_of_cell? w _ d3)).trans d3), ((HB.out.cell (World.block_lt_of_cell? w _ d2)).trans d2), ((HB.out.cell (World.block_lt_of_cell? w _ d1)).trans d1), ((HB.out.cell (World.block_lt_of_cell? w _ d6)).trans d6), ((HB.out.cell (World.block_lt_of_cell? w _ d5)).trans d5), ((HB.out.cell (World.block_lt_of_cell? w _ d4)).trans d4), ((HB.out.cell (World.block_lt_of_cell? w _ e7)).trans e7), ((HB.out.cell (World.block_lt_of_cell? w _ e6)).trans e6), ((HB.out.cell (World.block_lt_of_cell? w _ e5)).trans e5), ((HB.out.cell (World.block_lt_of_cell? w _ f3)).trans f3), ((HB.out.cell (World.block_lt_of_cell? w _ e9)).trans e9), ((HB.out.cell (World.block_lt_of_cell? w _ e8)).trans e8)⟩ (fun hHeld => ?_); refine with_tabW laws_eaOuts.tab6 laws_eaOuts.bits6 (fun HT_ HW_ => ?_)
          generalize wr.drew = w12 at HB HR101_2 HR102_2 HR103_2 HR104_2 HR105_2 HR106_2 a5 a6 a3 a7 a8 a4 b1 b2 a9 b3 b4 b0 e1 e2 c9 e3 e4 d0 hHeld ⊢
          refine pz_ 0 17 q86_1 HT_ (by kernel_rfl) ?_
          refine pz_ 1 18 q86_2 HT_ (by kernel_rfl) ?_
          refine pz_ 2 19 q86_3 HT_ (by kernel_rfl) ?_
          refine pz_ 3 20 q86_4 HT_ (by kernel_rfl) ?_
          refine pz_ 5 22 q86_5 HT_ (by kernel_rfl) ?_
          refine pz_ 6 23 q86_6 HT_ (by kernel_rfl) ?_
          refine pz_ 7 24 q86_7 HT_ (by kernel_rfl) ?_
          refine pz_ 8 25 q86_8 HT_ (by kernel_rfl) ?_
          refine tz_ 4 21 q86_9 HT_ HW_ (by kernel_rfl) hHeld ?_
          refine tz_ 9 26 q86_10 HT_ HW_ (by kernel_rfl) hHeld ?_
          refine pz_ 10 27 q86_11 HT_ (by kernel_rfl) ?_
          refine pz_ 11 28 q86_12 HT_ (by kernel_rfl) ?_
          refine pz_ 12 29 q86_13 HT_ (by kernel_rfl) ?_
          refine pz_ 13 30 q86_14 HT_ (by kernel_rfl) ?_
          refine pz_ 14 31 q86_15 HT_ (by kernel_rfl) ?_
          refine pz_ 15 32 q86_16 HT_ (by kernel_rfl) ?_
          refine pz_ 17 34 q86_17 HT_ (by kernel_rfl) ?_
          refine pz_ 18 35 q86_18 HT_ (by kernel_rfl) ?_
          refine pz_ 19 36 q86_19 HT_ (by kernel_rfl) ?_
          refine pz_ 20 37 q86_20 HT_ (by kernel_rfl) ?_
          refine tz_ 16 33 q86_21 HT_ HW_ (by kernel_rfl) hHeld ?_
          refine tz_ 21 38 q86_22 HT_ HW_ (by kernel_rfl) hHeld ?_
          refine pz_ 22 39 q86_23 HT_ (by kernel_rfl) ?_
          refine pz_ 23 40 q86_24 HT_ (by kernel_rfl) ?_
          refine pz_ 24 41 q86_25 HT_ (by kernel_rfl) ?_
          refine pz_ 25 42 q86_26 HT_ (by kernel_rfl) ?_
          refine pz_ 26 43 q86_27 HT_ (by kernel_rfl) ?_
          refine pz_ 27 44 q86_28 HT_ (by kernel_rfl) ?_
          refine pz_ 28 45 q86_29 HT_ (by kernel_rfl) ?_
          refine pz_ 30 47 q86_30 HT_ (by kernel_rfl) ?_
          refine pz_ 31 48 q86_31 HT_ (by kernel_rfl) ?_
          refine pz_ 32 49 q86_32 HT_ (by kernel_rfl) ?_
          refine pz_ 33 50 q86_33 HT_ (by kernel_rfl) ?_
          refine tz_ 29 46 q86_34 HT_ HW_ (by kernel_rfl) hHeld ?_
          refine tz_ 34 51 q86_35 HT_ HW_ (by kernel_rfl) hHeld ?_
          refine one_ (i := 35) (N := some 52) q86_36 rfl rfl (one_of HT_.out (by kernel_rfl)) (by decide) (fun K hK => ?_)
          refine goes_ Try.func128 (by kernel_rfl) rfl #[.slice d7 ((yaa l0 a2).f2).length d8, .slice d9 ((yaa l1 a2).f2).length e0] (by rfl) rfl rfl (by (try simp only [List.map_toArray, List.map_cons, List.map_nil]); first | done | rfl | (simp only [List.length_drop, List.length_take]; rfl)) ?_
          with_reducible refine (laws_eaBytes.calls _ _ ((yaa l0 a2).f2) _ _ ((yaa l1 a2).f2) false _ ?side1 ?side2 ?side3 ?side4 A9.out).mono ?_
          (case side1 => repeat (first | exact (Kd.C_below HR105_2.out HB.out) | (with_reducible refine Kd.C_alloc ?_ _) | (with_reducible refine Kd.C_drewN ?_ _) | (with_reducible refine Kd.C_drew ?_)))
          (case side2 => exact HC105_2.out)
          (case side3 => repeat (first | exact (Kd.C_below HR106_2.out HB.out) | (with_reducible refine Kd.C_alloc ?_ _) | (with_reducible refine Kd.C_drewN ?_ _) | (with_reducible refine Kd.C_drew ?_)))
          (case side4 => exact HC106_2.out)
          rintro e w' ⟨rfl, ⟨nd, rfl⟩⟩; refine ⟨_, rfl, ?_⟩
          refine hK.out _ _ ⟨((HB.out.cell (World.block_lt_of_cell? w _ b7)).trans b7), ((HB.out.cell (World.block_lt_of_cell? w _ b6)).trans b6), ((HB.out.cell (World.block_lt_of_cell? w _ b5)).trans b5), ((HB.out.cell (World.block_lt_of_cell? w _ c2)).trans c2), ((HB.out.cell (World.block_lt_of_cell? w _ b9)).trans b9), ((HB.out.cell (World.block_lt_of_cell? w _ b8)).trans b8), ((HB.out.cell (World.block_lt_of_cell? w _ d3)).trans d3), ((HB.out.cell (World.block_lt_of_cell? w _ d2)).trans d2), ((HB.out.cell (World.block_lt_of_cell? w _ d1)).trans d1), ((HB.out.cell (World.block_lt_of_cell? w _ d6)).trans d6), ((HB.out.cell (World.block_lt_of_cell? w _ d5)).trans d5), ((HB.out.cell (World.block_lt_of_cell? w _ d4)).trans d4), ((HB.out.cell (World.block_lt_of_cell? w _ e7)).trans e7), ((HB.out.cell (World.block_lt_of_cell? w _ e6)).trans e6), ((HB.out.cell (World.block_lt_of_cell? w _ e5)).trans e5), ((HB.out.cell (World.block_lt_of_cell? w _ f3)).trans f3), ((HB.out.cell (World.block_lt_of_cell? w _ e9)).trans e9), ((HB.out.cell (World.block_lt_of_cell? w _ e8)).trans e8)⟩ (fun hHeld => ?_)
          clear hK K
          refine norm_ (a' := ?_) ?_ ?_
          rotate_left
          ·
           show Act.put _ (some 52) _ = _
           simp only [Act.put, List.setIfInBounds_toArray, List.set_cons_zero, List.set_cons_succ, i64_w, i32_w]
           rfl
          refine pz_ 36 53 q86_37 HT_ (by kernel_rfl) ?_
          refine pz_ 37 54 q86_38 HT_ (by kernel_rfl) ?_
          refine done_ (done_of HT_.out (by kernel_rfl)) ?_
          try go_wp2
          go_ret
          exact ⟨by first | rfl | (simp [*, errW_none, errW_some] <;> rfl), upH HB.out⟩
        ·
         rw [if_neg c8] at H
         have h4 : (((yaa l0 a2).f1) == ((yaa l1 a2).f1)) = false := beq_eq_false_iff_ne.mpr c8; have h5 : (((yaa l0 a2).f1) != ((yaa l1 a2).f1)) = true := bne_iff_ne.mpr c8; obtain rfl := Option.some.inj H
         try go_wp2
         replace HB := yab (below_drew1 HB.out)
         have p101 : 0 ≤ (a2 : Int) := of_decide_eq_true (by first | (with_reducible assumption) | assumption)
         have q101 : a2 < (l0.length : Int) := of_decide_eq_true (by first | (with_reducible assumption) | assumption)
         obtain ⟨ad101, d7, d8, f4, a5, a6, a3, hl101_2, hi101_2⟩ := at_T158 HR0.out a2 p101 q101; have b5 := a3; have b6 := a6; have b7 := a5
         cases f4
         replace a5 := (HB.out.cell (World.block_lt_of_cell? w _ a5)).trans a5; replace a6 := (HB.out.cell (World.block_lt_of_cell? w _ a6)).trans a6; replace a3 := (HB.out.cell (World.block_lt_of_cell? w _ a3)).trans a3; have HR101_2 := yab hi101_2; have HC101_2 := yab hl101_2; clear hi101_2 hl101_2; replace p101 := eq_true p101; replace q101 := eq_true q101
         have p102 : 0 ≤ (a2 : Int) := of_decide_eq_true (by first | (with_reducible assumption) | assumption)
         have q102 : a2 < (l1.length : Int) := of_decide_eq_true (by first | (with_reducible assumption) | assumption)
         obtain ⟨ad102, d9, e0, f5, a7, a8, a4, hl102_2, hi102_2⟩ := at_T158 HR1.out a2 p102 q102; have b8 := a4; have b9 := a8; have c2 := a7
         cases f5
         replace a7 := (HB.out.cell (World.block_lt_of_cell? w _ a7)).trans a7; replace a8 := (HB.out.cell (World.block_lt_of_cell? w _ a8)).trans a8; replace a4 := (HB.out.cell (World.block_lt_of_cell? w _ a4)).trans a4; have HR102_2 := yab hi102_2; have HC102_2 := yab hl102_2; clear hi102_2 hl102_2; replace p102 := eq_true p102; replace q102 := eq_true q102
         have p103 : 0 ≤ (a2 : Int) := of_decide_eq_true (by first | (with_reducible assumption) | assumption)
         have q103 : a2 < (l0.length : Int) := of_decide_eq_true (by first | (with_reducible assumption) | assumption)
         obtain ⟨ad103, f6, f7, f8, b1, b2, a9, hl103_2, hi103_2⟩ := at_T158 HR0.out a2 p103 q103; have d1 := a9; have d2 := b2; have d3 := b1; obtain rfl : ad101 = ad103 := (by injection f8); replace b1 := (HB.out.cell (World.block_lt_of_cell? w _ b1)).trans b1; replace b2 := (HB.out.cell (World.block_lt_of_cell? w _ b2)).trans b2; replace a9 := (HB.out.cell (World.block_lt_of_cell? w _ a9)).trans a9; have HR103_2 := yab hi103_2; have HC103_2 := yab hl103_2; clear hi103_2 hl103_2; replace p103 := eq_true p103; replace q103 := eq_true q103; have ea_ := Option.some.inj (a3.symm.trans a9)
         injection ea_ with ea_ en_ ec_
         subst ea_; subst ec_; clear en_
         have p104 : 0 ≤ (a2 : Int) := of_decide_eq_true (by first | (with_reducible assumption) | assumption)
         have q104 : a2 < (l1.length : Int) := of_decide_eq_true (by first | (with_reducible assumption) | assumption)
         obtain ⟨ad104, f9, g0, g1, b3, b4, b0, hl104_2, hi104_2⟩ := at_T158 HR1.out a2 p104 q104; have d4 := b0; have d5 := b4; have d6 := b3; obtain rfl : ad102 = ad104 := (by injection g1); replace b3 := (HB.out.cell (World.block_lt_of_cell? w _ b3)).trans b3; replace b4 := (HB.out.cell (World.block_lt_of_cell? w _ b4)).trans b4; replace b0 := (HB.out.cell (World.block_lt_of_cell? w _ b0)).trans b0; have HR104_2 := yab hi104_2; have HC104_2 := yab hl104_2; clear hi104_2 hl104_2; replace p104 := eq_true p104; replace q104 := eq_true q104; have ea_ := Option.some.inj (a4.symm.trans b0)
         injection ea_ with ea_ en_ ec_
         subst ea_; subst ec_; clear en_
         refine start_ (n := 38) (S := fun w' => w'.cell? (ad101.add ((a2).toNat * 3)) = some (.int .i64 ((yaa l0 a2).f0)) ∧ w'.cell? ⟨(ad101.add ((a2).toNat * 3)).block, (ad101.add ((a2).toNat * 3)).off + 1, none⟩ = some (.int .i64 ((yaa l0 a2).f1)) ∧ w'.cell? ⟨(ad101.add ((a2).toNat * 3)).block, (ad101.add ((a2).toNat * 3)).off + 2, none⟩ = some (.slice d7 ((yaa l0 a2).f2).length d8) ∧ w'.cell? (ad102.add ((a2).toNat * 3)) = some (.int .i64 ((yaa l1 a2).f0)) ∧ w'.cell? ⟨(ad102.add ((a2).toNat * 3)).block, (ad102.add ((a2).toNat * 3)).off + 1, none⟩ = some (.int .i64 ((yaa l1 a2).f1)) ∧ w'.cell? ⟨(ad102.add ((a2).toNat * 3)).block, (ad102.add ((a2).toNat * 3)).off + 2, none⟩ = some (.slice d9 ((yaa l1 a2).f2).length e0) ∧ w'.cell? (ad101.add ((a2).toNat * 3)) = some (.int .i64 ((yaa l0 a2).f0)) ∧ w'.cell? ⟨(ad101.add ((a2).toNat * 3)).block, (ad101.add ((a2).toNat * 3)).off + 1, none⟩ = some (.int .i64 ((yaa l0 a2).f1)) ∧ w'.cell? ⟨(ad101.add ((a2).toNat * 3)).block, (ad101.add ((a2).toNat * 3)).off + 2, none⟩ = some (.slice d7 ((yaa l0 a2).f2).length d8) ∧ w'.cell? (ad102.add ((a2).toNat * 3)) = some (.int .i64 ((yaa l1 a2).f0)) ∧ w'.cell? ⟨(ad102.add ((a2).toNat * 3)).block, (ad102.add ((a2).toNat * 3)).off + 1, none⟩ = some (.int .i64 ((yaa l1 a2).f1)) ∧ w'.cell? ⟨(ad102.add ((a2).toNat * 3)).block, (ad102.add ((a2).toNat * 3)).off + 2, none⟩ = some (.slice d9 ((yaa l1 a2).f2).length e0)) (ds := []) q86_0 (by kernel_rfl) rfl rfl ⟨((HB.out.cell (World.block_lt_of_cell? w _ b7)).trans b7), ((HB.out.cell (World.block_lt_of_cell? w _ b6)).trans b6), ((HB.out.cell (World.block_lt_of_cell? w _ b5)).trans b5), ((HB.out.cell (World.block_lt_of_cell? w _ c2)).trans c2), ((HB.out.cell (World.block_lt_of_cell? w _ b9)).trans b9), ((HB.out.cell (World.block_lt_of_cell? w _ b8)).trans b8), ((HB.out.cell (World.block_lt_of_cell? w _ d3)).trans d3), ((HB.out.cell (World.block_lt_of_cell? w _ d2)).trans d2), ((HB.out.cell (World.block_lt_of_cell? w _ d1)).trans d1), ((HB.out.cell (World.block_lt_of_cell? w _ d6)).trans d6), ((HB.out.cell (World.block_lt_of_cell? w _ d5)).trans d5), ((HB.out.cell (World.block_lt_of_cell? w _ d4)).trans d4)⟩ (fun hHeld => ?_); refine with_tabW laws_eaOuts.tab6 laws_eaOuts.bits6 (fun HT_ HW_ => ?_)
         generalize wr.drew = w13 at HB HR101_2 HR102_2 HR103_2 HR104_2 a5 a6 a3 a7 a8 a4 b1 b2 a9 b3 b4 b0 hHeld ⊢
         refine pz_ 0 17 q86_1 HT_ (by kernel_rfl) ?_
         refine pz_ 1 18 q86_2 HT_ (by kernel_rfl) ?_
         refine pz_ 2 19 q86_3 HT_ (by kernel_rfl) ?_
         refine pz_ 3 20 q86_4 HT_ (by kernel_rfl) ?_
         refine pz_ 5 22 q86_5 HT_ (by kernel_rfl) ?_
         refine pz_ 6 23 q86_6 HT_ (by kernel_rfl) ?_
         refine pz_ 7 24 q86_7 HT_ (by kernel_rfl) ?_
         refine pz_ 8 25 q86_8 HT_ (by kernel_rfl) ?_
         refine tz_ 4 21 q86_9 HT_ HW_ (by kernel_rfl) hHeld ?_
         refine tz_ 9 26 q86_10 HT_ HW_ (by kernel_rfl) hHeld ?_
         refine pz_ 10 27 q86_11 HT_ (by kernel_rfl) ?_
         refine pz_ 11 28 q86_12 HT_ (by kernel_rfl) ?_
         refine pz_ 12 29 q86_13 HT_ (by kernel_rfl) ?_
         refine pz_ 13 30 q86_14 HT_ (by kernel_rfl) ?_
         refine pz_ 14 31 q86_15 HT_ (by kernel_rfl) ?_
         refine pz_ 15 32 q86_16 HT_ (by kernel_rfl) ?_
         refine pz_ 17 34 q86_17 HT_ (by kernel_rfl) ?_
         refine pz_ 18 35 q86_18 HT_ (by kernel_rfl) ?_
         refine pz_ 19 36 q86_19 HT_ (by kernel_rfl) ?_
         refine pz_ 20 37 q86_20 HT_ (by kernel_rfl) ?_
         refine tz_ 16 33 q86_21 HT_ HW_ (by kernel_rfl) hHeld ?_
         refine tz_ 21 38 q86_22 HT_ HW_ (by kernel_rfl) hHeld ?_
         refine pz_ 22 39 q86_23 HT_ (by kernel_rfl) ?_
         refine pz_ 23 40 q86_24 HT_ (by kernel_rfl) ?_
         refine pz_ 24 41 q86_25 HT_ (by kernel_rfl) ?_
         refine pure_ (i := 25) (N := some 42) (v := undef) (a' := ?_) q86_26 rfl rfl (yac HT_.out (by kernel_rfl)) (fun _ _ _ h => h) (Or.inr ⟨by rfl, rfl⟩) ?_ ?_
         rotate_left
         ·
          simp only [Act.put, List.setIfInBounds_toArray, List.set_cons_zero, List.set_cons_succ, i64_w, i32_w]
          rfl
         refine pure_ (i := 26) (N := some 43) (v := undef) (a' := ?_) q86_27 rfl rfl (yac HT_.out (by kernel_rfl)) (fun _ _ _ h => h) (Or.inr ⟨by rfl, rfl⟩) ?_ ?_
         rotate_left
         ·
          simp only [Act.put, List.setIfInBounds_toArray, List.set_cons_zero, List.set_cons_succ, i64_w, i32_w]
          rfl
         refine pure_ (i := 27) (N := some 44) (v := undef) (a' := ?_) q86_28 rfl rfl (yac HT_.out (by kernel_rfl)) (fun _ _ _ h => h) (Or.inr ⟨by rfl, rfl⟩) ?_ ?_
         rotate_left
         ·
          simp only [Act.put, List.setIfInBounds_toArray, List.set_cons_zero, List.set_cons_succ, i64_w, i32_w]
          rfl
         refine pure_ (i := 28) (N := some 45) (v := undef) (a' := ?_) q86_29 rfl rfl (yac HT_.out (by kernel_rfl)) (fun _ _ _ h => h) (Or.inr ⟨by rfl, rfl⟩) ?_ ?_
         rotate_left
         ·
          simp only [Act.put, List.setIfInBounds_toArray, List.set_cons_zero, List.set_cons_succ, i64_w, i32_w]
          rfl
         refine pure_ (i := 29) (N := some 46) (v := undef) (a' := ?_) q86_39 rfl rfl (yac HT_.out (by kernel_rfl)) (fun _ _ _ h => h) (Or.inr ⟨by rfl, rfl⟩) ?_ ?_
         rotate_left
         ·
          simp only [Act.put, List.setIfInBounds_toArray, List.set_cons_zero, List.set_cons_succ, i64_w, i32_w]
          rfl
         refine pure_ (i := 30) (N := some 47) (v := undef) (a' := ?_) q86_40 rfl rfl (yac HT_.out (by kernel_rfl)) (fun _ _ _ h => h) (Or.inr ⟨by rfl, rfl⟩) ?_ ?_
         rotate_left
         ·
          simp only [Act.put, List.setIfInBounds_toArray, List.set_cons_zero, List.set_cons_succ, i64_w, i32_w]
          rfl
         refine pure_ (i := 31) (N := some 48) (v := undef) (a' := ?_) q86_41 rfl rfl (yac HT_.out (by kernel_rfl)) (fun _ _ _ h => h) (Or.inr ⟨by rfl, rfl⟩) ?_ ?_
         rotate_left
         ·
          simp only [Act.put, List.setIfInBounds_toArray, List.set_cons_zero, List.set_cons_succ, i64_w, i32_w]
          rfl
         refine pure_ (i := 32) (N := some 49) (v := undef) (a' := ?_) q86_42 rfl rfl (yac HT_.out (by kernel_rfl)) (fun _ _ _ h => h) (Or.inr ⟨by rfl, rfl⟩) ?_ ?_
         rotate_left
         ·
          simp only [Act.put, List.setIfInBounds_toArray, List.set_cons_zero, List.set_cons_succ, i64_w, i32_w]
          rfl
         refine pure_ (i := 33) (N := some 50) (v := undef) (a' := ?_) q86_34 rfl rfl (yac HT_.out (by kernel_rfl)) (fun _ _ _ h => h) (Or.inr ⟨by rfl, rfl⟩) ?_ ?_
         rotate_left
         ·
          simp only [Act.put, List.setIfInBounds_toArray, List.set_cons_zero, List.set_cons_succ, i64_w, i32_w]
          rfl
         refine pure_ (i := 34) (N := some 51) (v := undef) (a' := ?_) q86_35 rfl rfl (yac HT_.out (by kernel_rfl)) (fun _ _ _ h => h) (Or.inr ⟨by rfl, rfl⟩) ?_ ?_
         rotate_left
         ·
          simp only [Act.put, List.setIfInBounds_toArray, List.set_cons_zero, List.set_cons_succ, i64_w, i32_w]
          rfl
         refine pure_ (i := 35) (N := some 52) (v := undef) (a' := ?_) q86_36 rfl rfl (yac HT_.out (by kernel_rfl)) (fun _ _ _ h => h) (Or.inr ⟨by rfl, rfl⟩) ?_ ?_
         rotate_left
         ·
          simp only [Act.put, List.setIfInBounds_toArray, List.set_cons_zero, List.set_cons_succ, i64_w, i32_w]
          rfl
         refine pure_ (i := 36) (N := some 53) (v := undef) (a' := ?_) q86_37 rfl rfl (yac HT_.out (by kernel_rfl)) (fun _ _ _ h => h) (Or.inr ⟨by rfl, rfl⟩) ?_ ?_
         rotate_left
         ·
          simp only [Act.put, List.setIfInBounds_toArray, List.set_cons_zero, List.set_cons_succ, i64_w, i32_w]
          rfl
         refine pz_ 37 54 q86_38 HT_ (by kernel_rfl) ?_
         refine done_ (done_of HT_.out (by kernel_rfl)) ?_
         try go_wp2
         go_ret
         exact ⟨by first | rfl | (simp [*, errW_none, errW_some] <;> rfl), upH HB.out⟩
       ·
        rw [if_neg c7] at H
        have h2 : (((yaa l0 a2).f0) == ((yaa l1 a2).f0)) = false := beq_eq_false_iff_ne.mpr c7; have h3 : (((yaa l0 a2).f0) != ((yaa l1 a2).f0)) = true := bne_iff_ne.mpr c7; obtain rfl := Option.some.inj H
        try go_wp2
        replace HB := yab (below_drew1 HB.out)
        have p101 : 0 ≤ (a2 : Int) := of_decide_eq_true (by first | (with_reducible assumption) | assumption)
        have q101 : a2 < (l0.length : Int) := of_decide_eq_true (by first | (with_reducible assumption) | assumption)
        obtain ⟨ad101, d7, d8, f4, a5, a6, a3, hl101_2, hi101_2⟩ := at_T158 HR0.out a2 p101 q101; have b5 := a3; have b6 := a6; have b7 := a5
        cases f4
        replace a5 := (HB.out.cell (World.block_lt_of_cell? w _ a5)).trans a5; replace a6 := (HB.out.cell (World.block_lt_of_cell? w _ a6)).trans a6; replace a3 := (HB.out.cell (World.block_lt_of_cell? w _ a3)).trans a3; have HR101_2 := yab hi101_2; have HC101_2 := yab hl101_2; clear hi101_2 hl101_2; replace p101 := eq_true p101; replace q101 := eq_true q101
        have p102 : 0 ≤ (a2 : Int) := of_decide_eq_true (by first | (with_reducible assumption) | assumption)
        have q102 : a2 < (l1.length : Int) := of_decide_eq_true (by first | (with_reducible assumption) | assumption)
        obtain ⟨ad102, d9, e0, f5, a7, a8, a4, hl102_2, hi102_2⟩ := at_T158 HR1.out a2 p102 q102; have b8 := a4; have b9 := a8; have c2 := a7
        cases f5
        replace a7 := (HB.out.cell (World.block_lt_of_cell? w _ a7)).trans a7; replace a8 := (HB.out.cell (World.block_lt_of_cell? w _ a8)).trans a8; replace a4 := (HB.out.cell (World.block_lt_of_cell? w _ a4)).trans a4; have HR102_2 := yab hi102_2; have HC102_2 := yab hl102_2; clear hi102_2 hl102_2; replace p102 := eq_true p102; replace q102 := eq_true q102
        refine start_ (n := 38) (S := fun w' => w'.cell? (ad101.add ((a2).toNat * 3)) = some (.int .i64 ((yaa l0 a2).f0)) ∧ w'.cell? ⟨(ad101.add ((a2).toNat * 3)).block, (ad101.add ((a2).toNat * 3)).off + 1, none⟩ = some (.int .i64 ((yaa l0 a2).f1)) ∧ w'.cell? ⟨(ad101.add ((a2).toNat * 3)).block, (ad101.add ((a2).toNat * 3)).off + 2, none⟩ = some (.slice d7 ((yaa l0 a2).f2).length d8) ∧ w'.cell? (ad102.add ((a2).toNat * 3)) = some (.int .i64 ((yaa l1 a2).f0)) ∧ w'.cell? ⟨(ad102.add ((a2).toNat * 3)).block, (ad102.add ((a2).toNat * 3)).off + 1, none⟩ = some (.int .i64 ((yaa l1 a2).f1)) ∧ w'.cell? ⟨(ad102.add ((a2).toNat * 3)).block, (ad102.add ((a2).toNat * 3)).off + 2, none⟩ = some (.slice d9 ((yaa l1 a2).f2).length e0)) (ds := []) q86_0 (by kernel_rfl) rfl rfl ⟨((HB.out.cell (World.block_lt_of_cell? w _ b7)).trans b7), ((HB.out.cell (World.block_lt_of_cell? w _ b6)).trans b6), ((HB.out.cell (World.block_lt_of_cell? w _ b5)).trans b5), ((HB.out.cell (World.block_lt_of_cell? w _ c2)).trans c2), ((HB.out.cell (World.block_lt_of_cell? w _ b9)).trans b9), ((HB.out.cell (World.block_lt_of_cell? w _ b8)).trans b8)⟩ (fun hHeld => ?_); refine with_tabW laws_eaOuts.tab6 laws_eaOuts.bits6 (fun HT_ HW_ => ?_)
        generalize wr.drew = w14 at HB HR101_2 HR102_2 a5 a6 a3 a7 a8 a4 hHeld ⊢
        refine pz_ 0 17 q86_1 HT_ (by kernel_rfl) ?_
        refine pz_ 1 18 q86_2 HT_ (by kernel_rfl) ?_
        refine pz_ 2 19 q86_3 HT_ (by kernel_rfl) ?_
        refine pz_ 3 20 q86_4 HT_ (by kernel_rfl) ?_
        refine pz_ 5 22 q86_5 HT_ (by kernel_rfl) ?_
        refine pz_ 6 23 q86_6 HT_ (by kernel_rfl) ?_
        refine pz_ 7 24 q86_7 HT_ (by kernel_rfl) ?_
        refine pz_ 8 25 q86_8 HT_ (by kernel_rfl) ?_
        refine tz_ 4 21 q86_9 HT_ HW_ (by kernel_rfl) hHeld ?_
        refine tz_ 9 26 q86_10 HT_ HW_ (by kernel_rfl) hHeld ?_
        refine pz_ 10 27 q86_11 HT_ (by kernel_rfl) ?_
        refine pz_ 11 28 q86_12 HT_ (by kernel_rfl) ?_
        refine pure_ (i := 12) (N := some 29) (v := undef) (a' := ?_) q86_13 rfl rfl (yac HT_.out (by kernel_rfl)) (fun _ _ _ h => h) (Or.inr ⟨by rfl, rfl⟩) ?_ ?_
        rotate_left
        ·
         simp only [Act.put, List.setIfInBounds_toArray, List.set_cons_zero, List.set_cons_succ, i64_w, i32_w]
         rfl
        refine pure_ (i := 13) (N := some 30) (v := undef) (a' := ?_) q86_14 rfl rfl (yac HT_.out (by kernel_rfl)) (fun _ _ _ h => h) (Or.inr ⟨by rfl, rfl⟩) ?_ ?_
        rotate_left
        ·
         simp only [Act.put, List.setIfInBounds_toArray, List.set_cons_zero, List.set_cons_succ, i64_w, i32_w]
         rfl
        refine pure_ (i := 14) (N := some 31) (v := undef) (a' := ?_) q86_15 rfl rfl (yac HT_.out (by kernel_rfl)) (fun _ _ _ h => h) (Or.inr ⟨by rfl, rfl⟩) ?_ ?_
        rotate_left
        ·
         simp only [Act.put, List.setIfInBounds_toArray, List.set_cons_zero, List.set_cons_succ, i64_w, i32_w]
         rfl
        refine pure_ (i := 15) (N := some 32) (v := undef) (a' := ?_) q86_16 rfl rfl (yac HT_.out (by kernel_rfl)) (fun _ _ _ h => h) (Or.inr ⟨by rfl, rfl⟩) ?_ ?_
        rotate_left
        ·
         simp only [Act.put, List.setIfInBounds_toArray, List.set_cons_zero, List.set_cons_succ, i64_w, i32_w]
         rfl
        refine pure_ (i := 16) (N := some 33) (v := undef) (a' := ?_) q86_43 rfl rfl (yac HT_.out (by kernel_rfl)) (fun _ _ _ h => h) (Or.inr ⟨by rfl, rfl⟩) ?_ ?_
        rotate_left
        ·
         simp only [Act.put, List.setIfInBounds_toArray, List.set_cons_zero, List.set_cons_succ, i64_w, i32_w]
         rfl
        refine pure_ (i := 17) (N := some 34) (v := undef) (a' := ?_) q86_44 rfl rfl (yac HT_.out (by kernel_rfl)) (fun _ _ _ h => h) (Or.inr ⟨by rfl, rfl⟩) ?_ ?_
        rotate_left
        ·
         simp only [Act.put, List.setIfInBounds_toArray, List.set_cons_zero, List.set_cons_succ, i64_w, i32_w]
         rfl
        refine pure_ (i := 18) (N := some 35) (v := undef) (a' := ?_) q86_45 rfl rfl (yac HT_.out (by kernel_rfl)) (fun _ _ _ h => h) (Or.inr ⟨by rfl, rfl⟩) ?_ ?_
        rotate_left
        ·
         simp only [Act.put, List.setIfInBounds_toArray, List.set_cons_zero, List.set_cons_succ, i64_w, i32_w]
         rfl
        refine pure_ (i := 19) (N := some 36) (v := undef) (a' := ?_) q86_46 rfl rfl (yac HT_.out (by kernel_rfl)) (fun _ _ _ h => h) (Or.inr ⟨by rfl, rfl⟩) ?_ ?_
        rotate_left
        ·
         simp only [Act.put, List.setIfInBounds_toArray, List.set_cons_zero, List.set_cons_succ, i64_w, i32_w]
         rfl
        refine pure_ (i := 20) (N := some 37) (v := undef) (a' := ?_) q86_21 rfl rfl (yac HT_.out (by kernel_rfl)) (fun _ _ _ h => h) (Or.inr ⟨by rfl, rfl⟩) ?_ ?_
        rotate_left
        ·
         simp only [Act.put, List.setIfInBounds_toArray, List.set_cons_zero, List.set_cons_succ, i64_w, i32_w]
         rfl
        refine pure_ (i := 21) (N := some 38) (v := undef) (a' := ?_) q86_22 rfl rfl (yac HT_.out (by kernel_rfl)) (fun _ _ _ h => h) (Or.inr ⟨by rfl, rfl⟩) ?_ ?_
        rotate_left
        ·
         simp only [Act.put, List.setIfInBounds_toArray, List.set_cons_zero, List.set_cons_succ, i64_w, i32_w]
         rfl
        refine pure_ (i := 22) (N := some 39) (v := undef) (a' := ?_) q86_23 rfl rfl (yac HT_.out (by kernel_rfl)) (fun _ _ _ h => h) (Or.inr ⟨by rfl, rfl⟩) ?_ ?_
        rotate_left
        ·
         simp only [Act.put, List.setIfInBounds_toArray, List.set_cons_zero, List.set_cons_succ, i64_w, i32_w]
         rfl
        refine pz_ 23 40 q86_24 HT_ (by kernel_rfl) ?_
        refine pz_ 24 41 q86_25 HT_ (by kernel_rfl) ?_
        refine pure_ (i := 25) (N := some 42) (v := undef) (a' := ?_) q86_26 rfl rfl (yac HT_.out (by kernel_rfl)) (fun _ _ _ h => h) (Or.inr ⟨by rfl, rfl⟩) ?_ ?_
        rotate_left
        ·
         simp only [Act.put, List.setIfInBounds_toArray, List.set_cons_zero, List.set_cons_succ, i64_w, i32_w]
         rfl
        refine pure_ (i := 26) (N := some 43) (v := undef) (a' := ?_) q86_27 rfl rfl (yac HT_.out (by kernel_rfl)) (fun _ _ _ h => h) (Or.inr ⟨by rfl, rfl⟩) ?_ ?_
        rotate_left
        ·
         simp only [Act.put, List.setIfInBounds_toArray, List.set_cons_zero, List.set_cons_succ, i64_w, i32_w]
         rfl
        refine pure_ (i := 27) (N := some 44) (v := undef) (a' := ?_) q86_28 rfl rfl (yac HT_.out (by kernel_rfl)) (fun _ _ _ h => h) (Or.inr ⟨by rfl, rfl⟩) ?_ ?_
        rotate_left
        ·
         simp only [Act.put, List.setIfInBounds_toArray, List.set_cons_zero, List.set_cons_succ, i64_w, i32_w]
         rfl
        refine pure_ (i := 28) (N := some 45) (v := undef) (a' := ?_) q86_29 rfl rfl (yac HT_.out (by kernel_rfl)) (fun _ _ _ h => h) (Or.inr ⟨by rfl, rfl⟩) ?_ ?_
        rotate_left
        ·
         simp only [Act.put, List.setIfInBounds_toArray, List.set_cons_zero, List.set_cons_succ, i64_w, i32_w]
         rfl
        refine pure_ (i := 29) (N := some 46) (v := undef) (a' := ?_) q86_39 rfl rfl (yac HT_.out (by kernel_rfl)) (fun _ _ _ h => h) (Or.inr ⟨by rfl, rfl⟩) ?_ ?_
        rotate_left
        ·
         simp only [Act.put, List.setIfInBounds_toArray, List.set_cons_zero, List.set_cons_succ, i64_w, i32_w]
         rfl
        refine pure_ (i := 30) (N := some 47) (v := undef) (a' := ?_) q86_40 rfl rfl (yac HT_.out (by kernel_rfl)) (fun _ _ _ h => h) (Or.inr ⟨by rfl, rfl⟩) ?_ ?_
        rotate_left
        ·
         simp only [Act.put, List.setIfInBounds_toArray, List.set_cons_zero, List.set_cons_succ, i64_w, i32_w]
         rfl
        refine pure_ (i := 31) (N := some 48) (v := undef) (a' := ?_) q86_41 rfl rfl (yac HT_.out (by kernel_rfl)) (fun _ _ _ h => h) (Or.inr ⟨by rfl, rfl⟩) ?_ ?_
        rotate_left
        ·
         simp only [Act.put, List.setIfInBounds_toArray, List.set_cons_zero, List.set_cons_succ, i64_w, i32_w]
         rfl
        refine pure_ (i := 32) (N := some 49) (v := undef) (a' := ?_) q86_42 rfl rfl (yac HT_.out (by kernel_rfl)) (fun _ _ _ h => h) (Or.inr ⟨by rfl, rfl⟩) ?_ ?_
        rotate_left
        ·
         simp only [Act.put, List.setIfInBounds_toArray, List.set_cons_zero, List.set_cons_succ, i64_w, i32_w]
         rfl
        refine pure_ (i := 33) (N := some 50) (v := undef) (a' := ?_) q86_34 rfl rfl (yac HT_.out (by kernel_rfl)) (fun _ _ _ h => h) (Or.inr ⟨by rfl, rfl⟩) ?_ ?_
        rotate_left
        ·
         simp only [Act.put, List.setIfInBounds_toArray, List.set_cons_zero, List.set_cons_succ, i64_w, i32_w]
         rfl
        refine pure_ (i := 34) (N := some 51) (v := undef) (a' := ?_) q86_35 rfl rfl (yac HT_.out (by kernel_rfl)) (fun _ _ _ h => h) (Or.inr ⟨by rfl, rfl⟩) ?_ ?_
        rotate_left
        ·
         simp only [Act.put, List.setIfInBounds_toArray, List.set_cons_zero, List.set_cons_succ, i64_w, i32_w]
         rfl
        refine pure_ (i := 35) (N := some 52) (v := undef) (a' := ?_) q86_36 rfl rfl (yac HT_.out (by kernel_rfl)) (fun _ _ _ h => h) (Or.inr ⟨by rfl, rfl⟩) ?_ ?_
        rotate_left
        ·
         simp only [Act.put, List.setIfInBounds_toArray, List.set_cons_zero, List.set_cons_succ, i64_w, i32_w]
         rfl
        refine pure_ (i := 36) (N := some 53) (v := undef) (a' := ?_) q86_37 rfl rfl (yac HT_.out (by kernel_rfl)) (fun _ _ _ h => h) (Or.inr ⟨by rfl, rfl⟩) ?_ ?_
        rotate_left
        ·
         simp only [Act.put, List.setIfInBounds_toArray, List.set_cons_zero, List.set_cons_succ, i64_w, i32_w]
         rfl
        refine pz_ 37 54 q86_38 HT_ (by kernel_rfl) ?_
        refine done_ (done_of HT_.out (by kernel_rfl)) ?_
        try go_wp2
        go_ret
        exact ⟨by first | rfl | (simp [*, errW_none, errW_some] <;> rfl), upH HB.out⟩
      ·
       rw [if_neg c6] at H
       exact absurd H (by simp)
     ·
      rw [if_neg c5] at H
      exact absurd H (by simp)
    ·
     rw [if_neg c4] at H
     have h1 : decide (a2 < (l0.length : Int)) = false := decide_eq_false c4; clear c4; obtain rfl := Option.some.inj H
     go_wp2
     go_ret
     exact ⟨by first | rfl | (simp [*, errW_none, errW_some] <;> rfl), upH HB.out⟩
 ·
  rw [if_neg c3] at H
  have g8 : ((l0.length : Int) == (l1.length : Int)) = false := beq_eq_false_iff_ne.mpr c3; have g9 : ((l0.length : Int) != (l1.length : Int)) = true := bne_iff_ne.mpr c3
  have h0 : (l0.length == l1.length) = false := by first | simpa using c3 | (simp at c3 ⊢; omega)
  obtain rfl := Option.some.inj H
  go_enter Try.func86, Try.ntmps86
  go_wp2
  go_ret
  exact ⟨by first | rfl | (simp [*, errW_none, errW_some] <;> rfl), upH HB.out⟩

end Go.Proofs.Ytgpkkkmapgnhkaa.X

namespace Go.Proofs.Ytgpkkkmapgnhkaa.X
open Go.RowKit Go.Proofs.YtgpkkkmapgnhkaaW.PrintWords Go.Proofs.YtgpkkkmapgnhkaaW.PrintLast Go.Proofs.YtgpkkkmapgnhkaaW.PrintMore
attribute [local go_sem] max2_int min2_int max_two min_two max_three min_three max_four min_four
set_option linter.unusedVariables false
set_option linter.unusedSimpArgs false

theorem eqA146 (d : Nat) (w : World) (x0 y0 : Int) (x1 y1 : Int) (x2 y2 : Int) (x3 y3 : Int) (x4 y4 : Int) :
    (Op.equalIn (d + 2) 146 (.agg #[.int .i64 x0, .int .i64 x1, .int .i64 x2, .int .i64 x3, .int .i64 x4]) (.agg #[.int .i64 y0, .int .i64 y1, .int .i64 y2, .int .i64 y3, .int .i64 y4])).run Try.prog w = .ok (x0 == y0 && (x1 == y1 && (x2 == y2 && (x3 == y3 && (x4 == y4))))) w := by
  refine eqA_of Try.underlying146 (by kernel_rfl) ?_
  refine eqf_cons (by rfl) (by go_simp; rfl) (by go_simp; rfl) (by go_simp) ?_
  refine eqf_cons (by rfl) (by go_simp; rfl) (by go_simp; rfl) (by go_simp) ?_
  refine eqf_cons (by rfl) (by go_simp; rfl) (by go_simp; rfl) (by go_simp) ?_
  refine eqf_cons (by rfl) (by go_simp; rfl) (by go_simp; rfl) (by go_simp) ?_
  exact eqf_last (by rfl) (by go_simp; rfl) (by go_simp; rfl) (by go_simp)
end Go.Proofs.Ytgpkkkmapgnhkaa.X

namespace Go.Proofs.Ytgpkkkmapgnhkaa.X
open Go.RowKit Go.Proofs.YtgpkkkmapgnhkaaW.PrintWords Go.Proofs.YtgpkkkmapgnhkaaW.PrintLast Go.Proofs.YtgpkkkmapgnhkaaW.PrintMore
attribute [local go_sem] max2_int min2_int max_two min_two max_three min_three max_four min_four
set_option linter.unusedVariables false
set_option linter.unusedSimpArgs false

attribute [local go_sem high] eqA146
open Go.Proofs.Ytgpkkkmapgnhkaa.X renaming rd_T146 → yaa

/-! ### laws_eaOps: function 87 -/
def laws_eaOps.l0 : Nat → List (S146) → List (S146) → Int → Option (Bool)
 | 0, _, _, _ => none
 | k + 1, x0, x1, x5 => if x5 < (x0.length : Int) then (if 0 ≤ x5 then (if x5 < (x1.length : Int) then (if (!(((rd_T146 x0 x5).f0) == ((rd_T146 x1 x5).f0)) || (!(((rd_T146 x0 x5).f1) == ((rd_T146 x1 x5).f1)) || (!(((rd_T146 x0 x5).f2) == ((rd_T146 x1 x5).f2)) || (!(((rd_T146 x0 x5).f3) == ((rd_T146 x1 x5).f3)) || (!(((rd_T146 x0 x5).f4) == ((rd_T146 x1 x5).f4))))))) = true then (some false) else (laws_eaOps.l0 k x0 x1 (wrap64 (x5 + 1)))) else (none)) else (none)) else (some true)
def laws_eaOps.f (k : Nat) (l0 : List (S146)) (l1 : List (S146)) : Option (Bool) := if (l0.length : Int) = (l1.length : Int) then (laws_eaOps.l0 k l0 l1 0) else (some false)
set_option maxHeartbeats 8000000 in
set_option maxRecDepth 100000 in
theorem laws_eaOps.calls (k : Nat) (A0 : Option Addr) (c0 : Nat) (l0 : List (S146)) (A1 : Option Addr) (c1 : Nat) (l1 : List (S146)) (r : Bool) (w : World) (hr0 : Kd.C k146 w A0 l0.length l0) (hc0 : l0.length ≤ c0) (hr1 : Kd.C k146 w A1 l1.length l1) (hc1 : l1.length ≤ c1) (h : laws_eaOps.f k l0 l1 = some r) :
  Calls Try.prog 87 #[.slice A0 l0.length c0, .slice A1 l1.length c1] w fun e w' => e = .returned (.bool r) ∧ Drawn0 w w' := by
 have hu146 := Try.underlying146; have HR0 := Aside0.mk hr0; have HC0 := Aside0.mk hc0; clear hr0 hc0; have HR1 := Aside0.mk hr1; have HC1 := Aside0.mk hc1; clear hr1 hc1; have H : (if (l0.length : Int) = (l1.length : Int) then (laws_eaOps.l0 k l0 l1 0) else (some false)) = some r := h; clear h
 by_cases c3 : (l0.length : Int) = (l1.length : Int)
 ·
  rw [if_pos c3] at H
  have b5 : ((l0.length : Int) == (l1.length : Int)) = true := beq_iff_eq.mpr c3; have b6 : ((l0.length : Int) != (l1.length : Int)) = false := bne_eq_false_iff_eq.mpr c3
  have b7 : (l0.length == l1.length) = true := by first | simpa using c3 | (simp at c3 ⊢; omega)
  clear c3; have H' := Aside0.mk H; clear H
  go_enter Try.func87, Try.ntmps87
  go_wp2
  repeat (go_quiet (fail); try go_wp2)
  (try simp only [Act.put, List.setIfInBounds_toArray, List.set_cons_zero, List.set_cons_succ])
  go_loopg [5] k (fun kq v5 w' => ∃ (a2 : Int), v5 = .int .i64 a2 ∧ Aside0 (laws_eaOps.l0 kq l0 l1 a2 = some r) ∧ Aside0 (kq ≤ k) ∧ Drawn0 w w')
  case atStart => exact ⟨(0), (by first | rfl | (simp; done) | (simp [*]; done)), H', ⟨Nat.le_refl _⟩, by repeat (first | exact Drawn0.refl _ | apply Drawn0.step)⟩
  case round =>
   clear H'; (try clear c1); (try clear p2); (try clear c3); (try clear b5); (try clear b6); (try clear b7); obtain ⟨a2, rfl, HA, HK1, ⟨m1, rfl⟩⟩ := hrel
   cases gk with
   | zero => exact absurd HA.out (by simp [laws_eaOps.l0])
   | succ k1 =>
    have H := HA.out; clear HA
    simp only [laws_eaOps.l0] at H
    by_cases c4 : a2 < (l0.length : Int)
    ·
     rw [if_pos c4] at H
     have b8 : decide (a2 < (l0.length : Int)) = true := decide_eq_true c4; clear c4
     by_cases c5 : 0 ≤ a2
     ·
      rw [if_pos c5] at H
      have c2 : decide (0 ≤ a2) = true := decide_eq_true c5; clear c5
      by_cases c6 : a2 < (l1.length : Int)
      ·
       rw [if_pos c6] at H
       have c8 : decide (a2 < (l1.length : Int)) = true := decide_eq_true c6; clear c6
       by_cases c7 : (!(((yaa l0 a2).f0) == ((yaa l1 a2).f0)) || (!(((yaa l0 a2).f1) == ((yaa l1 a2).f1)) || (!(((yaa l0 a2).f2) == ((yaa l1 a2).f2)) || (!(((yaa l0 a2).f3) == ((yaa l1 a2).f3)) || (!(((yaa l0 a2).f4) == ((yaa l1 a2).f4))))))) = true
       ·
        rw [if_pos c7] at H
        have b9 : (!(((yaa l0 a2).f0) == ((yaa l1 a2).f0)) || (!(((yaa l0 a2).f1) == ((yaa l1 a2).f1)) || (!(((yaa l0 a2).f2) == ((yaa l1 a2).f2)) || (!(((yaa l0 a2).f3) == ((yaa l1 a2).f3)) || (!(((yaa l0 a2).f4) == ((yaa l1 a2).f4))))))) = true := c7; clear c7; obtain rfl := Option.some.inj H
        have p101 : 0 ≤ (a2 : Int) := of_decide_eq_true (by first | (with_reducible assumption) | assumption)
        have q101 : a2 < (l0.length : Int) := of_decide_eq_true (by first | (with_reducible assumption) | assumption)
        obtain ⟨ad101, b3, a3, a4, a5, a6, a7⟩ := at_T146 HR0.out a2 p101 q101
        cases b3
        replace p101 := eq_true p101; replace q101 := eq_true q101
        have p102 : 0 ≤ (a2 : Int) := of_decide_eq_true (by first | (with_reducible assumption) | assumption)
        have q102 : a2 < (l1.length : Int) := of_decide_eq_true (by first | (with_reducible assumption) | assumption)
        obtain ⟨ad102, b4, a8, a9, b0, b1, b2⟩ := at_T146 HR1.out a2 p102 q102
        cases b4
        replace p102 := eq_true p102; replace q102 := eq_true q102
        go_wp2
        repeat (go_quiet (fail); try go_wp2)
        go_ret
        exact ⟨by first | rfl | (simp; done) | (simp [*]; done), by repeat (first | exact Drawn0.refl _ | apply Drawn0.step)⟩
       ·
        rw [if_neg c7] at H
        have b9 : (!(((yaa l0 a2).f0) == ((yaa l1 a2).f0)) || (!(((yaa l0 a2).f1) == ((yaa l1 a2).f1)) || (!(((yaa l0 a2).f2) == ((yaa l1 a2).f2)) || (!(((yaa l0 a2).f3) == ((yaa l1 a2).f3)) || (!(((yaa l0 a2).f4) == ((yaa l1 a2).f4))))))) = false := (by simpa using c7); clear c7; have H' := Aside0.mk H; clear H
        have p101 : 0 ≤ (a2 : Int) := of_decide_eq_true (by first | (with_reducible assumption) | assumption)
        have q101 : a2 < (l0.length : Int) := of_decide_eq_true (by first | (with_reducible assumption) | assumption)
        obtain ⟨ad101, b3, a3, a4, a5, a6, a7⟩ := at_T146 HR0.out a2 p101 q101
        cases b3
        replace p101 := eq_true p101; replace q101 := eq_true q101
        have p102 : 0 ≤ (a2 : Int) := of_decide_eq_true (by first | (with_reducible assumption) | assumption)
        have q102 : a2 < (l1.length : Int) := of_decide_eq_true (by first | (with_reducible assumption) | assumption)
        obtain ⟨ad102, b4, a8, a9, b0, b1, b2⟩ := at_T146 HR1.out a2 p102 q102
        cases b4
        replace p102 := eq_true p102; replace q102 := eq_true q102
        go_wp2
        repeat (go_quiet (fail); try go_wp2)
        go_roundg k1
        case measure => have := HK1.out; omega
        case rel => exact ⟨(wrap64 (a2 + 1)), (by first | rfl | (simp; done) | (simp [*]; done)), H', ⟨by have := HK1.out; omega⟩, by repeat (first | exact Drawn0.refl _ | apply Drawn0.step)⟩
      ·
       rw [if_neg c6] at H
       exact absurd H (by simp)
     ·
      rw [if_neg c5] at H
      exact absurd H (by simp)
    ·
     rw [if_neg c4] at H
     have b8 : decide (a2 < (l0.length : Int)) = false := decide_eq_false c4; clear c4; obtain rfl := Option.some.inj H
     go_wp2
     repeat (go_quiet (fail); try go_wp2)
     go_ret
     exact ⟨by first | rfl | (simp; done) | (simp [*]; done), by repeat (first | exact Drawn0.refl _ | apply Drawn0.step)⟩
 ·
  rw [if_neg c3] at H
  have b5 : ((l0.length : Int) == (l1.length : Int)) = false := beq_eq_false_iff_ne.mpr c3; have b6 : ((l0.length : Int) != (l1.length : Int)) = true := bne_iff_ne.mpr c3
  have b7 : (l0.length == l1.length) = false := by first | simpa using c3 | (simp at c3 ⊢; omega)
  obtain rfl := Option.some.inj H
  go_enter Try.func87, Try.ntmps87
  go_wp2
  repeat (go_quiet (fail); try go_wp2)
  go_ret
  exact ⟨by first | rfl | (simp; done) | (simp [*]; done), by repeat (first | exact Drawn0.refl _ | apply Drawn0.step)⟩

end Go.Proofs.Ytgpkkkmapgnhkaa.X

namespace Go.Proofs.Ytgpkkkmapgnhkaa.X
open Go.RowKit Go.Proofs.YtgpkkkmapgnhkaaW.PrintWords Go.Proofs.YtgpkkkmapgnhkaaW.PrintLast Go.Proofs.YtgpkkkmapgnhkaaW.PrintMore
attribute [local go_sem] max2_int min2_int max_two min_two max_three min_three max_four min_four
set_option linter.unusedVariables false
set_option linter.unusedSimpArgs false

open Go.Proofs.YtgpkkkmapgnhkaaW.PrintWords renaming blk_frozen → yaa, blk_cell → yab, add_block → yac, pw_below_drewN → yaf, cell_far → yag, below_alloc → yah, below_drew1 → yai, below_set → yaj, blk_below → yak, blk_put → yal, below_step → yam
open Go.Proofs.YtgpkkkmapgnhkaaW.PrintWords.Aside0 renaming mk → yad
open Go.Proofs.Ytgpkkkmapgnhkaa.X renaming rd_T124 → yae
open Go.Proofs.YtgpkkkmapgnhkaaW.PrintWords.Kd renaming C_below → yan

/-! ### laws_eaTen: function 37 -/
mutual
def laws_eaTen.j0 : Nat → Bool → Int → Int → Int → Int → List (S124) → List (S156) → List ByteArray → List (S158) → Int → Int → Int → Int → List (S124) → List (S156) → List ByteArray → List (S158) → Option (Bool)
 | 0, _, _, _, _, _, _, _, _, _, _, _, _, _, _, _, _, _ => none
 | k + 1, x66, x102000, x102001, x102002, x102003, x102004, x102005, x102006, x102007, x103000, x103001, x103002, x103003, x103004, x103005, x103006, x103007 => if x66 = true then (some false) else (laws_eaTen.l0 k 0 x102000 x102001 x102002 x102003 x102004 x102005 x102006 x102007 x103000 x103001 x103002 x103003 x103004 x103005 x103006 x103007)
def laws_eaTen.l0 : Nat → Int → Int → Int → Int → Int → List (S124) → List (S156) → List ByteArray → List (S158) → Int → Int → Int → Int → List (S124) → List (S156) → List ByteArray → List (S158) → Option (Bool)
 | 0, _, _, _, _, _, _, _, _, _, _, _, _, _, _, _, _, _ => none
 | k + 1, x5, x102000, x102001, x102002, x102003, x102004, x102005, x102006, x102007, x103000, x103001, x103002, x103003, x103004, x103005, x103006, x103007 => if x5 < (x102004.length : Int) then (if 0 ≤ x5 then (if x5 < (x103004.length : Int) then (if ((rd_T124 x102004 x5).f0) = ((rd_T124 x103004 x5).f0) then (if ((rd_T124 x102004 x5).f1).toList = ((rd_T124 x103004 x5).f1).toList then (if ((rd_T124 x102004 x5).f3) = ((rd_T124 x103004 x5).f3) then ((laws_eaOps.f k ((rd_T124 x102004 x5).f2) ((rd_T124 x103004 x5).f2)).bind fun t110 => (if t110 = true then (laws_eaTen.l0 k (wrap64 (x5 + 1)) x102000 x102001 x102002 x102003 x102004 x102005 x102006 x102007 x103000 x103001 x103002 x103003 x103004 x103005 x103006 x103007) else (some false))) else (some false)) else (some false)) else (some false)) else (none)) else (none)) else (some true)
end
def laws_eaTen.f (k : Nat) (a0_0 : Int) (a0_1 : Int) (a0_2 : Int) (a0_3 : Int) (l0_4 : List (S124)) (l0_5 : List (S156)) (l0_6 : List ByteArray) (l0_7 : List (S158)) (a1_0 : Int) (a1_1 : Int) (a1_2 : Int) (a1_3 : Int) (l1_4 : List (S124)) (l1_5 : List (S156)) (l1_6 : List ByteArray) (l1_7 : List (S158)) : Option (Bool) := if a0_0 = a1_0 then (if a0_1 = a1_1 then (if a0_2 = a1_2 then (if a0_3 = a1_3 then (if (l0_4.length : Int) = (l1_4.length : Int) then ((laws_eaFiles.f k l0_5 l1_5).bind fun t103 => (if t103 = true then ((laws_eaTexts.f k l0_6 l1_6).bind fun t104 => (if t104 = true then ((laws_eaOuts.f k l0_7 l1_7).bind fun t105 => (laws_eaTen.j0 k (!t105) a0_0 a0_1 a0_2 a0_3 l0_4 l0_5 l0_6 l0_7 a1_0 a1_1 a1_2 a1_3 l1_4 l1_5 l1_6 l1_7)) else (laws_eaTen.j0 k true a0_0 a0_1 a0_2 a0_3 l0_4 l0_5 l0_6 l0_7 a1_0 a1_1 a1_2 a1_3 l1_4 l1_5 l1_6 l1_7))) else (laws_eaTen.j0 k true a0_0 a0_1 a0_2 a0_3 l0_4 l0_5 l0_6 l0_7 a1_0 a1_1 a1_2 a1_3 l1_4 l1_5 l1_6 l1_7))) else (laws_eaTen.j0 k true a0_0 a0_1 a0_2 a0_3 l0_4 l0_5 l0_6 l0_7 a1_0 a1_1 a1_2 a1_3 l1_4 l1_5 l1_6 l1_7)) else (laws_eaTen.j0 k true a0_0 a0_1 a0_2 a0_3 l0_4 l0_5 l0_6 l0_7 a1_0 a1_1 a1_2 a1_3 l1_4 l1_5 l1_6 l1_7)) else (laws_eaTen.j0 k true a0_0 a0_1 a0_2 a0_3 l0_4 l0_5 l0_6 l0_7 a1_0 a1_1 a1_2 a1_3 l1_4 l1_5 l1_6 l1_7)) else (laws_eaTen.j0 k true a0_0 a0_1 a0_2 a0_3 l0_4 l0_5 l0_6 l0_7 a1_0 a1_1 a1_2 a1_3 l1_4 l1_5 l1_6 l1_7)) else (laws_eaTen.j0 k true a0_0 a0_1 a0_2 a0_3 l0_4 l0_5 l0_6 l0_7 a1_0 a1_1 a1_2 a1_3 l1_4 l1_5 l1_6 l1_7)
set_option maxHeartbeats 8000000 in
set_option maxRecDepth 100000 in
theorem laws_eaTen.calls (k : Nat) (a0_0 : Int) (a0_1 : Int) (a0_2 : Int) (a0_3 : Int) (A0_4 : Option Addr) (c0_4 : Nat) (l0_4 : List (S124)) (A0_5 : Option Addr) (c0_5 : Nat) (l0_5 : List (S156)) (A0_6 : Option Addr) (c0_6 : Nat) (l0_6 : List ByteArray) (A0_7 : Option Addr) (c0_7 : Nat) (l0_7 : List (S158)) (a1_0 : Int) (a1_1 : Int) (a1_2 : Int) (a1_3 : Int) (A1_4 : Option Addr) (c1_4 : Nat) (l1_4 : List (S124)) (A1_5 : Option Addr) (c1_5 : Nat) (l1_5 : List (S156)) (A1_6 : Option Addr) (c1_6 : Nat) (l1_6 : List ByteArray) (A1_7 : Option Addr) (c1_7 : Nat) (l1_7 : List (S158)) (r : Bool) (w : World) (hr0_4 : Kd.C k124 w A0_4 l0_4.length l0_4) (hc0_4 : l0_4.length ≤ c0_4) (hr0_5 : Kd.C k156 w A0_5 l0_5.length l0_5) (hc0_5 : l0_5.length ≤ c0_5) (hr0_6 : Kd.C Kd.string w A0_6 l0_6.length l0_6) (hc0_6 : l0_6.length ≤ c0_6) (hr0_7 : Kd.C k158 w A0_7 l0_7.length l0_7) (hc0_7 : l0_7.length ≤ c0_7) (hr1_4 : Kd.C k124 w A1_4 l1_4.length l1_4) (hc1_4 : l1_4.length ≤ c1_4) (hr1_5 : Kd.C k156 w A1_5 l1_5.length l1_5) (hc1_5 : l1_5.length ≤ c1_5) (hr1_6 : Kd.C Kd.string w A1_6 l1_6.length l1_6) (hc1_6 : l1_6.length ≤ c1_6) (hr1_7 : Kd.C k158 w A1_7 l1_7.length l1_7) (hc1_7 : l1_7.length ≤ c1_7) (h : laws_eaTen.f k a0_0 a0_1 a0_2 a0_3 l0_4 l0_5 l0_6 l0_7 a1_0 a1_1 a1_2 a1_3 l1_4 l1_5 l1_6 l1_7 = some r) :
  Calls Try.prog 37 #[.agg #[.int .i64 a0_0, .int .i64 a0_1, .int .i64 a0_2, .int .i64 a0_3, .slice A0_4 l0_4.length c0_4, .slice A0_5 l0_5.length c0_5, .slice A0_6 l0_6.length c0_6, .slice A0_7 l0_7.length c0_7], .agg #[.int .i64 a1_0, .int .i64 a1_1, .int .i64 a1_2, .int .i64 a1_3, .slice A1_4 l1_4.length c1_4, .slice A1_5 l1_5.length c1_5, .slice A1_6 l1_6.length c1_6, .slice A1_7 l1_7.length c1_7]] w fun e w' => e = .returned (.bool r) ∧ Below w.heap.size w w' := by
 have hu63 := Try.underlying63; have hu124 := Try.underlying124; have HR0_4 := yad hr0_4; have HC0_4 := yad hc0_4; clear hr0_4 hc0_4; have HR0_5 := yad hr0_5; have HC0_5 := yad hc0_5; clear hr0_5 hc0_5; have HR0_6 := yad hr0_6; have HC0_6 := yad hc0_6; clear hr0_6 hc0_6; have HR0_7 := yad hr0_7; have HC0_7 := yad hc0_7; clear hr0_7 hc0_7; have HR1_4 := yad hr1_4; have HC1_4 := yad hc1_4; clear hr1_4 hc1_4; have HR1_5 := yad hr1_5; have HC1_5 := yad hc1_5; clear hr1_5 hc1_5; have HR1_6 := yad hr1_6; have HC1_6 := yad hc1_6; clear hr1_6 hc1_6; have HR1_7 := yad hr1_7; have HC1_7 := yad hc1_7; clear hr1_7 hc1_7; have HB := yad (Below.refl w.heap.size w); have H : (if a0_0 = a1_0 then (if a0_1 = a1_1 then (if a0_2 = a1_2 then (if a0_3 = a1_3 then (if (l0_4.length : Int) = (l1_4.length : Int) then ((laws_eaFiles.f k l0_5 l1_5).bind fun O8 => (if O8 = true then ((laws_eaTexts.f k l0_6 l1_6).bind fun O9 => (if O9 = true then ((laws_eaOuts.f k l0_7 l1_7).bind fun O6 => (laws_eaTen.j0 k (!O6) a0_0 a0_1 a0_2 a0_3 l0_4 l0_5 l0_6 l0_7 a1_0 a1_1 a1_2 a1_3 l1_4 l1_5 l1_6 l1_7)) else (laws_eaTen.j0 k true a0_0 a0_1 a0_2 a0_3 l0_4 l0_5 l0_6 l0_7 a1_0 a1_1 a1_2 a1_3 l1_4 l1_5 l1_6 l1_7))) else (laws_eaTen.j0 k true a0_0 a0_1 a0_2 a0_3 l0_4 l0_5 l0_6 l0_7 a1_0 a1_1 a1_2 a1_3 l1_4 l1_5 l1_6 l1_7))) else (laws_eaTen.j0 k true a0_0 a0_1 a0_2 a0_3 l0_4 l0_5 l0_6 l0_7 a1_0 a1_1 a1_2 a1_3 l1_4 l1_5 l1_6 l1_7)) else (laws_eaTen.j0 k true a0_0 a0_1 a0_2 a0_3 l0_4 l0_5 l0_6 l0_7 a1_0 a1_1 a1_2 a1_3 l1_4 l1_5 l1_6 l1_7)) else (laws_eaTen.j0 k true a0_0 a0_1 a0_2 a0_3 l0_4 l0_5 l0_6 l0_7 a1_0 a1_1 a1_2 a1_3 l1_4 l1_5 l1_6 l1_7)) else (laws_eaTen.j0 k true a0_0 a0_1 a0_2 a0_3 l0_4 l0_5 l0_6 l0_7 a1_0 a1_1 a1_2 a1_3 l1_4 l1_5 l1_6 l1_7)) else (laws_eaTen.j0 k true a0_0 a0_1 a0_2 a0_3 l0_4 l0_5 l0_6 l0_7 a1_0 a1_1 a1_2 a1_3 l1_4 l1_5 l1_6 l1_7)) = some r := h; clear h; have HC3 := yad H; clear H
 go_enter Try.func37, Try.ntmps37
 go_upto_region 1 with (first | ((with_reducible refine gate_dst (N := 2) rfl ?_); (try (refine gate_guard (by rfl) ?_; dsimp only)); refine bx_ 2 #[.int .i64 a0_0, .int .i64 a0_1, .int .i64 a0_2, .int .i64 a0_3, .slice A0_4 l0_4.length c0_4, .slice A0_5 l0_5.length c0_5, .slice A0_6 l0_6.length c0_6, .slice A0_7 l0_7.length c0_7] 63 ?_; intro b3 hg w4 hbox hb; have b0 := yad (hbox); have P7 := yad ((by rw [hg]; exact (below_size (upH HB.out)) : w.heap.size ≤ b3)); replace HB := yad (yam (upH HB.out) hb); have iW := P7; clear hb hbox hg) | ((with_reducible refine gate_dst (N := 3) rfl ?_); (try (refine gate_guard (by rfl) ?_; dsimp only)); refine bx_ 3 #[.int .i64 a1_0, .int .i64 a1_1, .int .i64 a1_2, .int .i64 a1_3, .slice A1_4 l1_4.length c1_4, .slice A1_5 l1_5.length c1_5, .slice A1_6 l1_6.length c1_6, .slice A1_7 l1_7.length c1_7] 63 ?_; intro b4 hg w5 hbox hb; have b1 := yad (hbox); have P8 := yad ((by rw [hg]; exact (below_size (by repeat (with_reducible first | exact HB.out | apply yah | apply yaf | apply yai | refine yaj ?_ (Aside0.out ‹_›)))) : w.heap.size ≤ b4)); replace HB := yad (yam (by repeat (with_reducible first | exact HB.out | apply yah | apply yaf | apply yai | refine yaj ?_ (Aside0.out ‹_›))) hb); have iX := P8; have d3 := yad ((by rw [hg]; exact Nat.ne_of_lt (blk_lt (upB b0.out)) : b3 ≠ b4)); replace b0 := yad (yak (upB b0.out) hb); have d6 := yad d3.out.symm; clear hb hbox hg))
 (try simp only [Act.put, List.setIfInBounds_toArray, List.set_cons_zero, List.set_cons_succ])
 go_cut [66] (fun v66 wc => ∃ (kq : Nat) (g2 : Bool), v66 = .bool g2 ∧ Aside0 (laws_eaTen.j0 kq g2 a0_0 a0_1 a0_2 a0_3 l0_4 l0_5 l0_6 l0_7 a1_0 a1_1 a1_2 a1_3 l1_4 l1_5 l1_6 l1_7 = some r) ∧ Aside0 (kq ≤ k) ∧ Aside0 (wc.heap[b3]? = some (.cells #[.int .i64 a0_0, .int .i64 a0_1, .int .i64 a0_2, .int .i64 a0_3, (.slice A0_4 l0_4.length c0_4), (.slice A0_5 l0_5.length c0_5), (.slice A0_6 l0_6.length c0_6), (.slice A0_7 l0_7.length c0_7)] 63 (0, 0))) ∧ Aside0 (wc.heap[b4]? = some (.cells #[.int .i64 a1_0, .int .i64 a1_1, .int .i64 a1_2, .int .i64 a1_3, (.slice A1_4 l1_4.length c1_4), (.slice A1_5 l1_5.length c1_5), (.slice A1_6 l1_6.length c1_6), (.slice A1_7 l1_7.length c1_7)] 63 (0, 0))) ∧ Aside0 (Below w.heap.size w wc))
 case first =>
  have H := HC3.out; clear HC3
  by_cases c6 : a0_0 = a1_0
  ·
   rw [if_pos c6] at H
   have g1 : (a0_0 == a1_0) = true := beq_iff_eq.mpr c6; have P0 : (a0_0 != a1_0) = false := bne_eq_false_iff_eq.mpr c6; clear c6
   (first | rw [g1] | (simp only [i64_w, i32_w]; rw [g1]) | skip)
   by_cases c7 : a0_1 = a1_1
   ·
    rw [if_pos c7] at H
    have P1 : (a0_1 == a1_1) = true := beq_iff_eq.mpr c7; have P2 : (a0_1 != a1_1) = false := bne_eq_false_iff_eq.mpr c7; clear c7
    by_cases c8 : a0_2 = a1_2
    ·
     rw [if_pos c8] at H
     have P3 : (a0_2 == a1_2) = true := beq_iff_eq.mpr c8; have P4 : (a0_2 != a1_2) = false := bne_eq_false_iff_eq.mpr c8; clear c8
     by_cases c9 : a0_3 = a1_3
     ·
      rw [if_pos c9] at H
      have P5 : (a0_3 == a1_3) = true := beq_iff_eq.mpr c9; have P6 : (a0_3 != a1_3) = false := bne_eq_false_iff_eq.mpr c9; clear c9
      by_cases c10 : (l0_4.length : Int) = (l1_4.length : Int)
      ·
       rw [if_pos c10] at H
       have O3 : ((l0_4.length : Int) == (l1_4.length : Int)) = true := beq_iff_eq.mpr c10; have O4 : ((l0_4.length : Int) != (l1_4.length : Int)) = false := bne_eq_false_iff_eq.mpr c10
       have O5 : (l0_4.length == l1_4.length) = true := by first | simpa using c10 | (simp at c10 ⊢; omega)
       clear c10; replace H := Option.bind_eq_some_iff.mp H; obtain ⟨O8, P9, H⟩ := H; (try dsimp only at H); have A11 := yad P9; clear P9
       by_cases c12 : O8 = true
       ·
        subst c12
        rw [if_pos rfl] at H
        replace H := Option.bind_eq_some_iff.mp H; obtain ⟨O9, Q0, H⟩ := H; (try dsimp only at H); have A13 := yad Q0; clear Q0
        by_cases c14 : O9 = true
        ·
         subst c14
         rw [if_pos rfl] at H
         replace H := Option.bind_eq_some_iff.mp H; obtain ⟨O6, Q1, H⟩ := H; (try dsimp only at H); have A15 := yad Q1; clear Q1; have H' := yad H; clear H; have iY := d3.out; have iZ := d6.out; have g3 : w5.cell? ⟨b3, 0, none⟩ = some (.int .i64 a0_0) := (yab b0.out 0).trans rfl; have g4 : w5.cell? ⟨b3, 1, none⟩ = some (.int .i64 a0_1) := (yab b0.out 1).trans rfl; have g5 : w5.cell? ⟨b3, 2, none⟩ = some (.int .i64 a0_2) := (yab b0.out 2).trans rfl; have g6 : w5.cell? ⟨b3, 3, none⟩ = some (.int .i64 a0_3) := (yab b0.out 3).trans rfl; have g7 : w5.cell? ⟨b3, 4, none⟩ = some (.slice A0_4 l0_4.length c0_4) := (yab b0.out 4).trans rfl; have g8 : w5.cell? ⟨b3, 5, none⟩ = some (.slice A0_5 l0_5.length c0_5) := (yab b0.out 5).trans rfl; have g9 : w5.cell? ⟨b3, 6, none⟩ = some (.slice A0_6 l0_6.length c0_6) := (yab b0.out 6).trans rfl; have h0 : w5.cell? ⟨b3, 7, none⟩ = some (.slice A0_7 l0_7.length c0_7) := (yab b0.out 7).trans rfl; have h1 := yaa b0.out 0; have h2 := yaa b0.out 1; have h3 := yaa b0.out 2; have h4 := yaa b0.out 3; have h5 := yaa b0.out 4; have h6 := yaa b0.out 5; have h7 := yaa b0.out 6; have h8 := yaa b0.out 7; have h9 : w5.cell? ⟨b4, 0, none⟩ = some (.int .i64 a1_0) := (yab b1.out 0).trans rfl; have i0 : w5.cell? ⟨b4, 1, none⟩ = some (.int .i64 a1_1) := (yab b1.out 1).trans rfl; have i1 : w5.cell? ⟨b4, 2, none⟩ = some (.int .i64 a1_2) := (yab b1.out 2).trans rfl; have i2 : w5.cell? ⟨b4, 3, none⟩ = some (.int .i64 a1_3) := (yab b1.out 3).trans rfl; have i3 : w5.cell? ⟨b4, 4, none⟩ = some (.slice A1_4 l1_4.length c1_4) := (yab b1.out 4).trans rfl; have i4 : w5.cell? ⟨b4, 5, none⟩ = some (.slice A1_5 l1_5.length c1_5) := (yab b1.out 5).trans rfl; have i5 : w5.cell? ⟨b4, 6, none⟩ = some (.slice A1_6 l1_6.length c1_6) := (yab b1.out 6).trans rfl; have i6 : w5.cell? ⟨b4, 7, none⟩ = some (.slice A1_7 l1_7.length c1_7) := (yab b1.out 7).trans rfl; have i7 := yaa b1.out 0; have i8 := yaa b1.out 1; have i9 := yaa b1.out 2; have j1 := yaa b1.out 3; have j2 := yaa b1.out 4; have j3 := yaa b1.out 5; have j4 := yaa b1.out 6; have j5 := yaa b1.out 7
         go_wp2_with (first | (go_at_call 84; (with_reducible refine (laws_eaFiles.calls k _ _ l0_5 _ _ l1_5 true _ ?side1 ?side2 ?side3 ?side4 A11.out).mono ?_); (case side1 => repeat (first | exact (yan HR0_5.out HB.out) | (with_reducible refine Kd.C_alloc ?_ _) | (with_reducible refine Kd.C_drewN ?_ _) | (with_reducible refine Kd.C_drew ?_))); (case side2 => exact HC0_5.out); (case side3 => repeat (first | exact (yan HR1_5.out HB.out) | (with_reducible refine Kd.C_alloc ?_ _) | (with_reducible refine Kd.C_drewN ?_ _) | (with_reducible refine Kd.C_drew ?_))); (case side4 => exact HC1_5.out); rintro e w19 ⟨rfl, hb⟩; replace b0 := yad (yak (upB b0.out) hb); replace b1 := yad (yak (upB b1.out) hb); replace HB := yad (yam (by repeat (with_reducible first | exact HB.out | apply yah | apply yaf | apply yai | refine yaj ?_ (Aside0.out ‹_›))) hb); (try clear hb); (try clear hb2); (try clear hk); (try clear hi); have j6 : w19.cell? ⟨b3, 0, none⟩ = some (.int .i64 a0_0) := (yab b0.out 0).trans rfl; have j7 : w19.cell? ⟨b3, 1, none⟩ = some (.int .i64 a0_1) := (yab b0.out 1).trans rfl; have j8 : w19.cell? ⟨b3, 2, none⟩ = some (.int .i64 a0_2) := (yab b0.out 2).trans rfl; have j9 : w19.cell? ⟨b3, 3, none⟩ = some (.int .i64 a0_3) := (yab b0.out 3).trans rfl; have k0 : w19.cell? ⟨b3, 4, none⟩ = some (.slice A0_4 l0_4.length c0_4) := (yab b0.out 4).trans rfl; have k1 : w19.cell? ⟨b3, 5, none⟩ = some (.slice A0_5 l0_5.length c0_5) := (yab b0.out 5).trans rfl; have k3 : w19.cell? ⟨b3, 6, none⟩ = some (.slice A0_6 l0_6.length c0_6) := (yab b0.out 6).trans rfl; have k4 : w19.cell? ⟨b3, 7, none⟩ = some (.slice A0_7 l0_7.length c0_7) := (yab b0.out 7).trans rfl; have k5 := yaa b0.out 0; have k6 := yaa b0.out 1; have k7 := yaa b0.out 2; have k8 := yaa b0.out 3; have k9 := yaa b0.out 4; have l1 := yaa b0.out 5; have l2 := yaa b0.out 6; have l3 := yaa b0.out 7; have l4 : w19.cell? ⟨b4, 0, none⟩ = some (.int .i64 a1_0) := (yab b1.out 0).trans rfl; have l5 : w19.cell? ⟨b4, 1, none⟩ = some (.int .i64 a1_1) := (yab b1.out 1).trans rfl; have l6 : w19.cell? ⟨b4, 2, none⟩ = some (.int .i64 a1_2) := (yab b1.out 2).trans rfl; have l7 : w19.cell? ⟨b4, 3, none⟩ = some (.int .i64 a1_3) := (yab b1.out 3).trans rfl; have l8 : w19.cell? ⟨b4, 4, none⟩ = some (.slice A1_4 l1_4.length c1_4) := (yab b1.out 4).trans rfl; have l9 : w19.cell? ⟨b4, 5, none⟩ = some (.slice A1_5 l1_5.length c1_5) := (yab b1.out 5).trans rfl; have m0 : w19.cell? ⟨b4, 6, none⟩ = some (.slice A1_6 l1_6.length c1_6) := (yab b1.out 6).trans rfl; have m1 : w19.cell? ⟨b4, 7, none⟩ = some (.slice A1_7 l1_7.length c1_7) := (yab b1.out 7).trans rfl; have m2 := yaa b1.out 0; have m3 := yaa b1.out 1; have m4 := yaa b1.out 2; have m5 := yaa b1.out 3; have m6 := yaa b1.out 4; have m7 := yaa b1.out 5; have m8 := yaa b1.out 6; have m9 := yaa b1.out 7) | (go_at_call 85; (with_reducible refine (laws_eaTexts.calls k _ _ l0_6 _ _ l1_6 true _ ?side1 ?side2 ?side3 ?side4 A13.out).mono ?_); (case side1 => repeat (first | exact (yan HR0_6.out HB.out) | (with_reducible refine Kd.C_alloc ?_ _) | (with_reducible refine Kd.C_drewN ?_ _) | (with_reducible refine Kd.C_drew ?_))); (case side2 => exact HC0_6.out); (case side3 => repeat (first | exact (yan HR1_6.out HB.out) | (with_reducible refine Kd.C_alloc ?_ _) | (with_reducible refine Kd.C_drewN ?_ _) | (with_reducible refine Kd.C_drew ?_))); (case side4 => exact HC1_6.out); rintro e w' ⟨rfl, ⟨nd, rfl⟩⟩) | (go_at_call 86; (with_reducible refine (laws_eaOuts.calls k _ _ l0_7 _ _ l1_7 O6 _ ?side1 ?side2 ?side3 ?side4 A15.out).mono ?_); (case side1 => repeat (first | exact (yan HR0_7.out (by repeat (with_reducible first | exact HB.out | apply yah | apply yaf | apply yai | refine yaj ?_ (Aside0.out ‹_›)))) | (with_reducible refine Kd.C_alloc ?_ _) | (with_reducible refine Kd.C_drewN ?_ _) | (with_reducible refine Kd.C_drew ?_))); (case side2 => exact HC0_7.out); (case side3 => repeat (first | exact (yan HR1_7.out (by repeat (with_reducible first | exact HB.out | apply yah | apply yaf | apply yai | refine yaj ?_ (Aside0.out ‹_›)))) | (with_reducible refine Kd.C_alloc ?_ _) | (with_reducible refine Kd.C_drewN ?_ _) | (with_reducible refine Kd.C_drew ?_))); (case side4 => exact HC1_7.out); rintro e w22 ⟨rfl, hb⟩; replace b0 := yad (yak (upB b0.out) hb); replace b1 := yad (yak (upB b1.out) hb); replace HB := yad (yam (by repeat (with_reducible first | exact HB.out | apply yah | apply yaf | apply yai | refine yaj ?_ (Aside0.out ‹_›))) hb); (try clear hb); (try clear hb2); (try clear hk); (try clear hi)))
         go_meet
         case rel => exact ⟨_, (!O6), (by first | rfl | (simp; done) | (simp [*]; done)), H', ⟨by first | omega | exact Nat.le_refl _⟩, ⟨by exact upB b0.out⟩, ⟨by exact upB b1.out⟩, ⟨by repeat (with_reducible first | exact HB.out | apply yah | apply yaf | apply yai | refine yaj ?_ (Aside0.out ‹_›))⟩⟩
        ·
         replace c14 := Bool.eq_false_iff.mpr c14
         subst c14
         rw [if_neg (show ¬ (false = true) by decide)] at H
         have H' := yad H; clear H; have jA := d3.out; have jB := d6.out; have n0 : w5.cell? ⟨b3, 0, none⟩ = some (.int .i64 a0_0) := (yab b0.out 0).trans rfl; have n1 : w5.cell? ⟨b3, 1, none⟩ = some (.int .i64 a0_1) := (yab b0.out 1).trans rfl; have n2 : w5.cell? ⟨b3, 2, none⟩ = some (.int .i64 a0_2) := (yab b0.out 2).trans rfl; have n3 : w5.cell? ⟨b3, 3, none⟩ = some (.int .i64 a0_3) := (yab b0.out 3).trans rfl; have n4 : w5.cell? ⟨b3, 4, none⟩ = some (.slice A0_4 l0_4.length c0_4) := (yab b0.out 4).trans rfl; have n5 : w5.cell? ⟨b3, 5, none⟩ = some (.slice A0_5 l0_5.length c0_5) := (yab b0.out 5).trans rfl; have n6 : w5.cell? ⟨b3, 6, none⟩ = some (.slice A0_6 l0_6.length c0_6) := (yab b0.out 6).trans rfl; have n7 : w5.cell? ⟨b3, 7, none⟩ = some (.slice A0_7 l0_7.length c0_7) := (yab b0.out 7).trans rfl; have n8 := yaa b0.out 0; have n9 := yaa b0.out 1; have o0 := yaa b0.out 2; have o1 := yaa b0.out 3; have o2 := yaa b0.out 4; have o3 := yaa b0.out 5; have o4 := yaa b0.out 6; have o5 := yaa b0.out 7; have o6 : w5.cell? ⟨b4, 0, none⟩ = some (.int .i64 a1_0) := (yab b1.out 0).trans rfl; have o7 : w5.cell? ⟨b4, 1, none⟩ = some (.int .i64 a1_1) := (yab b1.out 1).trans rfl; have o8 : w5.cell? ⟨b4, 2, none⟩ = some (.int .i64 a1_2) := (yab b1.out 2).trans rfl; have o9 : w5.cell? ⟨b4, 3, none⟩ = some (.int .i64 a1_3) := (yab b1.out 3).trans rfl; have p0 : w5.cell? ⟨b4, 4, none⟩ = some (.slice A1_4 l1_4.length c1_4) := (yab b1.out 4).trans rfl; have p1 : w5.cell? ⟨b4, 5, none⟩ = some (.slice A1_5 l1_5.length c1_5) := (yab b1.out 5).trans rfl; have p3 : w5.cell? ⟨b4, 6, none⟩ = some (.slice A1_6 l1_6.length c1_6) := (yab b1.out 6).trans rfl; have p4 : w5.cell? ⟨b4, 7, none⟩ = some (.slice A1_7 l1_7.length c1_7) := (yab b1.out 7).trans rfl; have p5 := yaa b1.out 0; have p6 := yaa b1.out 1; have p7 := yaa b1.out 2; have p8 := yaa b1.out 3; have p9 := yaa b1.out 4; have q0 := yaa b1.out 5; have q1 := yaa b1.out 6; have q2 := yaa b1.out 7
         go_wp2_with (first | (go_at_call 84; (with_reducible refine (laws_eaFiles.calls k _ _ l0_5 _ _ l1_5 true _ ?side1 ?side2 ?side3 ?side4 A11.out).mono ?_); (case side1 => repeat (first | exact (yan HR0_5.out HB.out) | (with_reducible refine Kd.C_alloc ?_ _) | (with_reducible refine Kd.C_drewN ?_ _) | (with_reducible refine Kd.C_drew ?_))); (case side2 => exact HC0_5.out); (case side3 => repeat (first | exact (yan HR1_5.out HB.out) | (with_reducible refine Kd.C_alloc ?_ _) | (with_reducible refine Kd.C_drewN ?_ _) | (with_reducible refine Kd.C_drew ?_))); (case side4 => exact HC1_5.out); rintro e w26 ⟨rfl, hb⟩; replace b0 := yad (yak (upB b0.out) hb); replace b1 := yad (yak (upB b1.out) hb); replace HB := yad (yam (by repeat (with_reducible first | exact HB.out | apply yah | apply yaf | apply yai | refine yaj ?_ (Aside0.out ‹_›))) hb); (try clear hb); (try clear hb2); (try clear hk); (try clear hi); have q3 : w26.cell? ⟨b3, 0, none⟩ = some (.int .i64 a0_0) := (yab b0.out 0).trans rfl; have q4 : w26.cell? ⟨b3, 1, none⟩ = some (.int .i64 a0_1) := (yab b0.out 1).trans rfl; have q5 : w26.cell? ⟨b3, 2, none⟩ = some (.int .i64 a0_2) := (yab b0.out 2).trans rfl; have q6 : w26.cell? ⟨b3, 3, none⟩ = some (.int .i64 a0_3) := (yab b0.out 3).trans rfl; have q7 : w26.cell? ⟨b3, 4, none⟩ = some (.slice A0_4 l0_4.length c0_4) := (yab b0.out 4).trans rfl; have q8 : w26.cell? ⟨b3, 5, none⟩ = some (.slice A0_5 l0_5.length c0_5) := (yab b0.out 5).trans rfl; have q9 : w26.cell? ⟨b3, 6, none⟩ = some (.slice A0_6 l0_6.length c0_6) := (yab b0.out 6).trans rfl; have r0 : w26.cell? ⟨b3, 7, none⟩ = some (.slice A0_7 l0_7.length c0_7) := (yab b0.out 7).trans rfl; have r1 := yaa b0.out 0; have r2 := yaa b0.out 1; have r3 := yaa b0.out 2; have r4 := yaa b0.out 3; have r5 := yaa b0.out 4; have r6 := yaa b0.out 5; have r7 := yaa b0.out 6; have r8 := yaa b0.out 7; have r9 : w26.cell? ⟨b4, 0, none⟩ = some (.int .i64 a1_0) := (yab b1.out 0).trans rfl; have s0 : w26.cell? ⟨b4, 1, none⟩ = some (.int .i64 a1_1) := (yab b1.out 1).trans rfl; have s1 : w26.cell? ⟨b4, 2, none⟩ = some (.int .i64 a1_2) := (yab b1.out 2).trans rfl; have s2 : w26.cell? ⟨b4, 3, none⟩ = some (.int .i64 a1_3) := (yab b1.out 3).trans rfl; have s3 : w26.cell? ⟨b4, 4, none⟩ = some (.slice A1_4 l1_4.length c1_4) := (yab b1.out 4).trans rfl; have s4 : w26.cell? ⟨b4, 5, none⟩ = some (.slice A1_5 l1_5.length c1_5) := (yab b1.out 5).trans rfl; have s5 : w26.cell? ⟨b4, 6, none⟩ = some (.slice A1_6 l1_6.length c1_6) := (yab b1.out 6).trans rfl; have s6 : w26.cell? ⟨b4, 7, none⟩ = some (.slice A1_7 l1_7.length c1_7) := (yab b1.out 7).trans rfl; have s7 := yaa b1.out 0; have s8 := yaa b1.out 1; have s9 := yaa b1.out 2; have t0 := yaa b1.out 3; have t1 := yaa b1.out 4; have t2 := yaa b1.out 5; have t3 := yaa b1.out 6; have t4 := yaa b1.out 7) | (go_at_call 85; (with_reducible refine (laws_eaTexts.calls k _ _ l0_6 _ _ l1_6 false _ ?side1 ?side2 ?side3 ?side4 A13.out).mono ?_); (case side1 => repeat (first | exact (yan HR0_6.out HB.out) | (with_reducible refine Kd.C_alloc ?_ _) | (with_reducible refine Kd.C_drewN ?_ _) | (with_reducible refine Kd.C_drew ?_))); (case side2 => exact HC0_6.out); (case side3 => repeat (first | exact (yan HR1_6.out HB.out) | (with_reducible refine Kd.C_alloc ?_ _) | (with_reducible refine Kd.C_drewN ?_ _) | (with_reducible refine Kd.C_drew ?_))); (case side4 => exact HC1_6.out); rintro e w' ⟨rfl, ⟨nd, rfl⟩⟩))
         go_meet
         case rel => exact ⟨_, (true), (by first | rfl | (simp; done) | (simp [*]; done)), H', ⟨by first | omega | exact Nat.le_refl _⟩, ⟨by exact upB b0.out⟩, ⟨by exact upB b1.out⟩, ⟨by repeat (with_reducible first | exact HB.out | apply yah | apply yaf | apply yai | refine yaj ?_ (Aside0.out ‹_›))⟩⟩
       ·
        replace c12 := Bool.eq_false_iff.mpr c12
        subst c12
        rw [if_neg (show ¬ (false = true) by decide)] at H
        have H' := yad H; clear H; have jC := d3.out; have jD := d6.out; have t5 : w5.cell? ⟨b3, 0, none⟩ = some (.int .i64 a0_0) := (yab b0.out 0).trans rfl; have t6 : w5.cell? ⟨b3, 1, none⟩ = some (.int .i64 a0_1) := (yab b0.out 1).trans rfl; have t7 : w5.cell? ⟨b3, 2, none⟩ = some (.int .i64 a0_2) := (yab b0.out 2).trans rfl; have t8 : w5.cell? ⟨b3, 3, none⟩ = some (.int .i64 a0_3) := (yab b0.out 3).trans rfl; have t9 : w5.cell? ⟨b3, 4, none⟩ = some (.slice A0_4 l0_4.length c0_4) := (yab b0.out 4).trans rfl; have u0 : w5.cell? ⟨b3, 5, none⟩ = some (.slice A0_5 l0_5.length c0_5) := (yab b0.out 5).trans rfl; have u1 : w5.cell? ⟨b3, 6, none⟩ = some (.slice A0_6 l0_6.length c0_6) := (yab b0.out 6).trans rfl; have u2 : w5.cell? ⟨b3, 7, none⟩ = some (.slice A0_7 l0_7.length c0_7) := (yab b0.out 7).trans rfl; have u3 := yaa b0.out 0; have u4 := yaa b0.out 1; have u5 := yaa b0.out 2; have u6 := yaa b0.out 3; have u7 := yaa b0.out 4; have u8 := yaa b0.out 5; have u9 := yaa b0.out 6; have v0 := yaa b0.out 7; have v1 : w5.cell? ⟨b4, 0, none⟩ = some (.int .i64 a1_0) := (yab b1.out 0).trans rfl; have v2 : w5.cell? ⟨b4, 1, none⟩ = some (.int .i64 a1_1) := (yab b1.out 1).trans rfl; have v3 : w5.cell? ⟨b4, 2, none⟩ = some (.int .i64 a1_2) := (yab b1.out 2).trans rfl; have v4 : w5.cell? ⟨b4, 3, none⟩ = some (.int .i64 a1_3) := (yab b1.out 3).trans rfl; have v6 : w5.cell? ⟨b4, 4, none⟩ = some (.slice A1_4 l1_4.length c1_4) := (yab b1.out 4).trans rfl; have v7 : w5.cell? ⟨b4, 5, none⟩ = some (.slice A1_5 l1_5.length c1_5) := (yab b1.out 5).trans rfl; have v8 : w5.cell? ⟨b4, 6, none⟩ = some (.slice A1_6 l1_6.length c1_6) := (yab b1.out 6).trans rfl; have v9 : w5.cell? ⟨b4, 7, none⟩ = some (.slice A1_7 l1_7.length c1_7) := (yab b1.out 7).trans rfl; have w0 := yaa b1.out 0; have w1 := yaa b1.out 1; have w2 := yaa b1.out 2; have w3 := yaa b1.out 3; have w6 := yaa b1.out 4; have w7 := yaa b1.out 5; have w8 := yaa b1.out 6; have w9 := yaa b1.out 7
        go_wp2_with (first | (go_at_call 84; (with_reducible refine (laws_eaFiles.calls k _ _ l0_5 _ _ l1_5 false _ ?side1 ?side2 ?side3 ?side4 A11.out).mono ?_); (case side1 => repeat (first | exact (yan HR0_5.out HB.out) | (with_reducible refine Kd.C_alloc ?_ _) | (with_reducible refine Kd.C_drewN ?_ _) | (with_reducible refine Kd.C_drew ?_))); (case side2 => exact HC0_5.out); (case side3 => repeat (first | exact (yan HR1_5.out HB.out) | (with_reducible refine Kd.C_alloc ?_ _) | (with_reducible refine Kd.C_drewN ?_ _) | (with_reducible refine Kd.C_drew ?_))); (case side4 => exact HC1_5.out); rintro e w32 ⟨rfl, hb⟩; replace b0 := yad (yak (upB b0.out) hb); replace b1 := yad (yak (upB b1.out) hb); replace HB := yad (yam (by repeat (with_reducible first | exact HB.out | apply yah | apply yaf | apply yai | refine yaj ?_ (Aside0.out ‹_›))) hb); (try clear hb); (try clear hb2); (try clear hk); (try clear hi)))
        go_meet
        case rel => exact ⟨_, (true), (by first | rfl | (simp; done) | (simp [*]; done)), H', ⟨by first | omega | exact Nat.le_refl _⟩, ⟨by exact upB b0.out⟩, ⟨by exact upB b1.out⟩, ⟨by repeat (with_reducible first | exact HB.out | apply yah | apply yaf | apply yai | refine yaj ?_ (Aside0.out ‹_›))⟩⟩
      ·
       rw [if_neg c10] at H
       have O3 : ((l0_4.length : Int) == (l1_4.length : Int)) = false := beq_eq_false_iff_ne.mpr c10; have O4 : ((l0_4.length : Int) != (l1_4.length : Int)) = true := bne_iff_ne.mpr c10
       have O5 : (l0_4.length == l1_4.length) = false := by first | simpa using c10 | (simp at c10 ⊢; omega)
       have H' := yad H; clear H; have jE := d3.out; have jF := d6.out; have x0 : w5.cell? ⟨b3, 0, none⟩ = some (.int .i64 a0_0) := (yab b0.out 0).trans rfl; have x1 : w5.cell? ⟨b3, 1, none⟩ = some (.int .i64 a0_1) := (yab b0.out 1).trans rfl; have x2 : w5.cell? ⟨b3, 2, none⟩ = some (.int .i64 a0_2) := (yab b0.out 2).trans rfl; have x3 : w5.cell? ⟨b3, 3, none⟩ = some (.int .i64 a0_3) := (yab b0.out 3).trans rfl; have x4 : w5.cell? ⟨b3, 4, none⟩ = some (.slice A0_4 l0_4.length c0_4) := (yab b0.out 4).trans rfl; have x6 : w5.cell? ⟨b3, 5, none⟩ = some (.slice A0_5 l0_5.length c0_5) := (yab b0.out 5).trans rfl; have x7 : w5.cell? ⟨b3, 6, none⟩ = some (.slice A0_6 l0_6.length c0_6) := (yab b0.out 6).trans rfl; have x8 : w5.cell? ⟨b3, 7, none⟩ = some (.slice A0_7 l0_7.length c0_7) := (yab b0.out 7).trans rfl; have x9 := yaa b0.out 0; have z0 := yaa b0.out 1; have z1 := yaa b0.out 2; have z2 := yaa b0.out 3; have z3 := yaa b0.out 4; have z4 := yaa b0.out 5; have z5 := yaa b0.out 6; have z6 := yaa b0.out 7; have z7 : w5.cell? ⟨b4, 0, none⟩ = some (.int .i64 a1_0) := (yab b1.out 0).trans rfl; have z8 : w5.cell? ⟨b4, 1, none⟩ = some (.int .i64 a1_1) := (yab b1.out 1).trans rfl; have z9 : w5.cell? ⟨b4, 2, none⟩ = some (.int .i64 a1_2) := (yab b1.out 2).trans rfl; have A0 : w5.cell? ⟨b4, 3, none⟩ = some (.int .i64 a1_3) := (yab b1.out 3).trans rfl; have A1 : w5.cell? ⟨b4, 4, none⟩ = some (.slice A1_4 l1_4.length c1_4) := (yab b1.out 4).trans rfl; have A2 : w5.cell? ⟨b4, 5, none⟩ = some (.slice A1_5 l1_5.length c1_5) := (yab b1.out 5).trans rfl; have A3 : w5.cell? ⟨b4, 6, none⟩ = some (.slice A1_6 l1_6.length c1_6) := (yab b1.out 6).trans rfl; have A4 : w5.cell? ⟨b4, 7, none⟩ = some (.slice A1_7 l1_7.length c1_7) := (yab b1.out 7).trans rfl; have A5 := yaa b1.out 0; have A6 := yaa b1.out 1; have A7 := yaa b1.out 2; have A8 := yaa b1.out 3; have A9 := yaa b1.out 4; have B0 := yaa b1.out 5; have B1 := yaa b1.out 6; have B2 := yaa b1.out 7
       go_wp2
       go_meet
       case rel => exact ⟨_, (true), (by first | rfl | (simp; done) | (simp [*]; done)), H', ⟨by first | omega | exact Nat.le_refl _⟩, ⟨by exact upB b0.out⟩, ⟨by exact upB b1.out⟩, ⟨by repeat (with_reducible first | exact HB.out | apply yah | apply yaf | apply yai | refine yaj ?_ (Aside0.out ‹_›))⟩⟩
     ·
      rw [if_neg c9] at H
      have P5 : (a0_3 == a1_3) = false := beq_eq_false_iff_ne.mpr c9; have P6 : (a0_3 != a1_3) = true := bne_iff_ne.mpr c9; have H' := yad H; clear H; have jG := d3.out; have jH := d6.out; have B3 : w5.cell? ⟨b3, 0, none⟩ = some (.int .i64 a0_0) := (yab b0.out 0).trans rfl; have B4 : w5.cell? ⟨b3, 1, none⟩ = some (.int .i64 a0_1) := (yab b0.out 1).trans rfl; have B5 : w5.cell? ⟨b3, 2, none⟩ = some (.int .i64 a0_2) := (yab b0.out 2).trans rfl; have B6 : w5.cell? ⟨b3, 3, none⟩ = some (.int .i64 a0_3) := (yab b0.out 3).trans rfl; have B7 : w5.cell? ⟨b3, 4, none⟩ = some (.slice A0_4 l0_4.length c0_4) := (yab b0.out 4).trans rfl; have B8 : w5.cell? ⟨b3, 5, none⟩ = some (.slice A0_5 l0_5.length c0_5) := (yab b0.out 5).trans rfl; have B9 : w5.cell? ⟨b3, 6, none⟩ = some (.slice A0_6 l0_6.length c0_6) := (yab b0.out 6).trans rfl; have C0 : w5.cell? ⟨b3, 7, none⟩ = some (.slice A0_7 l0_7.length c0_7) := (yab b0.out 7).trans rfl; have C1 := yaa b0.out 0; have C2 := yaa b0.out 1; have C3 := yaa b0.out 2; have C4 := yaa b0.out 3; have C5 := yaa b0.out 4; have C6 := yaa b0.out 5; have C7 := yaa b0.out 6; have C8 := yaa b0.out 7; have C9 : w5.cell? ⟨b4, 0, none⟩ = some (.int .i64 a1_0) := (yab b1.out 0).trans rfl; have D0 : w5.cell? ⟨b4, 1, none⟩ = some (.int .i64 a1_1) := (yab b1.out 1).trans rfl; have D1 : w5.cell? ⟨b4, 2, none⟩ = some (.int .i64 a1_2) := (yab b1.out 2).trans rfl; have D2 : w5.cell? ⟨b4, 3, none⟩ = some (.int .i64 a1_3) := (yab b1.out 3).trans rfl; have D3 : w5.cell? ⟨b4, 4, none⟩ = some (.slice A1_4 l1_4.length c1_4) := (yab b1.out 4).trans rfl; have D4 : w5.cell? ⟨b4, 5, none⟩ = some (.slice A1_5 l1_5.length c1_5) := (yab b1.out 5).trans rfl; have D5 : w5.cell? ⟨b4, 6, none⟩ = some (.slice A1_6 l1_6.length c1_6) := (yab b1.out 6).trans rfl; have D6 : w5.cell? ⟨b4, 7, none⟩ = some (.slice A1_7 l1_7.length c1_7) := (yab b1.out 7).trans rfl; have D7 := yaa b1.out 0; have D8 := yaa b1.out 1; have D9 := yaa b1.out 2; have E0 := yaa b1.out 3; have E1 := yaa b1.out 4; have E2 := yaa b1.out 5; have E3 := yaa b1.out 6; have E4 := yaa b1.out 7
      go_wp2
      go_meet
      case rel => exact ⟨_, (true), (by first | rfl | (simp; done) | (simp [*]; done)), H', ⟨by first | omega | exact Nat.le_refl _⟩, ⟨by exact upB b0.out⟩, ⟨by exact upB b1.out⟩, ⟨by repeat (with_reducible first | exact HB.out | apply yah | apply yaf | apply yai | refine yaj ?_ (Aside0.out ‹_›))⟩⟩
    ·
     rw [if_neg c8] at H
     have P3 : (a0_2 == a1_2) = false := beq_eq_false_iff_ne.mpr c8; have P4 : (a0_2 != a1_2) = true := bne_iff_ne.mpr c8; have H' := yad H; clear H; have jI := d3.out; have jJ := d6.out; have E5 : w5.cell? ⟨b3, 0, none⟩ = some (.int .i64 a0_0) := (yab b0.out 0).trans rfl; have E6 : w5.cell? ⟨b3, 1, none⟩ = some (.int .i64 a0_1) := (yab b0.out 1).trans rfl; have E7 : w5.cell? ⟨b3, 2, none⟩ = some (.int .i64 a0_2) := (yab b0.out 2).trans rfl; have E8 : w5.cell? ⟨b3, 3, none⟩ = some (.int .i64 a0_3) := (yab b0.out 3).trans rfl; have E9 : w5.cell? ⟨b3, 4, none⟩ = some (.slice A0_4 l0_4.length c0_4) := (yab b0.out 4).trans rfl; have F0 : w5.cell? ⟨b3, 5, none⟩ = some (.slice A0_5 l0_5.length c0_5) := (yab b0.out 5).trans rfl; have F1 : w5.cell? ⟨b3, 6, none⟩ = some (.slice A0_6 l0_6.length c0_6) := (yab b0.out 6).trans rfl; have F2 : w5.cell? ⟨b3, 7, none⟩ = some (.slice A0_7 l0_7.length c0_7) := (yab b0.out 7).trans rfl; have F3 := yaa b0.out 0; have F4 := yaa b0.out 1; have F5 := yaa b0.out 2; have F6 := yaa b0.out 3; have F7 := yaa b0.out 4; have F8 := yaa b0.out 5; have F9 := yaa b0.out 6; have G0 := yaa b0.out 7; have G1 : w5.cell? ⟨b4, 0, none⟩ = some (.int .i64 a1_0) := (yab b1.out 0).trans rfl; have G2 : w5.cell? ⟨b4, 1, none⟩ = some (.int .i64 a1_1) := (yab b1.out 1).trans rfl; have G3 : w5.cell? ⟨b4, 2, none⟩ = some (.int .i64 a1_2) := (yab b1.out 2).trans rfl; have G4 : w5.cell? ⟨b4, 3, none⟩ = some (.int .i64 a1_3) := (yab b1.out 3).trans rfl; have G5 : w5.cell? ⟨b4, 4, none⟩ = some (.slice A1_4 l1_4.length c1_4) := (yab b1.out 4).trans rfl; have G6 : w5.cell? ⟨b4, 5, none⟩ = some (.slice A1_5 l1_5.length c1_5) := (yab b1.out 5).trans rfl; have G7 : w5.cell? ⟨b4, 6, none⟩ = some (.slice A1_6 l1_6.length c1_6) := (yab b1.out 6).trans rfl; have G8 : w5.cell? ⟨b4, 7, none⟩ = some (.slice A1_7 l1_7.length c1_7) := (yab b1.out 7).trans rfl; have G9 := yaa b1.out 0; have H0 := yaa b1.out 1; have H1 := yaa b1.out 2; have H2 := yaa b1.out 3; have H3 := yaa b1.out 4; have H4 := yaa b1.out 5; have H5 := yaa b1.out 6; have H6 := yaa b1.out 7
     go_wp2
     go_meet
     case rel => exact ⟨_, (true), (by first | rfl | (simp; done) | (simp [*]; done)), H', ⟨by first | omega | exact Nat.le_refl _⟩, ⟨by exact upB b0.out⟩, ⟨by exact upB b1.out⟩, ⟨by repeat (with_reducible first | exact HB.out | apply yah | apply yaf | apply yai | refine yaj ?_ (Aside0.out ‹_›))⟩⟩
   ·
    rw [if_neg c7] at H
    have P1 : (a0_1 == a1_1) = false := beq_eq_false_iff_ne.mpr c7; have P2 : (a0_1 != a1_1) = true := bne_iff_ne.mpr c7; have H' := yad H; clear H; have jK := d3.out; have jL := d6.out; have H7 : w5.cell? ⟨b3, 0, none⟩ = some (.int .i64 a0_0) := (yab b0.out 0).trans rfl; have H8 : w5.cell? ⟨b3, 1, none⟩ = some (.int .i64 a0_1) := (yab b0.out 1).trans rfl; have H9 : w5.cell? ⟨b3, 2, none⟩ = some (.int .i64 a0_2) := (yab b0.out 2).trans rfl; have I0 : w5.cell? ⟨b3, 3, none⟩ = some (.int .i64 a0_3) := (yab b0.out 3).trans rfl; have I1 : w5.cell? ⟨b3, 4, none⟩ = some (.slice A0_4 l0_4.length c0_4) := (yab b0.out 4).trans rfl; have I2 : w5.cell? ⟨b3, 5, none⟩ = some (.slice A0_5 l0_5.length c0_5) := (yab b0.out 5).trans rfl; have I3 : w5.cell? ⟨b3, 6, none⟩ = some (.slice A0_6 l0_6.length c0_6) := (yab b0.out 6).trans rfl; have I4 : w5.cell? ⟨b3, 7, none⟩ = some (.slice A0_7 l0_7.length c0_7) := (yab b0.out 7).trans rfl; have I5 := yaa b0.out 0; have I6 := yaa b0.out 1; have I7 := yaa b0.out 2; have I8 := yaa b0.out 3; have I9 := yaa b0.out 4; have J0 := yaa b0.out 5; have J1 := yaa b0.out 6; have J2 := yaa b0.out 7; have J3 : w5.cell? ⟨b4, 0, none⟩ = some (.int .i64 a1_0) := (yab b1.out 0).trans rfl; have J4 : w5.cell? ⟨b4, 1, none⟩ = some (.int .i64 a1_1) := (yab b1.out 1).trans rfl; have J5 : w5.cell? ⟨b4, 2, none⟩ = some (.int .i64 a1_2) := (yab b1.out 2).trans rfl; have J6 : w5.cell? ⟨b4, 3, none⟩ = some (.int .i64 a1_3) := (yab b1.out 3).trans rfl; have J7 : w5.cell? ⟨b4, 4, none⟩ = some (.slice A1_4 l1_4.length c1_4) := (yab b1.out 4).trans rfl; have J8 : w5.cell? ⟨b4, 5, none⟩ = some (.slice A1_5 l1_5.length c1_5) := (yab b1.out 5).trans rfl; have J9 : w5.cell? ⟨b4, 6, none⟩ = some (.slice A1_6 l1_6.length c1_6) := (yab b1.out 6).trans rfl; have K0 : w5.cell? ⟨b4, 7, none⟩ = some (.slice A1_7 l1_7.length c1_7) := (yab b1.out 7).trans rfl; have K1 := yaa b1.out 0; have K2 := yaa b1.out 1; have K3 := yaa b1.out 2; have K4 := yaa b1.out 3; have K5 := yaa b1.out 4; have K6 := yaa b1.out 5; have K7 := yaa b1.out 6; have K8 := yaa b1.out 7
    go_wp2
    go_meet
    case rel => exact ⟨_, (true), (by first | rfl | (simp; done) | (simp [*]; done)), H', ⟨by first | omega | exact Nat.le_refl _⟩, ⟨by exact upB b0.out⟩, ⟨by exact upB b1.out⟩, ⟨by repeat (with_reducible first | exact HB.out | apply yah | apply yaf | apply yai | refine yaj ?_ (Aside0.out ‹_›))⟩⟩
  ·
   rw [if_neg c6] at H
   have g1 : (a0_0 == a1_0) = false := beq_eq_false_iff_ne.mpr c6; have P0 : (a0_0 != a1_0) = true := bne_iff_ne.mpr c6
   (first | rw [g1] | (simp only [i64_w, i32_w]; rw [g1]) | skip)
   have H' := yad H; clear H; have jM := d3.out; have jN := d6.out; have K9 : w5.cell? ⟨b3, 0, none⟩ = some (.int .i64 a0_0) := (yab b0.out 0).trans rfl; have L0 : w5.cell? ⟨b3, 1, none⟩ = some (.int .i64 a0_1) := (yab b0.out 1).trans rfl; have L1 : w5.cell? ⟨b3, 2, none⟩ = some (.int .i64 a0_2) := (yab b0.out 2).trans rfl; have L2 : w5.cell? ⟨b3, 3, none⟩ = some (.int .i64 a0_3) := (yab b0.out 3).trans rfl; have L3 : w5.cell? ⟨b3, 4, none⟩ = some (.slice A0_4 l0_4.length c0_4) := (yab b0.out 4).trans rfl; have L4 : w5.cell? ⟨b3, 5, none⟩ = some (.slice A0_5 l0_5.length c0_5) := (yab b0.out 5).trans rfl; have L5 : w5.cell? ⟨b3, 6, none⟩ = some (.slice A0_6 l0_6.length c0_6) := (yab b0.out 6).trans rfl; have L6 : w5.cell? ⟨b3, 7, none⟩ = some (.slice A0_7 l0_7.length c0_7) := (yab b0.out 7).trans rfl; have L7 := yaa b0.out 0; have L8 := yaa b0.out 1; have L9 := yaa b0.out 2; have M0 := yaa b0.out 3; have M1 := yaa b0.out 4; have M2 := yaa b0.out 5; have M3 := yaa b0.out 6; have M4 := yaa b0.out 7; have M5 : w5.cell? ⟨b4, 0, none⟩ = some (.int .i64 a1_0) := (yab b1.out 0).trans rfl; have M6 : w5.cell? ⟨b4, 1, none⟩ = some (.int .i64 a1_1) := (yab b1.out 1).trans rfl; have M7 : w5.cell? ⟨b4, 2, none⟩ = some (.int .i64 a1_2) := (yab b1.out 2).trans rfl; have M8 : w5.cell? ⟨b4, 3, none⟩ = some (.int .i64 a1_3) := (yab b1.out 3).trans rfl; have M9 : w5.cell? ⟨b4, 4, none⟩ = some (.slice A1_4 l1_4.length c1_4) := (yab b1.out 4).trans rfl; have N0 : w5.cell? ⟨b4, 5, none⟩ = some (.slice A1_5 l1_5.length c1_5) := (yab b1.out 5).trans rfl; have N1 : w5.cell? ⟨b4, 6, none⟩ = some (.slice A1_6 l1_6.length c1_6) := (yab b1.out 6).trans rfl; have N2 : w5.cell? ⟨b4, 7, none⟩ = some (.slice A1_7 l1_7.length c1_7) := (yab b1.out 7).trans rfl; have N3 := yaa b1.out 0; have N4 := yaa b1.out 1; have N5 := yaa b1.out 2; have N6 := yaa b1.out 3; have N7 := yaa b1.out 4; have N8 := yaa b1.out 5; have N9 := yaa b1.out 6; have O0 := yaa b1.out 7
   go_wp2
   go_meet
   case rel => exact ⟨_, (true), (by first | rfl | (simp; done) | (simp [*]; done)), H', ⟨by first | omega | exact Nat.le_refl _⟩, ⟨by exact upB b0.out⟩, ⟨by exact upB b1.out⟩, ⟨by repeat (with_reducible first | exact HB.out | apply yah | apply yaf | apply yai | refine yaj ?_ (Aside0.out ‹_›))⟩⟩
 case rest =>
  clear HC3; (try clear c1); (try clear c2); (try clear p2); (try clear c3); (try clear c4); (try clear c6); (try clear g1); (try clear P0); (try clear c7); (try clear P1); (try clear P2); (try clear c8); (try clear P3); (try clear P4); (try clear c9); (try clear P5); (try clear P6); (try clear c10); (try clear O3); (try clear O4); (try clear O5); (try clear c12); (try clear c14); (try clear c16); (try clear c23); (try clear c29); (try clear c33); (try clear c36); (try clear c37); (try clear c39); (try clear c42); (try clear c45); (try clear g3); (try clear g4); (try clear g5); (try clear g6); (try clear g7); (try clear g8); (try clear g9); (try clear h0); (try clear h9); (try clear i0); (try clear i1); (try clear i2); (try clear i3); (try clear i4); (try clear i5); (try clear i6); (try clear j6); (try clear j7); (try clear j8); (try clear j9); (try clear k0); (try clear k1); (try clear k3); (try clear k4); (try clear l4); (try clear l5); (try clear l6); (try clear l7); (try clear l8); (try clear l9); (try clear m0); (try clear m1); (try clear n0); (try clear n1); (try clear n2); (try clear n3); (try clear n4); (try clear n5); (try clear n6); (try clear n7); (try clear o6); (try clear o7); (try clear o8); (try clear o9); (try clear p0); (try clear p1); (try clear p3); (try clear p4); (try clear q3); (try clear q4); (try clear q5); (try clear q6); (try clear q7); (try clear q8); (try clear q9); (try clear r0); (try clear r9); (try clear s0); (try clear s1); (try clear s2); (try clear s3); (try clear s4); (try clear s5); (try clear s6); (try clear t5); (try clear t6); (try clear t7); (try clear t8); (try clear t9); (try clear u0); (try clear u1); (try clear u2); (try clear v1); (try clear v2); (try clear v3); (try clear v4); (try clear v6); (try clear v7); (try clear v8); (try clear v9); (try clear x0); (try clear x1); (try clear x2); (try clear x3); (try clear x4); (try clear x6); (try clear x7); (try clear x8); (try clear z7); (try clear z8); (try clear z9); (try clear A0); (try clear A1); (try clear A2); (try clear A3); (try clear A4); (try clear B3); (try clear B4); (try clear B5); (try clear B6); (try clear B7); (try clear B8); (try clear B9); (try clear C0); (try clear C9); (try clear D0); (try clear D1); (try clear D2); (try clear D3); (try clear D4); (try clear D5); (try clear D6); (try clear E5); (try clear E6); (try clear E7); (try clear E8); (try clear E9); (try clear F0); (try clear F1); (try clear F2); (try clear G1); (try clear G2); (try clear G3); (try clear G4); (try clear G5); (try clear G6); (try clear G7); (try clear G8); (try clear H7); (try clear H8); (try clear H9); (try clear I0); (try clear I1); (try clear I2); (try clear I3); (try clear I4); (try clear J3); (try clear J4); (try clear J5); (try clear J6); (try clear J7); (try clear J8); (try clear J9); (try clear K0); (try clear K9); (try clear L0); (try clear L1); (try clear L2); (try clear L3); (try clear L4); (try clear L5); (try clear L6); (try clear M5); (try clear M6); (try clear M7); (try clear M8); (try clear M9); (try clear N0); (try clear N1); (try clear N2); (try clear h1); (try clear h2); (try clear h3); (try clear h4); (try clear h5); (try clear h6); (try clear h7); (try clear h8); (try clear i7); (try clear i8); (try clear i9); (try clear j1); (try clear j2); (try clear j3); (try clear j4); (try clear j5); (try clear k5); (try clear k6); (try clear k7); (try clear k8); (try clear k9); (try clear l1); (try clear l2); (try clear l3); (try clear m2); (try clear m3); (try clear m4); (try clear m5); (try clear m6); (try clear m7); (try clear m8); (try clear m9); (try clear n8); (try clear n9); (try clear o0); (try clear o1); (try clear o2); (try clear o3); (try clear o4); (try clear o5); (try clear p5); (try clear p6); (try clear p7); (try clear p8); (try clear p9); (try clear q0); (try clear q1); (try clear q2); (try clear r1); (try clear r2); (try clear r3); (try clear r4); (try clear r5); (try clear r6); (try clear r7); (try clear r8); (try clear s7); (try clear s8); (try clear s9); (try clear t0); (try clear t1); (try clear t2); (try clear t3); (try clear t4); (try clear u3); (try clear u4); (try clear u5); (try clear u6); (try clear u7); (try clear u8); (try clear u9); (try clear v0); (try clear w0); (try clear w1); (try clear w2); (try clear w3); (try clear w6); (try clear w7); (try clear w8); (try clear w9); (try clear x9); (try clear z0); (try clear z1); (try clear z2); (try clear z3); (try clear z4); (try clear z5); (try clear z6); (try clear A5); (try clear A6); (try clear A7); (try clear A8); (try clear A9); (try clear B0); (try clear B1); (try clear B2); (try clear C1); (try clear C2); (try clear C3)
  (try clear C4); (try clear C5); (try clear C6); (try clear C7); (try clear C8); (try clear D7); (try clear D8); (try clear D9); (try clear E0); (try clear E1); (try clear E2); (try clear E3); (try clear E4); (try clear F3); (try clear F4); (try clear F5); (try clear F6); (try clear F7); (try clear F8); (try clear F9); (try clear G0); (try clear G9); (try clear H0); (try clear H1); (try clear H2); (try clear H3); (try clear H4); (try clear H5); (try clear H6); (try clear I5); (try clear I6); (try clear I7); (try clear I8); (try clear I9); (try clear J0); (try clear J1); (try clear J2); (try clear K1); (try clear K2); (try clear K3); (try clear K4); (try clear K5); (try clear K6); (try clear K7); (try clear K8); (try clear L7); (try clear L8); (try clear L9); (try clear M0); (try clear M1); (try clear M2); (try clear M3); (try clear M4); (try clear N3); (try clear N4); (try clear N5); (try clear N6); (try clear N7); (try clear N8); (try clear N9); (try clear O0); obtain ⟨kq, g2, rfl, HA, HJ2, b0, b1, HB⟩ := hcut
  cases kq with
  | zero => exact absurd HA.out (by simp [laws_eaTen.j0])
  | succ kj2 =>
   have H := HA.out; clear HA
   simp only [laws_eaTen.j0] at H
   by_cases c48 : g2 = true
   ·
    subst c48
    rw [if_pos rfl] at H
    obtain rfl := Option.some.inj H
    go_wp2
    go_ret
    exact ⟨by first | rfl | (simp [*, errW_none, errW_some] <;> rfl), by repeat (with_reducible first | exact HB.out | apply yah | apply yaf | apply yai | refine yaj ?_ (Aside0.out ‹_›))⟩
   ·
    replace c48 := Bool.eq_false_iff.mpr c48
    subst c48
    rw [if_neg (show ¬ (false = true) by decide)] at H
    have H' := yad H; clear H
    go_wp2
    (try simp only [Act.put, List.setIfInBounds_toArray, List.set_cons_zero, List.set_cons_succ])
    go_loopg [5] kj2 (fun kq v5 w' => ∃ (b2 : Int), v5 = .int .i64 b2 ∧ Aside0 (laws_eaTen.l0 kq b2 a0_0 a0_1 a0_2 a0_3 l0_4 l0_5 l0_6 l0_7 a1_0 a1_1 a1_2 a1_3 l1_4 l1_5 l1_6 l1_7 = some r) ∧ Aside0 (kq ≤ kj2) ∧ Aside0 (w'.heap[b3]? = some (.cells #[.int .i64 a0_0, .int .i64 a0_1, .int .i64 a0_2, .int .i64 a0_3, (.slice A0_4 l0_4.length c0_4), (.slice A0_5 l0_5.length c0_5), (.slice A0_6 l0_6.length c0_6), (.slice A0_7 l0_7.length c0_7)] 63 (0, 0))) ∧ Aside0 (w'.heap[b4]? = some (.cells #[.int .i64 a1_0, .int .i64 a1_1, .int .i64 a1_2, .int .i64 a1_3, (.slice A1_4 l1_4.length c1_4), (.slice A1_5 l1_5.length c1_5), (.slice A1_6 l1_6.length c1_6), (.slice A1_7 l1_7.length c1_7)] 63 (0, 0))) ∧ Aside0 (Below w.heap.size w w'))
    case atStart => exact ⟨(0), (by first | rfl | (simp; done) | (simp [*]; done)), H', ⟨Nat.le_refl _⟩, ⟨by exact upB b0.out⟩, ⟨by exact upB b1.out⟩, ⟨by repeat (with_reducible first | exact HB.out | apply yah | apply yaf | apply yai | refine yaj ?_ (Aside0.out ‹_›))⟩⟩
    case round =>
     clear H'; (try clear c1); (try clear c2); (try clear p2); (try clear c3); (try clear c4); (try clear c6); (try clear g1); (try clear P0); (try clear c7); (try clear P1); (try clear P2); (try clear c8); (try clear P3); (try clear P4); (try clear c9); (try clear P5); (try clear P6); (try clear c10); (try clear O3); (try clear O4); (try clear O5); (try clear c12); (try clear c14); (try clear c16); (try clear c23); (try clear c29); (try clear c33); (try clear c36); (try clear c37); (try clear c39); (try clear c42); (try clear c45); (try clear c48); (try clear g3); (try clear g4); (try clear g5); (try clear g6); (try clear g7); (try clear g8); (try clear g9); (try clear h0); (try clear h9); (try clear i0); (try clear i1); (try clear i2); (try clear i3); (try clear i4); (try clear i5); (try clear i6); (try clear j6); (try clear j7); (try clear j8); (try clear j9); (try clear k0); (try clear k1); (try clear k3); (try clear k4); (try clear l4); (try clear l5); (try clear l6); (try clear l7); (try clear l8); (try clear l9); (try clear m0); (try clear m1); (try clear n0); (try clear n1); (try clear n2); (try clear n3); (try clear n4); (try clear n5); (try clear n6); (try clear n7); (try clear o6); (try clear o7); (try clear o8); (try clear o9); (try clear p0); (try clear p1); (try clear p3); (try clear p4); (try clear q3); (try clear q4); (try clear q5); (try clear q6); (try clear q7); (try clear q8); (try clear q9); (try clear r0); (try clear r9); (try clear s0); (try clear s1); (try clear s2); (try clear s3); (try clear s4); (try clear s5); (try clear s6); (try clear t5); (try clear t6); (try clear t7); (try clear t8); (try clear t9); (try clear u0); (try clear u1); (try clear u2); (try clear v1); (try clear v2); (try clear v3); (try clear v4); (try clear v6); (try clear v7); (try clear v8); (try clear v9); (try clear x0); (try clear x1); (try clear x2); (try clear x3); (try clear x4); (try clear x6); (try clear x7); (try clear x8); (try clear z7); (try clear z8); (try clear z9); (try clear A0); (try clear A1); (try clear A2); (try clear A3); (try clear A4); (try clear B3); (try clear B4); (try clear B5); (try clear B6); (try clear B7); (try clear B8); (try clear B9); (try clear C0); (try clear C9); (try clear D0); (try clear D1); (try clear D2); (try clear D3); (try clear D4); (try clear D5); (try clear D6); (try clear E5); (try clear E6); (try clear E7); (try clear E8); (try clear E9); (try clear F0); (try clear F1); (try clear F2); (try clear G1); (try clear G2); (try clear G3); (try clear G4); (try clear G5); (try clear G6); (try clear G7); (try clear G8); (try clear H7); (try clear H8); (try clear H9); (try clear I0); (try clear I1); (try clear I2); (try clear I3); (try clear I4); (try clear J3); (try clear J4); (try clear J5); (try clear J6); (try clear J7); (try clear J8); (try clear J9); (try clear K0); (try clear K9); (try clear L0); (try clear L1); (try clear L2); (try clear L3); (try clear L4); (try clear L5); (try clear L6); (try clear M5); (try clear M6); (try clear M7); (try clear M8); (try clear M9); (try clear N0); (try clear N1); (try clear N2); (try clear h1); (try clear h2); (try clear h3); (try clear h4); (try clear h5); (try clear h6); (try clear h7); (try clear h8); (try clear i7); (try clear i8); (try clear i9); (try clear j1); (try clear j2); (try clear j3); (try clear j4); (try clear j5); (try clear k5); (try clear k6); (try clear k7); (try clear k8); (try clear k9); (try clear l1); (try clear l2); (try clear l3); (try clear m2); (try clear m3); (try clear m4); (try clear m5); (try clear m6); (try clear m7); (try clear m8); (try clear m9); (try clear n8); (try clear n9); (try clear o0); (try clear o1); (try clear o2); (try clear o3); (try clear o4); (try clear o5); (try clear p5); (try clear p6); (try clear p7); (try clear p8); (try clear p9); (try clear q0); (try clear q1); (try clear q2); (try clear r1); (try clear r2); (try clear r3); (try clear r4); (try clear r5); (try clear r6); (try clear r7); (try clear r8); (try clear s7); (try clear s8); (try clear s9); (try clear t0); (try clear t1); (try clear t2); (try clear t3); (try clear t4); (try clear u3); (try clear u4); (try clear u5); (try clear u6); (try clear u7); (try clear u8); (try clear u9); (try clear v0); (try clear w0); (try clear w1); (try clear w2); (try clear w3); (try clear w6); (try clear w7); (try clear w8); (try clear w9); (try clear x9); (try clear z0); (try clear z1); (try clear z2); (try clear z3); (try clear z4); (try clear z5); (try clear z6); (try clear A5); (try clear A6); (try clear A7); (try clear A8); (try clear A9); (try clear B0); (try clear B1); (try clear B2); (try clear C1); (try clear C2)
     (try clear C3); (try clear C4); (try clear C5); (try clear C6); (try clear C7); (try clear C8); (try clear D7); (try clear D8); (try clear D9); (try clear E0); (try clear E1); (try clear E2); (try clear E3); (try clear E4); (try clear F3); (try clear F4); (try clear F5); (try clear F6); (try clear F7); (try clear F8); (try clear F9); (try clear G0); (try clear G9); (try clear H0); (try clear H1); (try clear H2); (try clear H3); (try clear H4); (try clear H5); (try clear H6); (try clear I5); (try clear I6); (try clear I7); (try clear I8); (try clear I9); (try clear J0); (try clear J1); (try clear J2); (try clear K1); (try clear K2); (try clear K3); (try clear K4); (try clear K5); (try clear K6); (try clear K7); (try clear K8); (try clear L7); (try clear L8); (try clear L9); (try clear M0); (try clear M1); (try clear M2); (try clear M3); (try clear M4); (try clear N3); (try clear N4); (try clear N5); (try clear N6); (try clear N7); (try clear N8); (try clear N9); (try clear O0); (try clear p2); obtain ⟨b2, rfl, HA, HK2, b0, b1, HB⟩ := hrel
     cases gk with
     | zero => exact absurd HA.out (by simp [laws_eaTen.l0])
     | succ k2 =>
      have H := HA.out; clear HA
      simp only [laws_eaTen.l0] at H
      by_cases c49 : b2 < (l0_4.length : Int)
      ·
       rw [if_pos c49] at H
       have Q3 : decide (b2 < (l0_4.length : Int)) = true := decide_eq_true c49; clear c49
       by_cases c50 : 0 ≤ b2
       ·
        rw [if_pos c50] at H
        have jO : decide (0 ≤ b2) = true := decide_eq_true c50; clear c50
        by_cases c51 : b2 < (l1_4.length : Int)
        ·
         rw [if_pos c51] at H
         have jP : decide (b2 < (l1_4.length : Int)) = true := decide_eq_true c51; clear c51
         by_cases c52 : ((yae l0_4 b2).f0) = ((yae l1_4 b2).f0)
         ·
          rw [if_pos c52] at H
          have Q4 : (((yae l0_4 b2).f0) == ((yae l1_4 b2).f0)) = true := beq_iff_eq.mpr c52; have Q5 : (((yae l0_4 b2).f0) != ((yae l1_4 b2).f0)) = false := bne_eq_false_iff_eq.mpr c52; clear c52
          by_cases c53 : ((yae l0_4 b2).f1).toList = ((yae l1_4 b2).f1).toList
          ·
           rw [if_pos c53] at H
           have Q6 : (((yae l0_4 b2).f1).toList == ((yae l1_4 b2).f1).toList) = true := beq_iff_eq.mpr c53; have Q7 : (((yae l0_4 b2).f1).toList != ((yae l1_4 b2).f1).toList) = false := bne_eq_false_iff_eq.mpr c53; clear c53
           by_cases c54 : ((yae l0_4 b2).f3) = ((yae l1_4 b2).f3)
           ·
            rw [if_pos c54] at H
            have Q8 : (((yae l0_4 b2).f3) == ((yae l1_4 b2).f3)) = true := beq_iff_eq.mpr c54; have Q9 : (((yae l0_4 b2).f3) != ((yae l1_4 b2).f3)) = false := bne_eq_false_iff_eq.mpr c54; clear c54; replace H := Option.bind_eq_some_iff.mp H; obtain ⟨hZ, R0, H⟩ := H; (try dsimp only at H); have A55 := yad R0; clear R0
            by_cases c56 : hZ = true
            ·
             subst c56
             rw [if_pos rfl] at H
             have H' := yad H; clear H; have jQ := d3.out; have jR := d6.out; have aX : wr.cell? ⟨b3, 0, none⟩ = some (.int .i64 a0_0) := (yab b0.out 0).trans rfl; have aY : wr.cell? ⟨b3, 1, none⟩ = some (.int .i64 a0_1) := (yab b0.out 1).trans rfl; have aZ : wr.cell? ⟨b3, 2, none⟩ = some (.int .i64 a0_2) := (yab b0.out 2).trans rfl; have bA : wr.cell? ⟨b3, 3, none⟩ = some (.int .i64 a0_3) := (yab b0.out 3).trans rfl; have bB : wr.cell? ⟨b3, 4, none⟩ = some (.slice A0_4 l0_4.length c0_4) := (yab b0.out 4).trans rfl; have bC : wr.cell? ⟨b3, 5, none⟩ = some (.slice A0_5 l0_5.length c0_5) := (yab b0.out 5).trans rfl; have bD : wr.cell? ⟨b3, 6, none⟩ = some (.slice A0_6 l0_6.length c0_6) := (yab b0.out 6).trans rfl; have bE : wr.cell? ⟨b3, 7, none⟩ = some (.slice A0_7 l0_7.length c0_7) := (yab b0.out 7).trans rfl; have bF := yaa b0.out 0; have bG := yaa b0.out 1; have bH := yaa b0.out 2; have bI := yaa b0.out 3; have bJ := yaa b0.out 4; have bK := yaa b0.out 5; have bL := yaa b0.out 6; have bM := yaa b0.out 7
             have p106 : 0 ≤ (b2 : Int) := of_decide_eq_true (by first | (with_reducible assumption) | assumption)
             have q106 : b2 < (l0_4.length : Int) := of_decide_eq_true (by first | (with_reducible assumption) | assumption)
             obtain ⟨ad106, c0, c5, f6, d8, d9, e0, e1, hl106_2, hi106_2⟩ := at_T124 HR0_4.out b2 p106 q106
             cases f6
             replace d8 := (HB.out.cell (World.block_lt_of_cell? w _ d8)).trans d8; replace d9 := (HB.out.cell (World.block_lt_of_cell? w _ d9)).trans d9; replace e0 := (HB.out.cell (World.block_lt_of_cell? w _ e0)).trans e0; replace e1 := (HB.out.cell (World.block_lt_of_cell? w _ e1)).trans e1; have HR106_2 := yad hi106_2; have HC106_2 := yad hl106_2; clear hi106_2 hl106_2; replace p106 := eq_true p106; replace q106 := eq_true q106
             go_wp2_with (first | ((with_reducible refine gate_dst (N := 6) rfl ?_); (try (refine gate_guard (by rfl) ?_; dsimp only)); refine bx_ 6 #[.int .i64 0, .string (⟨#[]⟩ : ByteArray), .slice none 0 0, .int .i64 0] 124 ?_; intro b5 hg w59 hbox hb; have d2 := yad (hbox); have e2 := yad ((by rw [hg]; exact (below_size (by repeat (with_reducible first | exact HB.out | apply yah | apply yaf | apply yai | refine yaj ?_ (Aside0.out ‹_›)))) : w.heap.size ≤ b5)); replace HB := yad (yam (by repeat (with_reducible first | exact HB.out | apply yah | apply yaf | apply yai | refine yaj ?_ (Aside0.out ‹_›))) hb); have O1 := e2; have d0 := yad ((by rw [hg]; exact Nat.ne_of_lt (blk_lt (upB b0.out)) : b3 ≠ b5)); replace b0 := yad (yak (upB b0.out) hb); have e4 := yad d0.out.symm; have d1 := yad ((by rw [hg]; exact Nat.ne_of_lt (blk_lt (upB b1.out)) : b4 ≠ b5)); replace b1 := yad (yak (upB b1.out) hb); have e5 := yad d1.out.symm; clear hb hbox hg; have jS := e4.out; have jT := d0.out; have jU := e5.out; have jV := d1.out; obtain ⟨bN, bO, bP, bQ⟩ := cc4_ d2.out; obtain ⟨bR, bS, bT, bU⟩ := cf4_ d2.out; have bV : w59.cell? ⟨b4, 0, none⟩ = some (.int .i64 a1_0) := (yab b1.out 0).trans rfl; have bW : w59.cell? ⟨b4, 1, none⟩ = some (.int .i64 a1_1) := (yab b1.out 1).trans rfl; have bX : w59.cell? ⟨b4, 2, none⟩ = some (.int .i64 a1_2) := (yab b1.out 2).trans rfl; have bY : w59.cell? ⟨b4, 3, none⟩ = some (.int .i64 a1_3) := (yab b1.out 3).trans rfl; have bZ : w59.cell? ⟨b4, 4, none⟩ = some (.slice A1_4 l1_4.length c1_4) := (yab b1.out 4).trans rfl; have cA : w59.cell? ⟨b4, 5, none⟩ = some (.slice A1_5 l1_5.length c1_5) := (yab b1.out 5).trans rfl; have cB : w59.cell? ⟨b4, 6, none⟩ = some (.slice A1_6 l1_6.length c1_6) := (yab b1.out 6).trans rfl; have cC : w59.cell? ⟨b4, 7, none⟩ = some (.slice A1_7 l1_7.length c1_7) := (yab b1.out 7).trans rfl; have cD := yaa b1.out 0; have cE := yaa b1.out 1; have cF := yaa b1.out 2; have cG := yaa b1.out 3; have cH := yaa b1.out 4; have cI := yaa b1.out 5; have cJ := yaa b1.out 6; have cK := yaa b1.out 7; have p108 : 0 ≤ (b2 : Int) := of_decide_eq_true (by first | (with_reducible assumption) | assumption); have q108 : b2 < (l1_4.length : Int) := of_decide_eq_true (by first | (with_reducible assumption) | assumption); obtain ⟨ad108, f8, f9, g0, b6, b7, b8, b9, hl108_2, hi108_2⟩ := at_T124 HR1_4.out b2 p108 q108; cases g0; have hn108_0 : ad108.block ≠ b5 := Nat.ne_of_lt (Nat.lt_of_lt_of_le (by have := World.block_lt_of_cell? _ _ b6; first | rwa [yac] at this | exact this) e2.out); have hn108_1 : ad108.block ≠ b5 := Nat.ne_of_lt (Nat.lt_of_lt_of_le (by have := World.block_lt_of_cell? _ _ b6; first | rwa [yac] at this | exact this) e2.out); have hn108_2 : ad108.block ≠ b5 := Nat.ne_of_lt (Nat.lt_of_lt_of_le (by have := World.block_lt_of_cell? _ _ b6; first | rwa [yac] at this | exact this) e2.out); have hn108_3 : ad108.block ≠ b5 := Nat.ne_of_lt (Nat.lt_of_lt_of_le (by have := World.block_lt_of_cell? _ _ b6; first | rwa [yac] at this | exact this) e2.out); replace b6 := (HB.out.cell (World.block_lt_of_cell? w _ b6)).trans b6; replace b7 := (HB.out.cell (World.block_lt_of_cell? w _ b7)).trans b7; replace b8 := (HB.out.cell (World.block_lt_of_cell? w _ b8)).trans b8; replace b9 := (HB.out.cell (World.block_lt_of_cell? w _ b9)).trans b9; have HR108_2 := yad hi108_2; have HC108_2 := yad hl108_2; clear hi108_2 hl108_2; replace b6 := (yag (p := ⟨b5, 0, none⟩) (by first | (rw [yac]; exact hn108_0) | (show (Addr.add _ _).block ≠ _; rw [yac]; exact hn108_0) | exact hn108_0) (.int .i64 ((yae l0_4 b2).f0))).trans b6; replace b7 := (yag (p := ⟨b5, 0, none⟩) (by first | (rw [yac]; exact hn108_0) | (show (Addr.add _ _).block ≠ _; rw [yac]; exact hn108_0) | exact hn108_0) (.int .i64 ((yae l0_4 b2).f0))).trans b7; replace b8 := (yag (p := ⟨b5, 0, none⟩) (by first | (rw [yac]; exact hn108_0) | (show (Addr.add _ _).block ≠ _; rw [yac]; exact hn108_0) | exact hn108_0) (.int .i64 ((yae l0_4 b2).f0))).trans b8; replace b9 := (yag (p := ⟨b5, 0, none⟩) (by first | (rw [yac]; exact hn108_0) | (show (Addr.add _ _).block ≠ _; rw [yac]; exact hn108_0) | exact hn108_0) (.int .i64 ((yae l0_4 b2).f0))).trans b9; replace b6 := (yag (p := ⟨b5, 1, none⟩) (by first | (rw [yac]; exact hn108_1) | (show (Addr.add _ _).block ≠ _; rw [yac]; exact hn108_1) | exact hn108_1) (.string ((yae l0_4 b2).f1))).trans b6; replace b7 := (yag (p := ⟨b5, 1, none⟩) (by first | (rw [yac]; exact hn108_1) | (show (Addr.add _ _).block ≠ _; rw [yac]; exact hn108_1) | exact hn108_1) (.string ((yae l0_4 b2).f1))).trans b7; replace b8 := (yag (p := ⟨b5, 1, none⟩) (by first | (rw [yac]; exact hn108_1) | (show (Addr.add _ _).block ≠ _; rw [yac]; exact hn108_1) | exact hn108_1) (.string ((yae l0_4 b2).f1))).trans b8; replace b9 := (yag (p := ⟨b5, 1, none⟩) (by first | (rw [yac]; exact hn108_1) | (show (Addr.add _ _).block ≠ _; rw [yac]; exact hn108_1) | exact hn108_1) (.string ((yae l0_4 b2).f1))).trans b9; replace b6 := (yag (p := ⟨b5, 2, none⟩) (by first | (rw [yac]; exact hn108_2) | (show (Addr.add _ _).block ≠ _; rw [yac]; exact hn108_2) | exact hn108_2) (.slice c0 ((yae l0_4 b2).f2).length c5)).trans b6; replace b7 := (yag (p := ⟨b5, 2, none⟩) (by first | (rw [yac]; exact hn108_2) | (show (Addr.add _ _).block ≠ _; rw [yac]; exact hn108_2) | exact hn108_2) (.slice c0 ((yae l0_4 b2).f2).length c5)).trans b7; replace b8 := (yag (p := ⟨b5, 2, none⟩) (by first | (rw [yac]; exact hn108_2) | (show (Addr.add _ _).block ≠ _; rw [yac]; exact hn108_2) | exact hn108_2) (.slice c0 ((yae l0_4 b2).f2).length c5)).trans b8; replace b9 := (yag (p := ⟨b5, 2, none⟩) (by first | (rw [yac]; exact hn108_2) | (show (Addr.add _ _).block ≠ _; rw [yac]; exact hn108_2) | exact hn108_2) (.slice c0 ((yae l0_4 b2).f2).length c5)).trans b9; replace b6 := (yag (p := ⟨b5, 3, none⟩) (by first | (rw [yac]; exact hn108_3) | (show (Addr.add _ _).block ≠ _; rw [yac]; exact hn108_3) | exact hn108_3) (.int .i64 ((yae l0_4 b2).f3))).trans b6; replace b7 := (yag (p := ⟨b5, 3, none⟩) (by first | (rw [yac]; exact hn108_3) | (show (Addr.add _ _).block ≠ _; rw [yac]; exact hn108_3) | exact hn108_3) (.int .i64 ((yae l0_4 b2).f3))).trans b7; replace b8 := (yag (p := ⟨b5, 3, none⟩) (by first | (rw [yac]; exact hn108_3) | (show (Addr.add _ _).block ≠ _; rw [yac]; exact hn108_3) | exact hn108_3) (.int .i64 ((yae l0_4 b2).f3))).trans b8; replace b9 := (yag (p := ⟨b5, 3, none⟩) (by first | (rw [yac]; exact hn108_3) | (show (Addr.add _ _).block ≠ _; rw [yac]; exact hn108_3) | exact hn108_3) (.int .i64 ((yae l0_4 b2).f3))).trans b9; clear hn108_0; clear hn108_1; clear hn108_2; clear hn108_3; replace p108 := eq_true p108; replace q108 := eq_true q108) | ((with_reducible refine gate_dst (N := 7) rfl ?_); (try (refine gate_guard (by rfl) ?_; dsimp only)); refine bx_ 7 #[.int .i64 0, .string (⟨#[]⟩ : ByteArray), .slice none 0 0, .int .i64 0] 124 ?_; intro e3 hg w64 hbox hb; have e9 := yad (hbox); have f5 := yad ((by rw [hg]; exact (below_size (by repeat (with_reducible first | exact HB.out | apply yah | apply yaf | apply yai | refine yaj ?_ (Aside0.out ‹_›)))) : w.heap.size ≤ e3)); replace HB := yad (yam (by repeat (with_reducible first | exact HB.out | apply yah | apply yaf | apply yai | refine yaj ?_ (Aside0.out ‹_›))) hb); have O2 := f5; have d4 := yad ((by rw [hg]; exact Nat.ne_of_lt (blk_lt (g := b3) (o := .cells #[.int .i64 a0_0, .int .i64 a0_1, .int .i64 a0_2, .int .i64 a0_3, .slice (some ad106) l0_4.length c0_4, .slice A0_5 l0_5.length c0_5, .slice A0_6 l0_6.length c0_6, .slice A0_7 l0_7.length c0_7] 63 (0, 0)) (by repeat (with_reducible first | exact b0.out | refine oneB ?_ | refine blk_far ?_ d0.out _))) : b3 ≠ e3)); replace b0 := yad (yak (g := b3) (o := .cells #[.int .i64 a0_0, .int .i64 a0_1, .int .i64 a0_2, .int .i64 a0_3, .slice (some ad106) l0_4.length c0_4, .slice A0_5 l0_5.length c0_5, .slice A0_6 l0_6.length c0_6, .slice A0_7 l0_7.length c0_7] 63 (0, 0)) (by repeat (with_reducible first | exact b0.out | refine oneB ?_ | refine blk_far ?_ d0.out _)) hb); have e6 := yad d4.out.symm; have d5 := yad ((by rw [hg]; exact Nat.ne_of_lt (blk_lt (g := b4) (o := .cells #[.int .i64 a1_0, .int .i64 a1_1, .int .i64 a1_2, .int .i64 a1_3, .slice (some ad108) l1_4.length c1_4, .slice A1_5 l1_5.length c1_5, .slice A1_6 l1_6.length c1_6, .slice A1_7 l1_7.length c1_7] 63 (0, 0)) (by repeat (with_reducible first | exact b1.out | refine oneB ?_ | refine blk_far ?_ d1.out _))) : b4 ≠ e3)); replace b1 := yad (yak (g := b4) (o := .cells #[.int .i64 a1_0, .int .i64 a1_1, .int .i64 a1_2, .int .i64 a1_3, .slice (some ad108) l1_4.length c1_4, .slice A1_5 l1_5.length c1_5, .slice A1_6 l1_6.length c1_6, .slice A1_7 l1_7.length c1_7] 63 (0, 0)) (by repeat (with_reducible first | exact b1.out | refine oneB ?_ | refine blk_far ?_ d1.out _)) hb); have e7 := yad d5.out.symm; have d7 := yad ((by rw [hg]; exact Nat.ne_of_lt (blk_lt (g := b5) (o := .cells #[.int .i64 ((yae l0_4 b2).f0), .string ((yae l0_4 b2).f1), .slice c0 ((yae l0_4 b2).f2).length c5, .int .i64 ((yae l0_4 b2).f3)] 124 (0, 0)) (by (repeat refine oneB ?_); refine yal (cs := #[.int .i64 ((yae l0_4 b2).f0), .string ((yae l0_4 b2).f1), .slice c0 ((yae l0_4 b2).f2).length c5, .int .i64 0]) ?_ 3 _ rfl; refine yal (cs := #[.int .i64 ((yae l0_4 b2).f0), .string ((yae l0_4 b2).f1), .slice none 0 0, .int .i64 0]) ?_ 2 _ rfl; refine yal (cs := #[.int .i64 ((yae l0_4 b2).f0), .string (⟨#[]⟩ : ByteArray), .slice none 0 0, .int .i64 0]) ?_ 1 _ rfl; refine yal (cs := #[.int .i64 0, .string (⟨#[]⟩ : ByteArray), .slice none 0 0, .int .i64 0]) ?_ 0 _ rfl; exact upB d2.out)) : b5 ≠ e3)); replace d2 := yad (yak (g := b5) (o := .cells #[.int .i64 ((yae l0_4 b2).f0), .string ((yae l0_4 b2).f1), .slice c0 ((yae l0_4 b2).f2).length c5, .int .i64 ((yae l0_4 b2).f3)] 124 (0, 0)) (by (repeat refine oneB ?_); refine yal (cs := #[.int .i64 ((yae l0_4 b2).f0), .string ((yae l0_4 b2).f1), .slice c0 ((yae l0_4 b2).f2).length c5, .int .i64 0]) ?_ 3 _ rfl; refine yal (cs := #[.int .i64 ((yae l0_4 b2).f0), .string ((yae l0_4 b2).f1), .slice none 0 0, .int .i64 0]) ?_ 2 _ rfl; refine yal (cs := #[.int .i64 ((yae l0_4 b2).f0), .string (⟨#[]⟩ : ByteArray), .slice none 0 0, .int .i64 0]) ?_ 1 _ rfl; refine yal (cs := #[.int .i64 0, .string (⟨#[]⟩ : ByteArray), .slice none 0 0, .int .i64 0]) ?_ 0 _ rfl; exact upB d2.out) hb); have e8 := yad d7.out.symm; clear hb hbox hg; have jW := e6.out; have jX := d4.out; have jY := e7.out; have jZ := d5.out; have kA := e8.out; have kB := d7.out; obtain ⟨cL, cM, cN, cO⟩ := cc4_ e9.out; obtain ⟨cP, cQ, cR, cS⟩ := cf4_ e9.out; obtain ⟨cT, cU, cV, cW⟩ := cc4_ d2.out; obtain ⟨cX, cY, cZ⟩ := cf3_ d2.out; have dA := yaa d2.out 3) | (go_at_call 87; (with_reducible refine (laws_eaOps.calls k2 _ _ ((yae l0_4 b2).f2) _ _ ((yae l1_4 b2).f2) true _ ?side1 ?side2 ?side3 ?side4 A55.out).mono ?_); (case side1 => exact yan HR106_2.out (by repeat (with_reducible first | exact HB.out | apply yah | apply yaf | apply yai | refine yaj ?_ (Aside0.out ‹_›)))); (case side2 => exact HC106_2.out); (case side3 => exact yan HR108_2.out (by repeat (with_reducible first | exact HB.out | apply yah | apply yaf | apply yai | refine yaj ?_ (Aside0.out ‹_›)))); (case side4 => exact HC108_2.out); rintro e w' ⟨rfl, ⟨nd, rfl⟩⟩))
             go_roundg k2
             case measure => have := HJ2.out; have := HK2.out; omega
             case rel => exact ⟨(wrap64 (b2 + 1)), (by first | rfl | (simp; done) | (simp [*]; done)), H', ⟨by have := HJ2.out; have := HK2.out; omega⟩, ⟨by repeat (with_reducible first | exact b0.out | refine oneB ?_ | refine blk_far ?_ d4.out _)⟩, ⟨by repeat (with_reducible first | exact b1.out | refine oneB ?_ | refine blk_far ?_ d5.out _)⟩, ⟨by repeat (with_reducible first | exact HB.out | apply yah | apply yaf | apply yai | refine yaj ?_ (Aside0.out ‹_›))⟩⟩
            ·
             replace c56 := Bool.eq_false_iff.mpr c56
             subst c56
             rw [if_neg (show ¬ (false = true) by decide)] at H
             obtain rfl := Option.some.inj H; have kC := d3.out; have kD := d6.out; have dB : wr.cell? ⟨b3, 0, none⟩ = some (.int .i64 a0_0) := (yab b0.out 0).trans rfl; have dC : wr.cell? ⟨b3, 1, none⟩ = some (.int .i64 a0_1) := (yab b0.out 1).trans rfl; have dD : wr.cell? ⟨b3, 2, none⟩ = some (.int .i64 a0_2) := (yab b0.out 2).trans rfl; have dE : wr.cell? ⟨b3, 3, none⟩ = some (.int .i64 a0_3) := (yab b0.out 3).trans rfl; have dF : wr.cell? ⟨b3, 4, none⟩ = some (.slice A0_4 l0_4.length c0_4) := (yab b0.out 4).trans rfl; have dG : wr.cell? ⟨b3, 5, none⟩ = some (.slice A0_5 l0_5.length c0_5) := (yab b0.out 5).trans rfl; have dH : wr.cell? ⟨b3, 6, none⟩ = some (.slice A0_6 l0_6.length c0_6) := (yab b0.out 6).trans rfl; have dI : wr.cell? ⟨b3, 7, none⟩ = some (.slice A0_7 l0_7.length c0_7) := (yab b0.out 7).trans rfl; have dJ := yaa b0.out 0; have dK := yaa b0.out 1; have dL := yaa b0.out 2; have dM := yaa b0.out 3; have dN := yaa b0.out 4; have dO := yaa b0.out 5; have dP := yaa b0.out 6; have dQ := yaa b0.out 7
             have p106 : 0 ≤ (b2 : Int) := of_decide_eq_true (by first | (with_reducible assumption) | assumption)
             have q106 : b2 < (l0_4.length : Int) := of_decide_eq_true (by first | (with_reducible assumption) | assumption)
             obtain ⟨ad106, c0, c5, f6, d8, d9, e0, e1, hl106_2, hi106_2⟩ := at_T124 HR0_4.out b2 p106 q106
             cases f6
             replace d8 := (HB.out.cell (World.block_lt_of_cell? w _ d8)).trans d8; replace d9 := (HB.out.cell (World.block_lt_of_cell? w _ d9)).trans d9; replace e0 := (HB.out.cell (World.block_lt_of_cell? w _ e0)).trans e0; replace e1 := (HB.out.cell (World.block_lt_of_cell? w _ e1)).trans e1; have HR106_2 := yad hi106_2; have HC106_2 := yad hl106_2; clear hi106_2 hl106_2; replace p106 := eq_true p106; replace q106 := eq_true q106
             go_wp2_with (first | ((with_reducible refine gate_dst (N := 6) rfl ?_); (try (refine gate_guard (by rfl) ?_; dsimp only)); refine bx_ 6 #[.int .i64 0, .string (⟨#[]⟩ : ByteArray), .slice none 0 0, .int .i64 0] 124 ?_; intro b5 hg w72 hbox hb; have d2 := yad (hbox); have e2 := yad ((by rw [hg]; exact (below_size (by repeat (with_reducible first | exact HB.out | apply yah | apply yaf | apply yai | refine yaj ?_ (Aside0.out ‹_›)))) : w.heap.size ≤ b5)); replace HB := yad (yam (by repeat (with_reducible first | exact HB.out | apply yah | apply yaf | apply yai | refine yaj ?_ (Aside0.out ‹_›))) hb); have O1 := e2; have d0 := yad ((by rw [hg]; exact Nat.ne_of_lt (blk_lt (upB b0.out)) : b3 ≠ b5)); replace b0 := yad (yak (upB b0.out) hb); have e4 := yad d0.out.symm; have d1 := yad ((by rw [hg]; exact Nat.ne_of_lt (blk_lt (upB b1.out)) : b4 ≠ b5)); replace b1 := yad (yak (upB b1.out) hb); have e5 := yad d1.out.symm; clear hb hbox hg; have kE := e4.out; have kF := d0.out; have kG := e5.out; have kH := d1.out; obtain ⟨dR, dS, dT, dU⟩ := cc4_ d2.out; obtain ⟨dV, dW, dX, dY⟩ := cf4_ d2.out; have dZ : w72.cell? ⟨b4, 0, none⟩ = some (.int .i64 a1_0) := (yab b1.out 0).trans rfl; have eA : w72.cell? ⟨b4, 1, none⟩ = some (.int .i64 a1_1) := (yab b1.out 1).trans rfl; have eB : w72.cell? ⟨b4, 2, none⟩ = some (.int .i64 a1_2) := (yab b1.out 2).trans rfl; have eC : w72.cell? ⟨b4, 3, none⟩ = some (.int .i64 a1_3) := (yab b1.out 3).trans rfl; have eD : w72.cell? ⟨b4, 4, none⟩ = some (.slice A1_4 l1_4.length c1_4) := (yab b1.out 4).trans rfl; have eE : w72.cell? ⟨b4, 5, none⟩ = some (.slice A1_5 l1_5.length c1_5) := (yab b1.out 5).trans rfl; have eF : w72.cell? ⟨b4, 6, none⟩ = some (.slice A1_6 l1_6.length c1_6) := (yab b1.out 6).trans rfl; have eG : w72.cell? ⟨b4, 7, none⟩ = some (.slice A1_7 l1_7.length c1_7) := (yab b1.out 7).trans rfl; have eH := yaa b1.out 0; have eI := yaa b1.out 1; have eJ := yaa b1.out 2; have eK := yaa b1.out 3; have eL := yaa b1.out 4; have eM := yaa b1.out 5; have eN := yaa b1.out 6; have eO := yaa b1.out 7; have p108 : 0 ≤ (b2 : Int) := of_decide_eq_true (by first | (with_reducible assumption) | assumption); have q108 : b2 < (l1_4.length : Int) := of_decide_eq_true (by first | (with_reducible assumption) | assumption); obtain ⟨ad108, f8, f9, g0, b6, b7, b8, b9, hl108_2, hi108_2⟩ := at_T124 HR1_4.out b2 p108 q108; cases g0; have hn108_0 : ad108.block ≠ b5 := Nat.ne_of_lt (Nat.lt_of_lt_of_le (by have := World.block_lt_of_cell? _ _ b6; first | rwa [yac] at this | exact this) e2.out); have hn108_1 : ad108.block ≠ b5 := Nat.ne_of_lt (Nat.lt_of_lt_of_le (by have := World.block_lt_of_cell? _ _ b6; first | rwa [yac] at this | exact this) e2.out); have hn108_2 : ad108.block ≠ b5 := Nat.ne_of_lt (Nat.lt_of_lt_of_le (by have := World.block_lt_of_cell? _ _ b6; first | rwa [yac] at this | exact this) e2.out); have hn108_3 : ad108.block ≠ b5 := Nat.ne_of_lt (Nat.lt_of_lt_of_le (by have := World.block_lt_of_cell? _ _ b6; first | rwa [yac] at this | exact this) e2.out); replace b6 := (HB.out.cell (World.block_lt_of_cell? w _ b6)).trans b6; replace b7 := (HB.out.cell (World.block_lt_of_cell? w _ b7)).trans b7; replace b8 := (HB.out.cell (World.block_lt_of_cell? w _ b8)).trans b8; replace b9 := (HB.out.cell (World.block_lt_of_cell? w _ b9)).trans b9; have HR108_2 := yad hi108_2; have HC108_2 := yad hl108_2; clear hi108_2 hl108_2; replace b6 := (yag (p := ⟨b5, 0, none⟩) (by first | (rw [yac]; exact hn108_0) | (show (Addr.add _ _).block ≠ _; rw [yac]; exact hn108_0) | exact hn108_0) (.int .i64 ((yae l0_4 b2).f0))).trans b6; replace b7 := (yag (p := ⟨b5, 0, none⟩) (by first | (rw [yac]; exact hn108_0) | (show (Addr.add _ _).block ≠ _; rw [yac]; exact hn108_0) | exact hn108_0) (.int .i64 ((yae l0_4 b2).f0))).trans b7; replace b8 := (yag (p := ⟨b5, 0, none⟩) (by first | (rw [yac]; exact hn108_0) | (show (Addr.add _ _).block ≠ _; rw [yac]; exact hn108_0) | exact hn108_0) (.int .i64 ((yae l0_4 b2).f0))).trans b8; replace b9 := (yag (p := ⟨b5, 0, none⟩) (by first | (rw [yac]; exact hn108_0) | (show (Addr.add _ _).block ≠ _; rw [yac]; exact hn108_0) | exact hn108_0) (.int .i64 ((yae l0_4 b2).f0))).trans b9; replace b6 := (yag (p := ⟨b5, 1, none⟩) (by first | (rw [yac]; exact hn108_1) | (show (Addr.add _ _).block ≠ _; rw [yac]; exact hn108_1) | exact hn108_1) (.string ((yae l0_4 b2).f1))).trans b6; replace b7 := (yag (p := ⟨b5, 1, none⟩) (by first | (rw [yac]; exact hn108_1) | (show (Addr.add _ _).block ≠ _; rw [yac]; exact hn108_1) | exact hn108_1) (.string ((yae l0_4 b2).f1))).trans b7; replace b8 := (yag (p := ⟨b5, 1, none⟩) (by first | (rw [yac]; exact hn108_1) | (show (Addr.add _ _).block ≠ _; rw [yac]; exact hn108_1) | exact hn108_1) (.string ((yae l0_4 b2).f1))).trans b8; replace b9 := (yag (p := ⟨b5, 1, none⟩) (by first | (rw [yac]; exact hn108_1) | (show (Addr.add _ _).block ≠ _; rw [yac]; exact hn108_1) | exact hn108_1) (.string ((yae l0_4 b2).f1))).trans b9; replace b6 := (yag (p := ⟨b5, 2, none⟩) (by first | (rw [yac]; exact hn108_2) | (show (Addr.add _ _).block ≠ _; rw [yac]; exact hn108_2) | exact hn108_2) (.slice c0 ((yae l0_4 b2).f2).length c5)).trans b6; replace b7 := (yag (p := ⟨b5, 2, none⟩) (by first | (rw [yac]; exact hn108_2) | (show (Addr.add _ _).block ≠ _; rw [yac]; exact hn108_2) | exact hn108_2) (.slice c0 ((yae l0_4 b2).f2).length c5)).trans b7; replace b8 := (yag (p := ⟨b5, 2, none⟩) (by first | (rw [yac]; exact hn108_2) | (show (Addr.add _ _).block ≠ _; rw [yac]; exact hn108_2) | exact hn108_2) (.slice c0 ((yae l0_4 b2).f2).length c5)).trans b8; replace b9 := (yag (p := ⟨b5, 2, none⟩) (by first | (rw [yac]; exact hn108_2) | (show (Addr.add _ _).block ≠ _; rw [yac]; exact hn108_2) | exact hn108_2) (.slice c0 ((yae l0_4 b2).f2).length c5)).trans b9; replace b6 := (yag (p := ⟨b5, 3, none⟩) (by first | (rw [yac]; exact hn108_3) | (show (Addr.add _ _).block ≠ _; rw [yac]; exact hn108_3) | exact hn108_3) (.int .i64 ((yae l0_4 b2).f3))).trans b6; replace b7 := (yag (p := ⟨b5, 3, none⟩) (by first | (rw [yac]; exact hn108_3) | (show (Addr.add _ _).block ≠ _; rw [yac]; exact hn108_3) | exact hn108_3) (.int .i64 ((yae l0_4 b2).f3))).trans b7; replace b8 := (yag (p := ⟨b5, 3, none⟩) (by first | (rw [yac]; exact hn108_3) | (show (Addr.add _ _).block ≠ _; rw [yac]; exact hn108_3) | exact hn108_3) (.int .i64 ((yae l0_4 b2).f3))).trans b8; replace b9 := (yag (p := ⟨b5, 3, none⟩) (by first | (rw [yac]; exact hn108_3) | (show (Addr.add _ _).block ≠ _; rw [yac]; exact hn108_3) | exact hn108_3) (.int .i64 ((yae l0_4 b2).f3))).trans b9; clear hn108_0; clear hn108_1; clear hn108_2; clear hn108_3; replace p108 := eq_true p108; replace q108 := eq_true q108) | ((with_reducible refine gate_dst (N := 7) rfl ?_); (try (refine gate_guard (by rfl) ?_; dsimp only)); refine bx_ 7 #[.int .i64 0, .string (⟨#[]⟩ : ByteArray), .slice none 0 0, .int .i64 0] 124 ?_; intro e3 hg w77 hbox hb; have e9 := yad (hbox); have f5 := yad ((by rw [hg]; exact (below_size (by repeat (with_reducible first | exact HB.out | apply yah | apply yaf | apply yai | refine yaj ?_ (Aside0.out ‹_›)))) : w.heap.size ≤ e3)); replace HB := yad (yam (by repeat (with_reducible first | exact HB.out | apply yah | apply yaf | apply yai | refine yaj ?_ (Aside0.out ‹_›))) hb); have O2 := f5; have d4 := yad ((by rw [hg]; exact Nat.ne_of_lt (blk_lt (g := b3) (o := .cells #[.int .i64 a0_0, .int .i64 a0_1, .int .i64 a0_2, .int .i64 a0_3, .slice (some ad106) l0_4.length c0_4, .slice A0_5 l0_5.length c0_5, .slice A0_6 l0_6.length c0_6, .slice A0_7 l0_7.length c0_7] 63 (0, 0)) (by repeat (with_reducible first | exact b0.out | refine oneB ?_ | refine blk_far ?_ d0.out _))) : b3 ≠ e3)); replace b0 := yad (yak (g := b3) (o := .cells #[.int .i64 a0_0, .int .i64 a0_1, .int .i64 a0_2, .int .i64 a0_3, .slice (some ad106) l0_4.length c0_4, .slice A0_5 l0_5.length c0_5, .slice A0_6 l0_6.length c0_6, .slice A0_7 l0_7.length c0_7] 63 (0, 0)) (by repeat (with_reducible first | exact b0.out | refine oneB ?_ | refine blk_far ?_ d0.out _)) hb); have e6 := yad d4.out.symm; have d5 := yad ((by rw [hg]; exact Nat.ne_of_lt (blk_lt (g := b4) (o := .cells #[.int .i64 a1_0, .int .i64 a1_1, .int .i64 a1_2, .int .i64 a1_3, .slice (some ad108) l1_4.length c1_4, .slice A1_5 l1_5.length c1_5, .slice A1_6 l1_6.length c1_6, .slice A1_7 l1_7.length c1_7] 63 (0, 0)) (by repeat (with_reducible first | exact b1.out | refine oneB ?_ | refine blk_far ?_ d1.out _))) : b4 ≠ e3)); replace b1 := yad (yak (g := b4) (o := .cells #[.int .i64 a1_0, .int .i64 a1_1, .int .i64 a1_2, .int .i64 a1_3, .slice (some ad108) l1_4.length c1_4, .slice A1_5 l1_5.length c1_5, .slice A1_6 l1_6.length c1_6, .slice A1_7 l1_7.length c1_7] 63 (0, 0)) (by repeat (with_reducible first | exact b1.out | refine oneB ?_ | refine blk_far ?_ d1.out _)) hb); have e7 := yad d5.out.symm; have d7 := yad ((by rw [hg]; exact Nat.ne_of_lt (blk_lt (g := b5) (o := .cells #[.int .i64 ((yae l0_4 b2).f0), .string ((yae l0_4 b2).f1), .slice c0 ((yae l0_4 b2).f2).length c5, .int .i64 ((yae l0_4 b2).f3)] 124 (0, 0)) (by (repeat refine oneB ?_); refine yal (cs := #[.int .i64 ((yae l0_4 b2).f0), .string ((yae l0_4 b2).f1), .slice c0 ((yae l0_4 b2).f2).length c5, .int .i64 0]) ?_ 3 _ rfl; refine yal (cs := #[.int .i64 ((yae l0_4 b2).f0), .string ((yae l0_4 b2).f1), .slice none 0 0, .int .i64 0]) ?_ 2 _ rfl; refine yal (cs := #[.int .i64 ((yae l0_4 b2).f0), .string (⟨#[]⟩ : ByteArray), .slice none 0 0, .int .i64 0]) ?_ 1 _ rfl; refine yal (cs := #[.int .i64 0, .string (⟨#[]⟩ : ByteArray), .slice none 0 0, .int .i64 0]) ?_ 0 _ rfl; exact upB d2.out)) : b5 ≠ e3)); replace d2 := yad (yak (g := b5) (o := .cells #[.int .i64 ((yae l0_4 b2).f0), .string ((yae l0_4 b2).f1), .slice c0 ((yae l0_4 b2).f2).length c5, .int .i64 ((yae l0_4 b2).f3)] 124 (0, 0)) (by (repeat refine oneB ?_); refine yal (cs := #[.int .i64 ((yae l0_4 b2).f0), .string ((yae l0_4 b2).f1), .slice c0 ((yae l0_4 b2).f2).length c5, .int .i64 0]) ?_ 3 _ rfl; refine yal (cs := #[.int .i64 ((yae l0_4 b2).f0), .string ((yae l0_4 b2).f1), .slice none 0 0, .int .i64 0]) ?_ 2 _ rfl; refine yal (cs := #[.int .i64 ((yae l0_4 b2).f0), .string (⟨#[]⟩ : ByteArray), .slice none 0 0, .int .i64 0]) ?_ 1 _ rfl; refine yal (cs := #[.int .i64 0, .string (⟨#[]⟩ : ByteArray), .slice none 0 0, .int .i64 0]) ?_ 0 _ rfl; exact upB d2.out) hb); have e8 := yad d7.out.symm; clear hb hbox hg; have kI := e6.out; have kJ := d4.out; have kK := e7.out; have kL := d5.out; have kM := e8.out; have kN := d7.out; obtain ⟨eP, eQ, eR, eS⟩ := cc4_ e9.out; obtain ⟨eT, eU, eV, eW⟩ := cf4_ e9.out; obtain ⟨eX, eY, eZ, fA⟩ := cc4_ d2.out; obtain ⟨fB, fC, fD⟩ := cf3_ d2.out; have fE := yaa d2.out 3) | (go_at_call 87; (with_reducible refine (laws_eaOps.calls k2 _ _ ((yae l0_4 b2).f2) _ _ ((yae l1_4 b2).f2) false _ ?side1 ?side2 ?side3 ?side4 A55.out).mono ?_); (case side1 => exact yan HR106_2.out (by repeat (with_reducible first | exact HB.out | apply yah | apply yaf | apply yai | refine yaj ?_ (Aside0.out ‹_›)))); (case side2 => exact HC106_2.out); (case side3 => exact yan HR108_2.out (by repeat (with_reducible first | exact HB.out | apply yah | apply yaf | apply yai | refine yaj ?_ (Aside0.out ‹_›)))); (case side4 => exact HC108_2.out); rintro e w' ⟨rfl, ⟨nd, rfl⟩⟩))
             go_ret
             exact ⟨by first | rfl | (simp [*, errW_none, errW_some] <;> rfl), by repeat (with_reducible first | exact HB.out | apply yah | apply yaf | apply yai | refine yaj ?_ (Aside0.out ‹_›))⟩
           ·
            rw [if_neg c54] at H
            have Q8 : (((yae l0_4 b2).f3) == ((yae l1_4 b2).f3)) = false := beq_eq_false_iff_ne.mpr c54; have Q9 : (((yae l0_4 b2).f3) != ((yae l1_4 b2).f3)) = true := bne_iff_ne.mpr c54; obtain rfl := Option.some.inj H; have kO := d3.out; have kP := d6.out; have fF : wr.cell? ⟨b3, 0, none⟩ = some (.int .i64 a0_0) := (yab b0.out 0).trans rfl; have fG : wr.cell? ⟨b3, 1, none⟩ = some (.int .i64 a0_1) := (yab b0.out 1).trans rfl; have fH : wr.cell? ⟨b3, 2, none⟩ = some (.int .i64 a0_2) := (yab b0.out 2).trans rfl; have fI : wr.cell? ⟨b3, 3, none⟩ = some (.int .i64 a0_3) := (yab b0.out 3).trans rfl; have fJ : wr.cell? ⟨b3, 4, none⟩ = some (.slice A0_4 l0_4.length c0_4) := (yab b0.out 4).trans rfl; have fK : wr.cell? ⟨b3, 5, none⟩ = some (.slice A0_5 l0_5.length c0_5) := (yab b0.out 5).trans rfl; have fL : wr.cell? ⟨b3, 6, none⟩ = some (.slice A0_6 l0_6.length c0_6) := (yab b0.out 6).trans rfl; have fM : wr.cell? ⟨b3, 7, none⟩ = some (.slice A0_7 l0_7.length c0_7) := (yab b0.out 7).trans rfl; have fN := yaa b0.out 0; have fO := yaa b0.out 1; have fP := yaa b0.out 2; have fQ := yaa b0.out 3; have fR := yaa b0.out 4; have fS := yaa b0.out 5; have fT := yaa b0.out 6; have fU := yaa b0.out 7
            have p106 : 0 ≤ (b2 : Int) := of_decide_eq_true (by first | (with_reducible assumption) | assumption)
            have q106 : b2 < (l0_4.length : Int) := of_decide_eq_true (by first | (with_reducible assumption) | assumption)
            obtain ⟨ad106, c0, c5, f6, d8, d9, e0, e1, hl106_2, hi106_2⟩ := at_T124 HR0_4.out b2 p106 q106
            cases f6
            replace d8 := (HB.out.cell (World.block_lt_of_cell? w _ d8)).trans d8; replace d9 := (HB.out.cell (World.block_lt_of_cell? w _ d9)).trans d9; replace e0 := (HB.out.cell (World.block_lt_of_cell? w _ e0)).trans e0; replace e1 := (HB.out.cell (World.block_lt_of_cell? w _ e1)).trans e1; have HR106_2 := yad hi106_2; have HC106_2 := yad hl106_2; clear hi106_2 hl106_2; replace p106 := eq_true p106; replace q106 := eq_true q106
            go_wp2_with (first | ((with_reducible refine gate_dst (N := 6) rfl ?_); (try (refine gate_guard (by rfl) ?_; dsimp only)); refine bx_ 6 #[.int .i64 0, .string (⟨#[]⟩ : ByteArray), .slice none 0 0, .int .i64 0] 124 ?_; intro b5 hg w85 hbox hb; have d2 := yad (hbox); have e2 := yad ((by rw [hg]; exact (below_size (by repeat (with_reducible first | exact HB.out | apply yah | apply yaf | apply yai | refine yaj ?_ (Aside0.out ‹_›)))) : w.heap.size ≤ b5)); replace HB := yad (yam (by repeat (with_reducible first | exact HB.out | apply yah | apply yaf | apply yai | refine yaj ?_ (Aside0.out ‹_›))) hb); have O1 := e2; have d0 := yad ((by rw [hg]; exact Nat.ne_of_lt (blk_lt (upB b0.out)) : b3 ≠ b5)); replace b0 := yad (yak (upB b0.out) hb); have e4 := yad d0.out.symm; have d1 := yad ((by rw [hg]; exact Nat.ne_of_lt (blk_lt (upB b1.out)) : b4 ≠ b5)); replace b1 := yad (yak (upB b1.out) hb); have e5 := yad d1.out.symm; clear hb hbox hg; have kQ := e4.out; have kR := d0.out; have kS := e5.out; have kT := d1.out; obtain ⟨fV, fW, fX, fY⟩ := cc4_ d2.out; obtain ⟨fZ, gA, gB, gC⟩ := cf4_ d2.out; have gD : w85.cell? ⟨b4, 0, none⟩ = some (.int .i64 a1_0) := (yab b1.out 0).trans rfl; have gE : w85.cell? ⟨b4, 1, none⟩ = some (.int .i64 a1_1) := (yab b1.out 1).trans rfl; have gF : w85.cell? ⟨b4, 2, none⟩ = some (.int .i64 a1_2) := (yab b1.out 2).trans rfl; have gG : w85.cell? ⟨b4, 3, none⟩ = some (.int .i64 a1_3) := (yab b1.out 3).trans rfl; have gH : w85.cell? ⟨b4, 4, none⟩ = some (.slice A1_4 l1_4.length c1_4) := (yab b1.out 4).trans rfl; have gI : w85.cell? ⟨b4, 5, none⟩ = some (.slice A1_5 l1_5.length c1_5) := (yab b1.out 5).trans rfl; have gJ : w85.cell? ⟨b4, 6, none⟩ = some (.slice A1_6 l1_6.length c1_6) := (yab b1.out 6).trans rfl; have gK : w85.cell? ⟨b4, 7, none⟩ = some (.slice A1_7 l1_7.length c1_7) := (yab b1.out 7).trans rfl; have gL := yaa b1.out 0; have gM := yaa b1.out 1; have gN := yaa b1.out 2; have gO := yaa b1.out 3; have gP := yaa b1.out 4; have gQ := yaa b1.out 5; have gR := yaa b1.out 6; have gS := yaa b1.out 7; have p108 : 0 ≤ (b2 : Int) := of_decide_eq_true (by first | (with_reducible assumption) | assumption); have q108 : b2 < (l1_4.length : Int) := of_decide_eq_true (by first | (with_reducible assumption) | assumption); obtain ⟨ad108, f8, f9, g0, b6, b7, b8, b9, hl108_2, hi108_2⟩ := at_T124 HR1_4.out b2 p108 q108; cases g0; have hn108_0 : ad108.block ≠ b5 := Nat.ne_of_lt (Nat.lt_of_lt_of_le (by have := World.block_lt_of_cell? _ _ b6; first | rwa [yac] at this | exact this) e2.out); have hn108_1 : ad108.block ≠ b5 := Nat.ne_of_lt (Nat.lt_of_lt_of_le (by have := World.block_lt_of_cell? _ _ b6; first | rwa [yac] at this | exact this) e2.out); have hn108_2 : ad108.block ≠ b5 := Nat.ne_of_lt (Nat.lt_of_lt_of_le (by have := World.block_lt_of_cell? _ _ b6; first | rwa [yac] at this | exact this) e2.out); have hn108_3 : ad108.block ≠ b5 := Nat.ne_of_lt (Nat.lt_of_lt_of_le (by have := World.block_lt_of_cell? _ _ b6; first | rwa [yac] at this | exact this) e2.out); replace b6 := (HB.out.cell (World.block_lt_of_cell? w _ b6)).trans b6; replace b7 := (HB.out.cell (World.block_lt_of_cell? w _ b7)).trans b7; replace b8 := (HB.out.cell (World.block_lt_of_cell? w _ b8)).trans b8; replace b9 := (HB.out.cell (World.block_lt_of_cell? w _ b9)).trans b9; have HR108_2 := yad hi108_2; have HC108_2 := yad hl108_2; clear hi108_2 hl108_2; replace b6 := (yag (p := ⟨b5, 0, none⟩) (by first | (rw [yac]; exact hn108_0) | (show (Addr.add _ _).block ≠ _; rw [yac]; exact hn108_0) | exact hn108_0) (.int .i64 ((yae l0_4 b2).f0))).trans b6; replace b7 := (yag (p := ⟨b5, 0, none⟩) (by first | (rw [yac]; exact hn108_0) | (show (Addr.add _ _).block ≠ _; rw [yac]; exact hn108_0) | exact hn108_0) (.int .i64 ((yae l0_4 b2).f0))).trans b7; replace b8 := (yag (p := ⟨b5, 0, none⟩) (by first | (rw [yac]; exact hn108_0) | (show (Addr.add _ _).block ≠ _; rw [yac]; exact hn108_0) | exact hn108_0) (.int .i64 ((yae l0_4 b2).f0))).trans b8; replace b9 := (yag (p := ⟨b5, 0, none⟩) (by first | (rw [yac]; exact hn108_0) | (show (Addr.add _ _).block ≠ _; rw [yac]; exact hn108_0) | exact hn108_0) (.int .i64 ((yae l0_4 b2).f0))).trans b9; replace b6 := (yag (p := ⟨b5, 1, none⟩) (by first | (rw [yac]; exact hn108_1) | (show (Addr.add _ _).block ≠ _; rw [yac]; exact hn108_1) | exact hn108_1) (.string ((yae l0_4 b2).f1))).trans b6; replace b7 := (yag (p := ⟨b5, 1, none⟩) (by first | (rw [yac]; exact hn108_1) | (show (Addr.add _ _).block ≠ _; rw [yac]; exact hn108_1) | exact hn108_1) (.string ((yae l0_4 b2).f1))).trans b7; replace b8 := (yag (p := ⟨b5, 1, none⟩) (by first | (rw [yac]; exact hn108_1) | (show (Addr.add _ _).block ≠ _; rw [yac]; exact hn108_1) | exact hn108_1) (.string ((yae l0_4 b2).f1))).trans b8; replace b9 := (yag (p := ⟨b5, 1, none⟩) (by first | (rw [yac]; exact hn108_1) | (show (Addr.add _ _).block ≠ _; rw [yac]; exact hn108_1) | exact hn108_1) (.string ((yae l0_4 b2).f1))).trans b9; replace b6 := (yag (p := ⟨b5, 2, none⟩) (by first | (rw [yac]; exact hn108_2) | (show (Addr.add _ _).block ≠ _; rw [yac]; exact hn108_2) | exact hn108_2) (.slice c0 ((yae l0_4 b2).f2).length c5)).trans b6; replace b7 := (yag (p := ⟨b5, 2, none⟩) (by first | (rw [yac]; exact hn108_2) | (show (Addr.add _ _).block ≠ _; rw [yac]; exact hn108_2) | exact hn108_2) (.slice c0 ((yae l0_4 b2).f2).length c5)).trans b7; replace b8 := (yag (p := ⟨b5, 2, none⟩) (by first | (rw [yac]; exact hn108_2) | (show (Addr.add _ _).block ≠ _; rw [yac]; exact hn108_2) | exact hn108_2) (.slice c0 ((yae l0_4 b2).f2).length c5)).trans b8; replace b9 := (yag (p := ⟨b5, 2, none⟩) (by first | (rw [yac]; exact hn108_2) | (show (Addr.add _ _).block ≠ _; rw [yac]; exact hn108_2) | exact hn108_2) (.slice c0 ((yae l0_4 b2).f2).length c5)).trans b9; replace b6 := (yag (p := ⟨b5, 3, none⟩) (by first | (rw [yac]; exact hn108_3) | (show (Addr.add _ _).block ≠ _; rw [yac]; exact hn108_3) | exact hn108_3) (.int .i64 ((yae l0_4 b2).f3))).trans b6; replace b7 := (yag (p := ⟨b5, 3, none⟩) (by first | (rw [yac]; exact hn108_3) | (show (Addr.add _ _).block ≠ _; rw [yac]; exact hn108_3) | exact hn108_3) (.int .i64 ((yae l0_4 b2).f3))).trans b7; replace b8 := (yag (p := ⟨b5, 3, none⟩) (by first | (rw [yac]; exact hn108_3) | (show (Addr.add _ _).block ≠ _; rw [yac]; exact hn108_3) | exact hn108_3) (.int .i64 ((yae l0_4 b2).f3))).trans b8; replace b9 := (yag (p := ⟨b5, 3, none⟩) (by first | (rw [yac]; exact hn108_3) | (show (Addr.add _ _).block ≠ _; rw [yac]; exact hn108_3) | exact hn108_3) (.int .i64 ((yae l0_4 b2).f3))).trans b9; clear hn108_0; clear hn108_1; clear hn108_2; clear hn108_3; replace p108 := eq_true p108; replace q108 := eq_true q108) | ((with_reducible refine gate_dst (N := 7) rfl ?_); (try (refine gate_guard (by rfl) ?_; dsimp only)); refine bx_ 7 #[.int .i64 0, .string (⟨#[]⟩ : ByteArray), .slice none 0 0, .int .i64 0] 124 ?_; intro e3 hg w90 hbox hb; have e9 := yad (hbox); have f5 := yad ((by rw [hg]; exact (below_size (by repeat (with_reducible first | exact HB.out | apply yah | apply yaf | apply yai | refine yaj ?_ (Aside0.out ‹_›)))) : w.heap.size ≤ e3)); replace HB := yad (yam (by repeat (with_reducible first | exact HB.out | apply yah | apply yaf | apply yai | refine yaj ?_ (Aside0.out ‹_›))) hb); have O2 := f5; have d4 := yad ((by rw [hg]; exact Nat.ne_of_lt (blk_lt (g := b3) (o := .cells #[.int .i64 a0_0, .int .i64 a0_1, .int .i64 a0_2, .int .i64 a0_3, .slice (some ad106) l0_4.length c0_4, .slice A0_5 l0_5.length c0_5, .slice A0_6 l0_6.length c0_6, .slice A0_7 l0_7.length c0_7] 63 (0, 0)) (by repeat (with_reducible first | exact b0.out | refine oneB ?_ | refine blk_far ?_ d0.out _))) : b3 ≠ e3)); replace b0 := yad (yak (g := b3) (o := .cells #[.int .i64 a0_0, .int .i64 a0_1, .int .i64 a0_2, .int .i64 a0_3, .slice (some ad106) l0_4.length c0_4, .slice A0_5 l0_5.length c0_5, .slice A0_6 l0_6.length c0_6, .slice A0_7 l0_7.length c0_7] 63 (0, 0)) (by repeat (with_reducible first | exact b0.out | refine oneB ?_ | refine blk_far ?_ d0.out _)) hb); have e6 := yad d4.out.symm; have d5 := yad ((by rw [hg]; exact Nat.ne_of_lt (blk_lt (g := b4) (o := .cells #[.int .i64 a1_0, .int .i64 a1_1, .int .i64 a1_2, .int .i64 a1_3, .slice (some ad108) l1_4.length c1_4, .slice A1_5 l1_5.length c1_5, .slice A1_6 l1_6.length c1_6, .slice A1_7 l1_7.length c1_7] 63 (0, 0)) (by repeat (with_reducible first | exact b1.out | refine oneB ?_ | refine blk_far ?_ d1.out _))) : b4 ≠ e3)); replace b1 := yad (yak (g := b4) (o := .cells #[.int .i64 a1_0, .int .i64 a1_1, .int .i64 a1_2, .int .i64 a1_3, .slice (some ad108) l1_4.length c1_4, .slice A1_5 l1_5.length c1_5, .slice A1_6 l1_6.length c1_6, .slice A1_7 l1_7.length c1_7] 63 (0, 0)) (by repeat (with_reducible first | exact b1.out | refine oneB ?_ | refine blk_far ?_ d1.out _)) hb); have e7 := yad d5.out.symm; have d7 := yad ((by rw [hg]; exact Nat.ne_of_lt (blk_lt (g := b5) (o := .cells #[.int .i64 ((yae l0_4 b2).f0), .string ((yae l0_4 b2).f1), .slice c0 ((yae l0_4 b2).f2).length c5, .int .i64 ((yae l0_4 b2).f3)] 124 (0, 0)) (by (repeat refine oneB ?_); refine yal (cs := #[.int .i64 ((yae l0_4 b2).f0), .string ((yae l0_4 b2).f1), .slice c0 ((yae l0_4 b2).f2).length c5, .int .i64 0]) ?_ 3 _ rfl; refine yal (cs := #[.int .i64 ((yae l0_4 b2).f0), .string ((yae l0_4 b2).f1), .slice none 0 0, .int .i64 0]) ?_ 2 _ rfl; refine yal (cs := #[.int .i64 ((yae l0_4 b2).f0), .string (⟨#[]⟩ : ByteArray), .slice none 0 0, .int .i64 0]) ?_ 1 _ rfl; refine yal (cs := #[.int .i64 0, .string (⟨#[]⟩ : ByteArray), .slice none 0 0, .int .i64 0]) ?_ 0 _ rfl; exact upB d2.out)) : b5 ≠ e3)); replace d2 := yad (yak (g := b5) (o := .cells #[.int .i64 ((yae l0_4 b2).f0), .string ((yae l0_4 b2).f1), .slice c0 ((yae l0_4 b2).f2).length c5, .int .i64 ((yae l0_4 b2).f3)] 124 (0, 0)) (by (repeat refine oneB ?_); refine yal (cs := #[.int .i64 ((yae l0_4 b2).f0), .string ((yae l0_4 b2).f1), .slice c0 ((yae l0_4 b2).f2).length c5, .int .i64 0]) ?_ 3 _ rfl; refine yal (cs := #[.int .i64 ((yae l0_4 b2).f0), .string ((yae l0_4 b2).f1), .slice none 0 0, .int .i64 0]) ?_ 2 _ rfl; refine yal (cs := #[.int .i64 ((yae l0_4 b2).f0), .string (⟨#[]⟩ : ByteArray), .slice none 0 0, .int .i64 0]) ?_ 1 _ rfl; refine yal (cs := #[.int .i64 0, .string (⟨#[]⟩ : ByteArray), .slice none 0 0, .int .i64 0]) ?_ 0 _ rfl; exact upB d2.out) hb); have e8 := yad d7.out.symm; clear hb hbox hg; have kU := e6.out; have kV := d4.out; have kW := e7.out; have kX := d5.out; have kY := e8.out; have kZ := d7.out; obtain ⟨gT, gU, gV, gW⟩ := cc4_ e9.out; obtain ⟨gX, gY, gZ, hA⟩ := cf4_ e9.out; obtain ⟨hB, hC, hD, hE⟩ := cc4_ d2.out; obtain ⟨hF, hG, hH⟩ := cf3_ d2.out; have hI := yaa d2.out 3))
            go_ret
            exact ⟨by first | rfl | (simp [*, errW_none, errW_some] <;> rfl), by repeat (with_reducible first | exact HB.out | apply yah | apply yaf | apply yai | refine yaj ?_ (Aside0.out ‹_›))⟩
          ·
           rw [if_neg c53] at H
           have Q6 : (((yae l0_4 b2).f1).toList == ((yae l1_4 b2).f1).toList) = false := beq_eq_false_iff_ne.mpr c53; have Q7 : (((yae l0_4 b2).f1).toList != ((yae l1_4 b2).f1).toList) = true := bne_iff_ne.mpr c53; obtain rfl := Option.some.inj H; have lA := d3.out; have lB := d6.out; have hJ : wr.cell? ⟨b3, 0, none⟩ = some (.int .i64 a0_0) := (yab b0.out 0).trans rfl; have hK : wr.cell? ⟨b3, 1, none⟩ = some (.int .i64 a0_1) := (yab b0.out 1).trans rfl; have hL : wr.cell? ⟨b3, 2, none⟩ = some (.int .i64 a0_2) := (yab b0.out 2).trans rfl; have hM : wr.cell? ⟨b3, 3, none⟩ = some (.int .i64 a0_3) := (yab b0.out 3).trans rfl; have hN : wr.cell? ⟨b3, 4, none⟩ = some (.slice A0_4 l0_4.length c0_4) := (yab b0.out 4).trans rfl; have hO : wr.cell? ⟨b3, 5, none⟩ = some (.slice A0_5 l0_5.length c0_5) := (yab b0.out 5).trans rfl; have hP : wr.cell? ⟨b3, 6, none⟩ = some (.slice A0_6 l0_6.length c0_6) := (yab b0.out 6).trans rfl; have hQ : wr.cell? ⟨b3, 7, none⟩ = some (.slice A0_7 l0_7.length c0_7) := (yab b0.out 7).trans rfl; have hR := yaa b0.out 0; have hS := yaa b0.out 1; have hT := yaa b0.out 2; have hU := yaa b0.out 3; have hV := yaa b0.out 4; have hW := yaa b0.out 5; have hX := yaa b0.out 6; have hY := yaa b0.out 7
           have p106 : 0 ≤ (b2 : Int) := of_decide_eq_true (by first | (with_reducible assumption) | assumption)
           have q106 : b2 < (l0_4.length : Int) := of_decide_eq_true (by first | (with_reducible assumption) | assumption)
           obtain ⟨ad106, c0, c5, f6, d8, d9, e0, e1, hl106_2, hi106_2⟩ := at_T124 HR0_4.out b2 p106 q106
           cases f6
           replace d8 := (HB.out.cell (World.block_lt_of_cell? w _ d8)).trans d8; replace d9 := (HB.out.cell (World.block_lt_of_cell? w _ d9)).trans d9; replace e0 := (HB.out.cell (World.block_lt_of_cell? w _ e0)).trans e0; replace e1 := (HB.out.cell (World.block_lt_of_cell? w _ e1)).trans e1; have HR106_2 := yad hi106_2; have HC106_2 := yad hl106_2; clear hi106_2 hl106_2; replace p106 := eq_true p106; replace q106 := eq_true q106
           go_wp2_with (first | ((with_reducible refine gate_dst (N := 6) rfl ?_); (try (refine gate_guard (by rfl) ?_; dsimp only)); refine bx_ 6 #[.int .i64 0, .string (⟨#[]⟩ : ByteArray), .slice none 0 0, .int .i64 0] 124 ?_; intro b5 hg w98 hbox hb; have d2 := yad (hbox); have e2 := yad ((by rw [hg]; exact (below_size (by repeat (with_reducible first | exact HB.out | apply yah | apply yaf | apply yai | refine yaj ?_ (Aside0.out ‹_›)))) : w.heap.size ≤ b5)); replace HB := yad (yam (by repeat (with_reducible first | exact HB.out | apply yah | apply yaf | apply yai | refine yaj ?_ (Aside0.out ‹_›))) hb); have O1 := e2; have d0 := yad ((by rw [hg]; exact Nat.ne_of_lt (blk_lt (upB b0.out)) : b3 ≠ b5)); replace b0 := yad (yak (upB b0.out) hb); have e4 := yad d0.out.symm; have d1 := yad ((by rw [hg]; exact Nat.ne_of_lt (blk_lt (upB b1.out)) : b4 ≠ b5)); replace b1 := yad (yak (upB b1.out) hb); have e5 := yad d1.out.symm; clear hb hbox hg; have lC := e4.out; have lD := d0.out; have iA := e5.out; have iB := d1.out; obtain ⟨R1, R2, R3, R4⟩ := cc4_ d2.out; obtain ⟨R5, R6, R7, R8⟩ := cf4_ d2.out; have R9 : w98.cell? ⟨b4, 0, none⟩ = some (.int .i64 a1_0) := (yab b1.out 0).trans rfl; have S0 : w98.cell? ⟨b4, 1, none⟩ = some (.int .i64 a1_1) := (yab b1.out 1).trans rfl; have S1 : w98.cell? ⟨b4, 2, none⟩ = some (.int .i64 a1_2) := (yab b1.out 2).trans rfl; have S2 : w98.cell? ⟨b4, 3, none⟩ = some (.int .i64 a1_3) := (yab b1.out 3).trans rfl; have S3 : w98.cell? ⟨b4, 4, none⟩ = some (.slice A1_4 l1_4.length c1_4) := (yab b1.out 4).trans rfl; have S4 : w98.cell? ⟨b4, 5, none⟩ = some (.slice A1_5 l1_5.length c1_5) := (yab b1.out 5).trans rfl; have S5 : w98.cell? ⟨b4, 6, none⟩ = some (.slice A1_6 l1_6.length c1_6) := (yab b1.out 6).trans rfl; have S6 : w98.cell? ⟨b4, 7, none⟩ = some (.slice A1_7 l1_7.length c1_7) := (yab b1.out 7).trans rfl; have S7 := yaa b1.out 0; have S8 := yaa b1.out 1; have S9 := yaa b1.out 2; have T0 := yaa b1.out 3; have T1 := yaa b1.out 4; have T2 := yaa b1.out 5; have T3 := yaa b1.out 6; have T4 := yaa b1.out 7; have p108 : 0 ≤ (b2 : Int) := of_decide_eq_true (by first | (with_reducible assumption) | assumption); have q108 : b2 < (l1_4.length : Int) := of_decide_eq_true (by first | (with_reducible assumption) | assumption); obtain ⟨ad108, f8, f9, g0, b6, b7, b8, b9, hl108_2, hi108_2⟩ := at_T124 HR1_4.out b2 p108 q108; cases g0; have hn108_0 : ad108.block ≠ b5 := Nat.ne_of_lt (Nat.lt_of_lt_of_le (by have := World.block_lt_of_cell? _ _ b6; first | rwa [yac] at this | exact this) e2.out); have hn108_1 : ad108.block ≠ b5 := Nat.ne_of_lt (Nat.lt_of_lt_of_le (by have := World.block_lt_of_cell? _ _ b6; first | rwa [yac] at this | exact this) e2.out); have hn108_2 : ad108.block ≠ b5 := Nat.ne_of_lt (Nat.lt_of_lt_of_le (by have := World.block_lt_of_cell? _ _ b6; first | rwa [yac] at this | exact this) e2.out); have hn108_3 : ad108.block ≠ b5 := Nat.ne_of_lt (Nat.lt_of_lt_of_le (by have := World.block_lt_of_cell? _ _ b6; first | rwa [yac] at this | exact this) e2.out); replace b6 := (HB.out.cell (World.block_lt_of_cell? w _ b6)).trans b6; replace b7 := (HB.out.cell (World.block_lt_of_cell? w _ b7)).trans b7; replace b8 := (HB.out.cell (World.block_lt_of_cell? w _ b8)).trans b8; replace b9 := (HB.out.cell (World.block_lt_of_cell? w _ b9)).trans b9; have HR108_2 := yad hi108_2; have HC108_2 := yad hl108_2; clear hi108_2 hl108_2; replace b6 := (yag (p := ⟨b5, 0, none⟩) (by first | (rw [yac]; exact hn108_0) | (show (Addr.add _ _).block ≠ _; rw [yac]; exact hn108_0) | exact hn108_0) (.int .i64 ((yae l0_4 b2).f0))).trans b6; replace b7 := (yag (p := ⟨b5, 0, none⟩) (by first | (rw [yac]; exact hn108_0) | (show (Addr.add _ _).block ≠ _; rw [yac]; exact hn108_0) | exact hn108_0) (.int .i64 ((yae l0_4 b2).f0))).trans b7; replace b8 := (yag (p := ⟨b5, 0, none⟩) (by first | (rw [yac]; exact hn108_0) | (show (Addr.add _ _).block ≠ _; rw [yac]; exact hn108_0) | exact hn108_0) (.int .i64 ((yae l0_4 b2).f0))).trans b8; replace b9 := (yag (p := ⟨b5, 0, none⟩) (by first | (rw [yac]; exact hn108_0) | (show (Addr.add _ _).block ≠ _; rw [yac]; exact hn108_0) | exact hn108_0) (.int .i64 ((yae l0_4 b2).f0))).trans b9; replace b6 := (yag (p := ⟨b5, 1, none⟩) (by first | (rw [yac]; exact hn108_1) | (show (Addr.add _ _).block ≠ _; rw [yac]; exact hn108_1) | exact hn108_1) (.string ((yae l0_4 b2).f1))).trans b6; replace b7 := (yag (p := ⟨b5, 1, none⟩) (by first | (rw [yac]; exact hn108_1) | (show (Addr.add _ _).block ≠ _; rw [yac]; exact hn108_1) | exact hn108_1) (.string ((yae l0_4 b2).f1))).trans b7; replace b8 := (yag (p := ⟨b5, 1, none⟩) (by first | (rw [yac]; exact hn108_1) | (show (Addr.add _ _).block ≠ _; rw [yac]; exact hn108_1) | exact hn108_1) (.string ((yae l0_4 b2).f1))).trans b8; replace b9 := (yag (p := ⟨b5, 1, none⟩) (by first | (rw [yac]; exact hn108_1) | (show (Addr.add _ _).block ≠ _; rw [yac]; exact hn108_1) | exact hn108_1) (.string ((yae l0_4 b2).f1))).trans b9; replace b6 := (yag (p := ⟨b5, 2, none⟩) (by first | (rw [yac]; exact hn108_2) | (show (Addr.add _ _).block ≠ _; rw [yac]; exact hn108_2) | exact hn108_2) (.slice c0 ((yae l0_4 b2).f2).length c5)).trans b6; replace b7 := (yag (p := ⟨b5, 2, none⟩) (by first | (rw [yac]; exact hn108_2) | (show (Addr.add _ _).block ≠ _; rw [yac]; exact hn108_2) | exact hn108_2) (.slice c0 ((yae l0_4 b2).f2).length c5)).trans b7; replace b8 := (yag (p := ⟨b5, 2, none⟩) (by first | (rw [yac]; exact hn108_2) | (show (Addr.add _ _).block ≠ _; rw [yac]; exact hn108_2) | exact hn108_2) (.slice c0 ((yae l0_4 b2).f2).length c5)).trans b8; replace b9 := (yag (p := ⟨b5, 2, none⟩) (by first | (rw [yac]; exact hn108_2) | (show (Addr.add _ _).block ≠ _; rw [yac]; exact hn108_2) | exact hn108_2) (.slice c0 ((yae l0_4 b2).f2).length c5)).trans b9; replace b6 := (yag (p := ⟨b5, 3, none⟩) (by first | (rw [yac]; exact hn108_3) | (show (Addr.add _ _).block ≠ _; rw [yac]; exact hn108_3) | exact hn108_3) (.int .i64 ((yae l0_4 b2).f3))).trans b6; replace b7 := (yag (p := ⟨b5, 3, none⟩) (by first | (rw [yac]; exact hn108_3) | (show (Addr.add _ _).block ≠ _; rw [yac]; exact hn108_3) | exact hn108_3) (.int .i64 ((yae l0_4 b2).f3))).trans b7; replace b8 := (yag (p := ⟨b5, 3, none⟩) (by first | (rw [yac]; exact hn108_3) | (show (Addr.add _ _).block ≠ _; rw [yac]; exact hn108_3) | exact hn108_3) (.int .i64 ((yae l0_4 b2).f3))).trans b8; replace b9 := (yag (p := ⟨b5, 3, none⟩) (by first | (rw [yac]; exact hn108_3) | (show (Addr.add _ _).block ≠ _; rw [yac]; exact hn108_3) | exact hn108_3) (.int .i64 ((yae l0_4 b2).f3))).trans b9; clear hn108_0; clear hn108_1; clear hn108_2; clear hn108_3; replace p108 := eq_true p108; replace q108 := eq_true q108) | ((with_reducible refine gate_dst (N := 7) rfl ?_); (try (refine gate_guard (by rfl) ?_; dsimp only)); refine bx_ 7 #[.int .i64 0, .string (⟨#[]⟩ : ByteArray), .slice none 0 0, .int .i64 0] 124 ?_; intro e3 hg w103 hbox hb; have e9 := yad (hbox); have f5 := yad ((by rw [hg]; exact (below_size (by repeat (with_reducible first | exact HB.out | apply yah | apply yaf | apply yai | refine yaj ?_ (Aside0.out ‹_›)))) : w.heap.size ≤ e3)); replace HB := yad (yam (by repeat (with_reducible first | exact HB.out | apply yah | apply yaf | apply yai | refine yaj ?_ (Aside0.out ‹_›))) hb); have O2 := f5; have d4 := yad ((by rw [hg]; exact Nat.ne_of_lt (blk_lt (g := b3) (o := .cells #[.int .i64 a0_0, .int .i64 a0_1, .int .i64 a0_2, .int .i64 a0_3, .slice (some ad106) l0_4.length c0_4, .slice A0_5 l0_5.length c0_5, .slice A0_6 l0_6.length c0_6, .slice A0_7 l0_7.length c0_7] 63 (0, 0)) (by repeat (with_reducible first | exact b0.out | refine oneB ?_ | refine blk_far ?_ d0.out _))) : b3 ≠ e3)); replace b0 := yad (yak (g := b3) (o := .cells #[.int .i64 a0_0, .int .i64 a0_1, .int .i64 a0_2, .int .i64 a0_3, .slice (some ad106) l0_4.length c0_4, .slice A0_5 l0_5.length c0_5, .slice A0_6 l0_6.length c0_6, .slice A0_7 l0_7.length c0_7] 63 (0, 0)) (by repeat (with_reducible first | exact b0.out | refine oneB ?_ | refine blk_far ?_ d0.out _)) hb); have e6 := yad d4.out.symm; have d5 := yad ((by rw [hg]; exact Nat.ne_of_lt (blk_lt (g := b4) (o := .cells #[.int .i64 a1_0, .int .i64 a1_1, .int .i64 a1_2, .int .i64 a1_3, .slice (some ad108) l1_4.length c1_4, .slice A1_5 l1_5.length c1_5, .slice A1_6 l1_6.length c1_6, .slice A1_7 l1_7.length c1_7] 63 (0, 0)) (by repeat (with_reducible first | exact b1.out | refine oneB ?_ | refine blk_far ?_ d1.out _))) : b4 ≠ e3)); replace b1 := yad (yak (g := b4) (o := .cells #[.int .i64 a1_0, .int .i64 a1_1, .int .i64 a1_2, .int .i64 a1_3, .slice (some ad108) l1_4.length c1_4, .slice A1_5 l1_5.length c1_5, .slice A1_6 l1_6.length c1_6, .slice A1_7 l1_7.length c1_7] 63 (0, 0)) (by repeat (with_reducible first | exact b1.out | refine oneB ?_ | refine blk_far ?_ d1.out _)) hb); have e7 := yad d5.out.symm; have d7 := yad ((by rw [hg]; exact Nat.ne_of_lt (blk_lt (g := b5) (o := .cells #[.int .i64 ((yae l0_4 b2).f0), .string ((yae l0_4 b2).f1), .slice c0 ((yae l0_4 b2).f2).length c5, .int .i64 ((yae l0_4 b2).f3)] 124 (0, 0)) (by (repeat refine oneB ?_); refine yal (cs := #[.int .i64 ((yae l0_4 b2).f0), .string ((yae l0_4 b2).f1), .slice c0 ((yae l0_4 b2).f2).length c5, .int .i64 0]) ?_ 3 _ rfl; refine yal (cs := #[.int .i64 ((yae l0_4 b2).f0), .string ((yae l0_4 b2).f1), .slice none 0 0, .int .i64 0]) ?_ 2 _ rfl; refine yal (cs := #[.int .i64 ((yae l0_4 b2).f0), .string (⟨#[]⟩ : ByteArray), .slice none 0 0, .int .i64 0]) ?_ 1 _ rfl; refine yal (cs := #[.int .i64 0, .string (⟨#[]⟩ : ByteArray), .slice none 0 0, .int .i64 0]) ?_ 0 _ rfl; exact upB d2.out)) : b5 ≠ e3)); replace d2 := yad (yak (g := b5) (o := .cells #[.int .i64 ((yae l0_4 b2).f0), .string ((yae l0_4 b2).f1), .slice c0 ((yae l0_4 b2).f2).length c5, .int .i64 ((yae l0_4 b2).f3)] 124 (0, 0)) (by (repeat refine oneB ?_); refine yal (cs := #[.int .i64 ((yae l0_4 b2).f0), .string ((yae l0_4 b2).f1), .slice c0 ((yae l0_4 b2).f2).length c5, .int .i64 0]) ?_ 3 _ rfl; refine yal (cs := #[.int .i64 ((yae l0_4 b2).f0), .string ((yae l0_4 b2).f1), .slice none 0 0, .int .i64 0]) ?_ 2 _ rfl; refine yal (cs := #[.int .i64 ((yae l0_4 b2).f0), .string (⟨#[]⟩ : ByteArray), .slice none 0 0, .int .i64 0]) ?_ 1 _ rfl; refine yal (cs := #[.int .i64 0, .string (⟨#[]⟩ : ByteArray), .slice none 0 0, .int .i64 0]) ?_ 0 _ rfl; exact upB d2.out) hb); have e8 := yad d7.out.symm; clear hb hbox hg; have iC := e6.out; have iD := d4.out; have iE := e7.out; have iF := d5.out; have iG := e8.out; have iH := d7.out; obtain ⟨T5, T6, T7, T8⟩ := cc4_ e9.out; obtain ⟨T9, U0, U1, U2⟩ := cf4_ e9.out; obtain ⟨U3, U4, U5, U6⟩ := cc4_ d2.out; obtain ⟨U7, U8, U9⟩ := cf3_ d2.out; have V0 := yaa d2.out 3))
           go_ret
           exact ⟨by first | rfl | (simp [*, errW_none, errW_some] <;> rfl), by repeat (with_reducible first | exact HB.out | apply yah | apply yaf | apply yai | refine yaj ?_ (Aside0.out ‹_›))⟩
         ·
          rw [if_neg c52] at H
          have Q4 : (((yae l0_4 b2).f0) == ((yae l1_4 b2).f0)) = false := beq_eq_false_iff_ne.mpr c52; have Q5 : (((yae l0_4 b2).f0) != ((yae l1_4 b2).f0)) = true := bne_iff_ne.mpr c52; obtain rfl := Option.some.inj H; have iI := d3.out; have iJ := d6.out; have V1 : wr.cell? ⟨b3, 0, none⟩ = some (.int .i64 a0_0) := (yab b0.out 0).trans rfl; have V2 : wr.cell? ⟨b3, 1, none⟩ = some (.int .i64 a0_1) := (yab b0.out 1).trans rfl; have V3 : wr.cell? ⟨b3, 2, none⟩ = some (.int .i64 a0_2) := (yab b0.out 2).trans rfl; have V4 : wr.cell? ⟨b3, 3, none⟩ = some (.int .i64 a0_3) := (yab b0.out 3).trans rfl; have V5 : wr.cell? ⟨b3, 4, none⟩ = some (.slice A0_4 l0_4.length c0_4) := (yab b0.out 4).trans rfl; have V6 : wr.cell? ⟨b3, 5, none⟩ = some (.slice A0_5 l0_5.length c0_5) := (yab b0.out 5).trans rfl; have V7 : wr.cell? ⟨b3, 6, none⟩ = some (.slice A0_6 l0_6.length c0_6) := (yab b0.out 6).trans rfl; have V8 : wr.cell? ⟨b3, 7, none⟩ = some (.slice A0_7 l0_7.length c0_7) := (yab b0.out 7).trans rfl; have V9 := yaa b0.out 0; have W0 := yaa b0.out 1; have W1 := yaa b0.out 2; have W2 := yaa b0.out 3; have W3 := yaa b0.out 4; have W4 := yaa b0.out 5; have W5 := yaa b0.out 6; have W6 := yaa b0.out 7
          have p106 : 0 ≤ (b2 : Int) := of_decide_eq_true (by first | (with_reducible assumption) | assumption)
          have q106 : b2 < (l0_4.length : Int) := of_decide_eq_true (by first | (with_reducible assumption) | assumption)
          obtain ⟨ad106, c0, c5, f6, d8, d9, e0, e1, hl106_2, hi106_2⟩ := at_T124 HR0_4.out b2 p106 q106
          cases f6
          replace d8 := (HB.out.cell (World.block_lt_of_cell? w _ d8)).trans d8; replace d9 := (HB.out.cell (World.block_lt_of_cell? w _ d9)).trans d9; replace e0 := (HB.out.cell (World.block_lt_of_cell? w _ e0)).trans e0; replace e1 := (HB.out.cell (World.block_lt_of_cell? w _ e1)).trans e1; have HR106_2 := yad hi106_2; have HC106_2 := yad hl106_2; clear hi106_2 hl106_2; replace p106 := eq_true p106; replace q106 := eq_true q106
          go_wp2_with (first | ((with_reducible refine gate_dst (N := 6) rfl ?_); (try (refine gate_guard (by rfl) ?_; dsimp only)); refine bx_ 6 #[.int .i64 0, .string (⟨#[]⟩ : ByteArray), .slice none 0 0, .int .i64 0] 124 ?_; intro b5 hg w111 hbox hb; have d2 := yad (hbox); have e2 := yad ((by rw [hg]; exact (below_size (by repeat (with_reducible first | exact HB.out | apply yah | apply yaf | apply yai | refine yaj ?_ (Aside0.out ‹_›)))) : w.heap.size ≤ b5)); replace HB := yad (yam (by repeat (with_reducible first | exact HB.out | apply yah | apply yaf | apply yai | refine yaj ?_ (Aside0.out ‹_›))) hb); have O1 := e2; have d0 := yad ((by rw [hg]; exact Nat.ne_of_lt (blk_lt (upB b0.out)) : b3 ≠ b5)); replace b0 := yad (yak (upB b0.out) hb); have e4 := yad d0.out.symm; have d1 := yad ((by rw [hg]; exact Nat.ne_of_lt (blk_lt (upB b1.out)) : b4 ≠ b5)); replace b1 := yad (yak (upB b1.out) hb); have e5 := yad d1.out.symm; clear hb hbox hg; have iK := e4.out; have iL := d0.out; have iM := e5.out; have iN := d1.out; obtain ⟨W7, W8, W9, X0⟩ := cc4_ d2.out; obtain ⟨X1, X2, X3, X4⟩ := cf4_ d2.out; have X5 : w111.cell? ⟨b4, 0, none⟩ = some (.int .i64 a1_0) := (yab b1.out 0).trans rfl; have X6 : w111.cell? ⟨b4, 1, none⟩ = some (.int .i64 a1_1) := (yab b1.out 1).trans rfl; have X7 : w111.cell? ⟨b4, 2, none⟩ = some (.int .i64 a1_2) := (yab b1.out 2).trans rfl; have X8 : w111.cell? ⟨b4, 3, none⟩ = some (.int .i64 a1_3) := (yab b1.out 3).trans rfl; have X9 : w111.cell? ⟨b4, 4, none⟩ = some (.slice A1_4 l1_4.length c1_4) := (yab b1.out 4).trans rfl; have Y0 : w111.cell? ⟨b4, 5, none⟩ = some (.slice A1_5 l1_5.length c1_5) := (yab b1.out 5).trans rfl; have Y1 : w111.cell? ⟨b4, 6, none⟩ = some (.slice A1_6 l1_6.length c1_6) := (yab b1.out 6).trans rfl; have Y2 : w111.cell? ⟨b4, 7, none⟩ = some (.slice A1_7 l1_7.length c1_7) := (yab b1.out 7).trans rfl; have Y3 := yaa b1.out 0; have Y4 := yaa b1.out 1; have Y5 := yaa b1.out 2; have Y6 := yaa b1.out 3; have Y7 := yaa b1.out 4; have Y8 := yaa b1.out 5; have Y9 := yaa b1.out 6; have Z0 := yaa b1.out 7; have p108 : 0 ≤ (b2 : Int) := of_decide_eq_true (by first | (with_reducible assumption) | assumption); have q108 : b2 < (l1_4.length : Int) := of_decide_eq_true (by first | (with_reducible assumption) | assumption); obtain ⟨ad108, f8, f9, g0, b6, b7, b8, b9, hl108_2, hi108_2⟩ := at_T124 HR1_4.out b2 p108 q108; cases g0; have hn108_0 : ad108.block ≠ b5 := Nat.ne_of_lt (Nat.lt_of_lt_of_le (by have := World.block_lt_of_cell? _ _ b6; first | rwa [yac] at this | exact this) e2.out); have hn108_1 : ad108.block ≠ b5 := Nat.ne_of_lt (Nat.lt_of_lt_of_le (by have := World.block_lt_of_cell? _ _ b6; first | rwa [yac] at this | exact this) e2.out); have hn108_2 : ad108.block ≠ b5 := Nat.ne_of_lt (Nat.lt_of_lt_of_le (by have := World.block_lt_of_cell? _ _ b6; first | rwa [yac] at this | exact this) e2.out); have hn108_3 : ad108.block ≠ b5 := Nat.ne_of_lt (Nat.lt_of_lt_of_le (by have := World.block_lt_of_cell? _ _ b6; first | rwa [yac] at this | exact this) e2.out); replace b6 := (HB.out.cell (World.block_lt_of_cell? w _ b6)).trans b6; replace b7 := (HB.out.cell (World.block_lt_of_cell? w _ b7)).trans b7; replace b8 := (HB.out.cell (World.block_lt_of_cell? w _ b8)).trans b8; replace b9 := (HB.out.cell (World.block_lt_of_cell? w _ b9)).trans b9; have HR108_2 := yad hi108_2; have HC108_2 := yad hl108_2; clear hi108_2 hl108_2; replace b6 := (yag (p := ⟨b5, 0, none⟩) (by first | (rw [yac]; exact hn108_0) | (show (Addr.add _ _).block ≠ _; rw [yac]; exact hn108_0) | exact hn108_0) (.int .i64 ((yae l0_4 b2).f0))).trans b6; replace b7 := (yag (p := ⟨b5, 0, none⟩) (by first | (rw [yac]; exact hn108_0) | (show (Addr.add _ _).block ≠ _; rw [yac]; exact hn108_0) | exact hn108_0) (.int .i64 ((yae l0_4 b2).f0))).trans b7; replace b8 := (yag (p := ⟨b5, 0, none⟩) (by first | (rw [yac]; exact hn108_0) | (show (Addr.add _ _).block ≠ _; rw [yac]; exact hn108_0) | exact hn108_0) (.int .i64 ((yae l0_4 b2).f0))).trans b8; replace b9 := (yag (p := ⟨b5, 0, none⟩) (by first | (rw [yac]; exact hn108_0) | (show (Addr.add _ _).block ≠ _; rw [yac]; exact hn108_0) | exact hn108_0) (.int .i64 ((yae l0_4 b2).f0))).trans b9; replace b6 := (yag (p := ⟨b5, 1, none⟩) (by first | (rw [yac]; exact hn108_1) | (show (Addr.add _ _).block ≠ _; rw [yac]; exact hn108_1) | exact hn108_1) (.string ((yae l0_4 b2).f1))).trans b6; replace b7 := (yag (p := ⟨b5, 1, none⟩) (by first | (rw [yac]; exact hn108_1) | (show (Addr.add _ _).block ≠ _; rw [yac]; exact hn108_1) | exact hn108_1) (.string ((yae l0_4 b2).f1))).trans b7; replace b8 := (yag (p := ⟨b5, 1, none⟩) (by first | (rw [yac]; exact hn108_1) | (show (Addr.add _ _).block ≠ _; rw [yac]; exact hn108_1) | exact hn108_1) (.string ((yae l0_4 b2).f1))).trans b8; replace b9 := (yag (p := ⟨b5, 1, none⟩) (by first | (rw [yac]; exact hn108_1) | (show (Addr.add _ _).block ≠ _; rw [yac]; exact hn108_1) | exact hn108_1) (.string ((yae l0_4 b2).f1))).trans b9; replace b6 := (yag (p := ⟨b5, 2, none⟩) (by first | (rw [yac]; exact hn108_2) | (show (Addr.add _ _).block ≠ _; rw [yac]; exact hn108_2) | exact hn108_2) (.slice c0 ((yae l0_4 b2).f2).length c5)).trans b6; replace b7 := (yag (p := ⟨b5, 2, none⟩) (by first | (rw [yac]; exact hn108_2) | (show (Addr.add _ _).block ≠ _; rw [yac]; exact hn108_2) | exact hn108_2) (.slice c0 ((yae l0_4 b2).f2).length c5)).trans b7; replace b8 := (yag (p := ⟨b5, 2, none⟩) (by first | (rw [yac]; exact hn108_2) | (show (Addr.add _ _).block ≠ _; rw [yac]; exact hn108_2) | exact hn108_2) (.slice c0 ((yae l0_4 b2).f2).length c5)).trans b8; replace b9 := (yag (p := ⟨b5, 2, none⟩) (by first | (rw [yac]; exact hn108_2) | (show (Addr.add _ _).block ≠ _; rw [yac]; exact hn108_2) | exact hn108_2) (.slice c0 ((yae l0_4 b2).f2).length c5)).trans b9; replace b6 := (yag (p := ⟨b5, 3, none⟩) (by first | (rw [yac]; exact hn108_3) | (show (Addr.add _ _).block ≠ _; rw [yac]; exact hn108_3) | exact hn108_3) (.int .i64 ((yae l0_4 b2).f3))).trans b6; replace b7 := (yag (p := ⟨b5, 3, none⟩) (by first | (rw [yac]; exact hn108_3) | (show (Addr.add _ _).block ≠ _; rw [yac]; exact hn108_3) | exact hn108_3) (.int .i64 ((yae l0_4 b2).f3))).trans b7; replace b8 := (yag (p := ⟨b5, 3, none⟩) (by first | (rw [yac]; exact hn108_3) | (show (Addr.add _ _).block ≠ _; rw [yac]; exact hn108_3) | exact hn108_3) (.int .i64 ((yae l0_4 b2).f3))).trans b8; replace b9 := (yag (p := ⟨b5, 3, none⟩) (by first | (rw [yac]; exact hn108_3) | (show (Addr.add _ _).block ≠ _; rw [yac]; exact hn108_3) | exact hn108_3) (.int .i64 ((yae l0_4 b2).f3))).trans b9; clear hn108_0; clear hn108_1; clear hn108_2; clear hn108_3; replace p108 := eq_true p108; replace q108 := eq_true q108) | ((with_reducible refine gate_dst (N := 7) rfl ?_); (try (refine gate_guard (by rfl) ?_; dsimp only)); refine bx_ 7 #[.int .i64 0, .string (⟨#[]⟩ : ByteArray), .slice none 0 0, .int .i64 0] 124 ?_; intro e3 hg w116 hbox hb; have e9 := yad (hbox); have f5 := yad ((by rw [hg]; exact (below_size (by repeat (with_reducible first | exact HB.out | apply yah | apply yaf | apply yai | refine yaj ?_ (Aside0.out ‹_›)))) : w.heap.size ≤ e3)); replace HB := yad (yam (by repeat (with_reducible first | exact HB.out | apply yah | apply yaf | apply yai | refine yaj ?_ (Aside0.out ‹_›))) hb); have O2 := f5; have d4 := yad ((by rw [hg]; exact Nat.ne_of_lt (blk_lt (g := b3) (o := .cells #[.int .i64 a0_0, .int .i64 a0_1, .int .i64 a0_2, .int .i64 a0_3, .slice (some ad106) l0_4.length c0_4, .slice A0_5 l0_5.length c0_5, .slice A0_6 l0_6.length c0_6, .slice A0_7 l0_7.length c0_7] 63 (0, 0)) (by repeat (with_reducible first | exact b0.out | refine oneB ?_ | refine blk_far ?_ d0.out _))) : b3 ≠ e3)); replace b0 := yad (yak (g := b3) (o := .cells #[.int .i64 a0_0, .int .i64 a0_1, .int .i64 a0_2, .int .i64 a0_3, .slice (some ad106) l0_4.length c0_4, .slice A0_5 l0_5.length c0_5, .slice A0_6 l0_6.length c0_6, .slice A0_7 l0_7.length c0_7] 63 (0, 0)) (by repeat (with_reducible first | exact b0.out | refine oneB ?_ | refine blk_far ?_ d0.out _)) hb); have e6 := yad d4.out.symm; have d5 := yad ((by rw [hg]; exact Nat.ne_of_lt (blk_lt (g := b4) (o := .cells #[.int .i64 a1_0, .int .i64 a1_1, .int .i64 a1_2, .int .i64 a1_3, .slice (some ad108) l1_4.length c1_4, .slice A1_5 l1_5.length c1_5, .slice A1_6 l1_6.length c1_6, .slice A1_7 l1_7.length c1_7] 63 (0, 0)) (by repeat (with_reducible first | exact b1.out | refine oneB ?_ | refine blk_far ?_ d1.out _))) : b4 ≠ e3)); replace b1 := yad (yak (g := b4) (o := .cells #[.int .i64 a1_0, .int .i64 a1_1, .int .i64 a1_2, .int .i64 a1_3, .slice (some ad108) l1_4.length c1_4, .slice A1_5 l1_5.length c1_5, .slice A1_6 l1_6.length c1_6, .slice A1_7 l1_7.length c1_7] 63 (0, 0)) (by repeat (with_reducible first | exact b1.out | refine oneB ?_ | refine blk_far ?_ d1.out _)) hb); have e7 := yad d5.out.symm; have d7 := yad ((by rw [hg]; exact Nat.ne_of_lt (blk_lt (g := b5) (o := .cells #[.int .i64 ((yae l0_4 b2).f0), .string ((yae l0_4 b2).f1), .slice c0 ((yae l0_4 b2).f2).length c5, .int .i64 ((yae l0_4 b2).f3)] 124 (0, 0)) (by (repeat refine oneB ?_); refine yal (cs := #[.int .i64 ((yae l0_4 b2).f0), .string ((yae l0_4 b2).f1), .slice c0 ((yae l0_4 b2).f2).length c5, .int .i64 0]) ?_ 3 _ rfl; refine yal (cs := #[.int .i64 ((yae l0_4 b2).f0), .string ((yae l0_4 b2).f1), .slice none 0 0, .int .i64 0]) ?_ 2 _ rfl; refine yal (cs := #[.int .i64 ((yae l0_4 b2).f0), .string (⟨#[]⟩ : ByteArray), .slice none 0 0, .int .i64 0]) ?_ 1 _ rfl; refine yal (cs := #[.int .i64 0, .string (⟨#[]⟩ : ByteArray), .slice none 0 0, .int .i64 0]) ?_ 0 _ rfl; exact upB d2.out)) : b5 ≠ e3)); replace d2 := yad (yak (g := b5) (o := .cells #[.int .i64 ((yae l0_4 b2).f0), .string ((yae l0_4 b2).f1), .slice c0 ((yae l0_4 b2).f2).length c5, .int .i64 ((yae l0_4 b2).f3)] 124 (0, 0)) (by (repeat refine oneB ?_); refine yal (cs := #[.int .i64 ((yae l0_4 b2).f0), .string ((yae l0_4 b2).f1), .slice c0 ((yae l0_4 b2).f2).length c5, .int .i64 0]) ?_ 3 _ rfl; refine yal (cs := #[.int .i64 ((yae l0_4 b2).f0), .string ((yae l0_4 b2).f1), .slice none 0 0, .int .i64 0]) ?_ 2 _ rfl; refine yal (cs := #[.int .i64 ((yae l0_4 b2).f0), .string (⟨#[]⟩ : ByteArray), .slice none 0 0, .int .i64 0]) ?_ 1 _ rfl; refine yal (cs := #[.int .i64 0, .string (⟨#[]⟩ : ByteArray), .slice none 0 0, .int .i64 0]) ?_ 0 _ rfl; exact upB d2.out) hb); have e8 := yad d7.out.symm; clear hb hbox hg; have iO := e6.out; have iP := d4.out; have iQ := e7.out; have iR := d5.out; have iS := e8.out; have iT := d7.out; obtain ⟨Z1, Z2, Z3, Z4⟩ := cc4_ e9.out; obtain ⟨Z5, Z6, Z7, Z8⟩ := cf4_ e9.out; obtain ⟨Z9, aA, aB, aC⟩ := cc4_ d2.out; obtain ⟨aD, aE, aF⟩ := cf3_ d2.out; have aG := yaa d2.out 3))
          go_ret
          exact ⟨by first | rfl | (simp [*, errW_none, errW_some] <;> rfl), by repeat (with_reducible first | exact HB.out | apply yah | apply yaf | apply yai | refine yaj ?_ (Aside0.out ‹_›))⟩
        ·
         rw [if_neg c51] at H
         exact absurd H (by simp)
       ·
        rw [if_neg c50] at H
        exact absurd H (by simp)
      ·
       rw [if_neg c49] at H
       have Q3 : decide (b2 < (l0_4.length : Int)) = false := decide_eq_false c49; clear c49; obtain rfl := Option.some.inj H; have iU := d3.out; have iV := d6.out; have aH : wr.cell? ⟨b3, 0, none⟩ = some (.int .i64 a0_0) := (yab b0.out 0).trans rfl; have aI : wr.cell? ⟨b3, 1, none⟩ = some (.int .i64 a0_1) := (yab b0.out 1).trans rfl; have aJ : wr.cell? ⟨b3, 2, none⟩ = some (.int .i64 a0_2) := (yab b0.out 2).trans rfl; have aK : wr.cell? ⟨b3, 3, none⟩ = some (.int .i64 a0_3) := (yab b0.out 3).trans rfl; have aL : wr.cell? ⟨b3, 4, none⟩ = some (.slice A0_4 l0_4.length c0_4) := (yab b0.out 4).trans rfl; have aM : wr.cell? ⟨b3, 5, none⟩ = some (.slice A0_5 l0_5.length c0_5) := (yab b0.out 5).trans rfl; have aN : wr.cell? ⟨b3, 6, none⟩ = some (.slice A0_6 l0_6.length c0_6) := (yab b0.out 6).trans rfl; have aO : wr.cell? ⟨b3, 7, none⟩ = some (.slice A0_7 l0_7.length c0_7) := (yab b0.out 7).trans rfl; have aP := yaa b0.out 0; have aQ := yaa b0.out 1; have aR := yaa b0.out 2; have aS := yaa b0.out 3; have aT := yaa b0.out 4; have aU := yaa b0.out 5; have aV := yaa b0.out 6; have aW := yaa b0.out 7
       go_wp2
       go_ret
       exact ⟨by first | rfl | (simp [*, errW_none, errW_some] <;> rfl), by repeat (with_reducible first | exact HB.out | apply yah | apply yaf | apply yai | refine yaj ?_ (Aside0.out ‹_›))⟩

end Go.Proofs.Ytgpkkkmapgnhkaa.X

namespace Go.Proofs.Ytgpkkkmapgnhkaa.X
open Go.RowKit Go.Proofs.YtgpkkkmapgnhkaaW.PrintWords Go.Proofs.YtgpkkkmapgnhkaaW.PrintLast Go.Proofs.YtgpkkkmapgnhkaaW.PrintMore
attribute [local go_sem] max2_int min2_int max_two min_two max_three min_three max_four min_four
set_option linter.unusedVariables false
set_option linter.unusedSimpArgs false

open Go.Proofs.YtgpkkkmapgnhkaaW.PrintWords renaming blk_frozen → yaa
open Go.Proofs.YtgpkkkmapgnhkaaW.PrintWords.Aside0 renaming mk → yab

/-! ### spec_TenNew: function 38 -/
def spec_TenNew.f (l0_0 : List Int) (a0_1 : Int) (a0_2 : Int) (a0_3 : Int) (a0_4 : Int) (a0_5 : Int) (a0_6 : Int) : Option (Int × Int × Int × Int × (List (S124)) × (List (S156)) × List ByteArray × (List (S158))) := (spec_CfgOk.f l0_0 a0_1 a0_2 a0_3 a0_4 a0_5 a0_6).bind fun t103 => (if t103 = true then (some (0, a0_1, 0, 0, ([] : List (S124)), ([] : List (S156)), ([] : List ByteArray), ([] : List (S158)))) else (some (0, 0, 0, 0, ([] : List (S124)), ([] : List (S156)), ([] : List ByteArray), ([] : List (S158)))))
set_option maxHeartbeats 8000000 in
set_option maxRecDepth 100000 in
theorem spec_TenNew.calls (A0_0 : Option Addr) (c0_0 : Nat) (l0_0 : List Int) (a0_1 : Int) (a0_2 : Int) (a0_3 : Int) (a0_4 : Int) (a0_5 : Int) (a0_6 : Int) (r1 : Int) (r2 : Int) (r3 : Int) (r4 : Int) (r5 : List (S124)) (r6 : List (S156)) (r7 : List ByteArray) (r8 : List (S158)) (w : World) (hr0_0 : Kd.C (Kd.int .u8) w A0_0 l0_0.length l0_0) (hc0_0 : l0_0.length ≤ c0_0) (h : spec_TenNew.f l0_0 a0_1 a0_2 a0_3 a0_4 a0_5 a0_6 = some (r1, r2, r3, r4, r5, r6, r7, r8)) :
  Calls Try.prog 38 #[.agg #[.slice A0_0 l0_0.length c0_0, .int .i64 a0_1, .int .i64 a0_2, .int .i64 a0_3, .int .i64 a0_4, .int .i64 a0_5, .int .i64 a0_6]] w fun e w' => ∃ v4_ v5_ v6_ v7_ : Value, e = .returned (.agg #[.int .i64 r1, .int .i64 r2, .int .i64 r3, .int .i64 r4, v4_, v5_, v6_, v7_]) ∧ Kd.S k124 124 w' w.heap.size (fun _ => True) v4_ r5 ∧ Kd.S k156 156 w' w.heap.size (fun _ => True) v5_ r6 ∧ Kd.R Kd.string 9 w' w.heap.size (fun _ => True) v6_ r7 ∧ Kd.S k158 158 w' w.heap.size (fun _ => True) v7_ r8 ∧ Below w.heap.size w w' := by
 have hu24 := Try.underlying24; have hu63 := Try.underlying63; have HR0_0 := yab hr0_0; have HC0_0 := yab hc0_0; clear hr0_0 hc0_0; have HB := yab (Below.refl w.heap.size w); have H : ((spec_CfgOk.f l0_0 a0_1 a0_2 a0_3 a0_4 a0_5 a0_6).bind fun a8 => (if a8 = true then (some (0, a0_1, 0, 0, ([] : List (S124)), ([] : List (S156)), ([] : List ByteArray), ([] : List (S158)))) else (some (0, 0, 0, 0, ([] : List (S124)), ([] : List (S156)), ([] : List ByteArray), ([] : List (S158)))))) = some (r1, r2, r3, r4, r5, r6, r7, r8) := h; clear h; replace H := Option.bind_eq_some_iff.mp H; obtain ⟨a8, A20, H⟩ := H; (try dsimp only at H); have A2 := yab A20; clear A20
 by_cases c3 : a8 = true
 ·
  subst c3
  rw [if_pos rfl] at H
  simp only [Option.some.injEq, Prod.mk.injEq] at H
  obtain ⟨rfl, rfl, rfl, rfl, rfl, rfl, rfl, rfl⟩ := H
  go_enter Try.func38, Try.ntmps38
  go_wp2_with (first | ((with_reducible refine gate_dst (N := 1) rfl ?_); refine bx_ 1 #[.slice A0_0 l0_0.length c0_0, .int .i64 a0_1, .int .i64 a0_2, .int .i64 a0_3, .int .i64 a0_4, .int .i64 a0_5, .int .i64 a0_6] 24 ?_; intro a5 hg w4 hbox hb; have a1 := yab (hbox); have a6 := yab ((by rw [hg]; exact (below_size (upH HB.out)) : w.heap.size ≤ a5)); replace HB := yab (below_step (upH HB.out) hb); have a9 := a6; clear hb hbox hg) | ((with_reducible refine gate_dst (N := 2) rfl ?_); refine bx_ 2 #[.int .i64 0, .int .i64 0, .int .i64 0, .int .i64 0, .slice none 0 0, .slice none 0 0, .slice none 0 0, .slice none 0 0] 63 ?_; intro a2 hg w5 hbox hb; have a0 := yab (hbox); have a7 := yab ((by rw [hg]; exact (below_size (by repeat (with_reducible first | exact HB.out | apply below_alloc | apply pw_below_drewN | apply below_drew1 | refine below_set ?_ (Aside0.out ‹_›)))) : w.heap.size ≤ a2)); replace HB := yab (below_step (by repeat (with_reducible first | exact HB.out | apply below_alloc | apply pw_below_drewN | apply below_drew1 | refine below_set ?_ (Aside0.out ‹_›))) hb); have b0 := a7; have a3 := yab ((by rw [hg]; exact Nat.ne_of_lt (blk_lt (upB a1.out)) : a5 ≠ a2)); replace a1 := yab (blk_below (upB a1.out) hb); have a4 := yab a3.out.symm; clear hb hbox hg; have i9 := a3.out; have j0 := a4.out; obtain ⟨f9, g0, g1, g2, g3, g4, g5⟩ := cc7_ a1.out; have g6 := yaa a1.out 0; have g7 := yaa a1.out 1; have g8 := yaa a1.out 2; have g9 := yaa a1.out 3; have h0 := yaa a1.out 4; have h1 := yaa a1.out 5; have h2 := yaa a1.out 6) | ((with_reducible refine gate_callee (f := 15) rfl ?_); refine gl_ (some 4) rfl Try.func15 #[.agg #[.slice A0_0 l0_0.length c0_0, .int .i64 a0_1, .int .i64 a0_2, .int .i64 a0_3, .int .i64 a0_4, .int .i64 a0_5, .int .i64 a0_6]] ?_; (with_reducible refine (spec_CfgOk.calls _ _ l0_0 a0_1 a0_2 a0_3 a0_4 a0_5 a0_6 true _ ?side1 ?side2 A2.out).mono ?_); (case side1 => repeat (first | exact (Kd.C_below HR0_0.out HB.out) | (with_reducible refine Kd.C_alloc ?_ _) | (with_reducible refine Kd.C_drewN ?_ _) | (with_reducible refine Kd.C_drew ?_))); (case side2 => exact HC0_0.out); rintro e w8 ⟨rfl, hb⟩; refine ⟨_, rfl, ?_⟩; replace a1 := yab (blk_below (upB a1.out) hb); replace a0 := yab (blk_below (upB a0.out) hb); replace HB := yab (below_step (by repeat (with_reducible first | exact HB.out | apply below_alloc | apply pw_below_drewN | apply below_drew1 | refine below_set ?_ (Aside0.out ‹_›))) hb); (try clear hb); (try clear hb2); (try clear hk); (try clear hi); obtain ⟨h3, h4, h5, h6, h7, h8, h9⟩ := cc7_ a1.out; have i0 := yaa a1.out 0; have i1 := yaa a1.out 1; have i2 := yaa a1.out 2; have i3 := yaa a1.out 3; have i4 := yaa a1.out 4; have i5 := yaa a1.out 5; have i6 := yaa a1.out 6; have b2 : w8.cell? ⟨a2, 0, none⟩ = some (.int .i64 0) := (blk_cell a0.out 0).trans rfl; have b3 : w8.cell? ⟨a2, 1, none⟩ = some (.int .i64 0) := (blk_cell a0.out 1).trans rfl; have b4 : w8.cell? ⟨a2, 2, none⟩ = some (.int .i64 0) := (blk_cell a0.out 2).trans rfl; have b5 : w8.cell? ⟨a2, 3, none⟩ = some (.int .i64 0) := (blk_cell a0.out 3).trans rfl; have b6 : w8.cell? ⟨a2, 4, none⟩ = some (.slice none 0 0) := (blk_cell a0.out 4).trans rfl; have b7 : w8.cell? ⟨a2, 5, none⟩ = some (.slice none 0 0) := (blk_cell a0.out 5).trans rfl; have b8 : w8.cell? ⟨a2, 6, none⟩ = some (.slice none 0 0) := (blk_cell a0.out 6).trans rfl; have b9 : w8.cell? ⟨a2, 7, none⟩ = some (.slice none 0 0) := (blk_cell a0.out 7).trans rfl; have c0 := yaa a0.out 0; have c1 := yaa a0.out 1; have c2 := yaa a0.out 2; have c4 := yaa a0.out 3; have c5 := yaa a0.out 4; have c6 := yaa a0.out 5; have c7 := yaa a0.out 6; have c8 := yaa a0.out 7))
  refine bodyPost_ret (results_cell_row rfl _ _ a2 63 #[.int .i64 0, .int .i64 a0_1, .int .i64 0, .int .i64 0, .slice none 0 0, .slice none 0 0, .slice none 0 0, .slice none 0 0] (0, 0) _ rfl (by (repeat refine oneB ?_); refine blk_put (cs := #[.int .i64 0, .int .i64 a0_1, .int .i64 0, .int .i64 0, .slice none 0 0, .slice none 0 0, .slice none 0 0, .slice none 0 0]) ?_ 7 _ rfl; refine blk_put (cs := #[.int .i64 0, .int .i64 a0_1, .int .i64 0, .int .i64 0, .slice none 0 0, .slice none 0 0, .slice none 0 0, .slice none 0 0]) ?_ 6 _ rfl; refine blk_put (cs := #[.int .i64 0, .int .i64 a0_1, .int .i64 0, .int .i64 0, .slice none 0 0, .slice none 0 0, .slice none 0 0, .slice none 0 0]) ?_ 5 _ rfl; refine blk_put (cs := #[.int .i64 0, .int .i64 a0_1, .int .i64 0, .int .i64 0, .slice none 0 0, .slice none 0 0, .slice none 0 0, .slice none 0 0]) ?_ 4 _ rfl; refine blk_put (cs := #[.int .i64 0, .int .i64 a0_1, .int .i64 0, .int .i64 0, .slice none 0 0, .slice none 0 0, .slice none 0 0, .slice none 0 0]) ?_ 3 _ rfl; refine blk_put (cs := #[.int .i64 0, .int .i64 a0_1, .int .i64 0, .int .i64 0, .slice none 0 0, .slice none 0 0, .slice none 0 0, .slice none 0 0]) ?_ 2 _ rfl; refine blk_put (cs := #[.int .i64 0, .int .i64 0, .int .i64 0, .int .i64 0, .slice none 0 0, .slice none 0 0, .slice none 0 0, .slice none 0 0]) ?_ 1 _ rfl; refine blk_put (cs := #[.int .i64 0, .int .i64 0, .int .i64 0, .int .i64 0, .slice none 0 0, .slice none 0 0, .slice none 0 0, .slice none 0 0]) ?_ 0 _ rfl; exact upB a0.out) Try.underlying63 rfl (by kernel_rfl)) rfl ?_
  exact ⟨_, _, _, _, by first | rfl | (simp [*, errW_none, errW_some] <;> rfl), by first | exact Kd.S_nil _ _ _ _ _ | exact Kd.N_nil _ _ _ _ _ | exact Kd.V_nil _ _ _ _ _ | exact Kd.Q_nil _ _ _ _ _ | exact Kd.R_nil _ _ _ _ _, by first | exact Kd.S_nil _ _ _ _ _ | exact Kd.N_nil _ _ _ _ _ | exact Kd.V_nil _ _ _ _ _ | exact Kd.Q_nil _ _ _ _ _ | exact Kd.R_nil _ _ _ _ _, by first | exact Kd.R_nil _ _ _ _ _ | exact Kd.N_nil _ _ _ _ _ | exact Kd.V_nil _ _ _ _ _ | exact Kd.Q_nil _ _ _ _ _ | exact Kd.S_nil _ _ _ _ _, by first | exact Kd.S_nil _ _ _ _ _ | exact Kd.N_nil _ _ _ _ _ | exact Kd.V_nil _ _ _ _ _ | exact Kd.Q_nil _ _ _ _ _ | exact Kd.R_nil _ _ _ _ _, by repeat (with_reducible first | exact HB.out | apply below_alloc | apply pw_below_drewN | apply below_drew1 | refine below_set ?_ (Aside0.out ‹_›))⟩
 ·
  replace c3 := Bool.eq_false_iff.mpr c3
  subst c3
  rw [if_neg (show ¬ (false = true) by decide)] at H
  simp only [Option.some.injEq, Prod.mk.injEq] at H
  obtain ⟨rfl, rfl, rfl, rfl, rfl, rfl, rfl, rfl⟩ := H
  go_enter Try.func38, Try.ntmps38
  go_wp2_with (first | ((with_reducible refine gate_dst (N := 1) rfl ?_); refine bx_ 1 #[.slice A0_0 l0_0.length c0_0, .int .i64 a0_1, .int .i64 a0_2, .int .i64 a0_3, .int .i64 a0_4, .int .i64 a0_5, .int .i64 a0_6] 24 ?_; intro a5 hg w11 hbox hb; have a1 := yab (hbox); have a6 := yab ((by rw [hg]; exact (below_size (upH HB.out)) : w.heap.size ≤ a5)); replace HB := yab (below_step (upH HB.out) hb); have a9 := a6; clear hb hbox hg) | ((with_reducible refine gate_dst (N := 2) rfl ?_); refine bx_ 2 #[.int .i64 0, .int .i64 0, .int .i64 0, .int .i64 0, .slice none 0 0, .slice none 0 0, .slice none 0 0, .slice none 0 0] 63 ?_; intro a2 hg w12 hbox hb; have a0 := yab (hbox); have a7 := yab ((by rw [hg]; exact (below_size (by repeat (with_reducible first | exact HB.out | apply below_alloc | apply pw_below_drewN | apply below_drew1 | refine below_set ?_ (Aside0.out ‹_›)))) : w.heap.size ≤ a2)); replace HB := yab (below_step (by repeat (with_reducible first | exact HB.out | apply below_alloc | apply pw_below_drewN | apply below_drew1 | refine below_set ?_ (Aside0.out ‹_›))) hb); have b0 := a7; have a3 := yab ((by rw [hg]; exact Nat.ne_of_lt (blk_lt (upB a1.out)) : a5 ≠ a2)); replace a1 := yab (blk_below (upB a1.out) hb); have a4 := yab a3.out.symm; clear hb hbox hg; have i7 := a3.out; have i8 := a4.out; obtain ⟨c9, d0, d1, d2, d3, d4, d5⟩ := cc7_ a1.out; have d6 := yaa a1.out 0; have d7 := yaa a1.out 1; have d8 := yaa a1.out 2; have d9 := yaa a1.out 3; have e0 := yaa a1.out 4; have e1 := yaa a1.out 5; have e2 := yaa a1.out 6) | ((with_reducible refine gate_callee (f := 15) rfl ?_); refine gl_ (some 4) rfl Try.func15 #[.agg #[.slice A0_0 l0_0.length c0_0, .int .i64 a0_1, .int .i64 a0_2, .int .i64 a0_3, .int .i64 a0_4, .int .i64 a0_5, .int .i64 a0_6]] ?_; (with_reducible refine (spec_CfgOk.calls _ _ l0_0 a0_1 a0_2 a0_3 a0_4 a0_5 a0_6 false _ ?side1 ?side2 A2.out).mono ?_); (case side1 => repeat (first | exact (Kd.C_below HR0_0.out HB.out) | (with_reducible refine Kd.C_alloc ?_ _) | (with_reducible refine Kd.C_drewN ?_ _) | (with_reducible refine Kd.C_drew ?_))); (case side2 => exact HC0_0.out); rintro e w15 ⟨rfl, hb⟩; refine ⟨_, rfl, ?_⟩; replace a1 := yab (blk_below (upB a1.out) hb); replace a0 := yab (blk_below (upB a0.out) hb); replace HB := yab (below_step (by repeat (with_reducible first | exact HB.out | apply below_alloc | apply pw_below_drewN | apply below_drew1 | refine below_set ?_ (Aside0.out ‹_›))) hb); (try clear hb); (try clear hb2); (try clear hk); (try clear hi); have e3 : w15.cell? ⟨a2, 0, none⟩ = some (.int .i64 0) := (blk_cell a0.out 0).trans rfl; have e4 : w15.cell? ⟨a2, 1, none⟩ = some (.int .i64 0) := (blk_cell a0.out 1).trans rfl; have e5 : w15.cell? ⟨a2, 2, none⟩ = some (.int .i64 0) := (blk_cell a0.out 2).trans rfl; have e6 : w15.cell? ⟨a2, 3, none⟩ = some (.int .i64 0) := (blk_cell a0.out 3).trans rfl; have e7 : w15.cell? ⟨a2, 4, none⟩ = some (.slice none 0 0) := (blk_cell a0.out 4).trans rfl; have e8 : w15.cell? ⟨a2, 5, none⟩ = some (.slice none 0 0) := (blk_cell a0.out 5).trans rfl; have e9 : w15.cell? ⟨a2, 6, none⟩ = some (.slice none 0 0) := (blk_cell a0.out 6).trans rfl; have f0 : w15.cell? ⟨a2, 7, none⟩ = some (.slice none 0 0) := (blk_cell a0.out 7).trans rfl; have f1 := yaa a0.out 0; have f2 := yaa a0.out 1; have f3 := yaa a0.out 2; have f4 := yaa a0.out 3; have f5 := yaa a0.out 4; have f6 := yaa a0.out 5; have f7 := yaa a0.out 6; have f8 := yaa a0.out 7))
  refine bodyPost_ret (results_cell_row rfl _ _ a2 63 #[.int .i64 0, .int .i64 0, .int .i64 0, .int .i64 0, .slice none 0 0, .slice none 0 0, .slice none 0 0, .slice none 0 0] (0, 0) _ rfl (by (repeat refine oneB ?_); refine blk_put (cs := #[.int .i64 0, .int .i64 0, .int .i64 0, .int .i64 0, .slice none 0 0, .slice none 0 0, .slice none 0 0, .slice none 0 0]) ?_ 7 _ rfl; refine blk_put (cs := #[.int .i64 0, .int .i64 0, .int .i64 0, .int .i64 0, .slice none 0 0, .slice none 0 0, .slice none 0 0, .slice none 0 0]) ?_ 6 _ rfl; refine blk_put (cs := #[.int .i64 0, .int .i64 0, .int .i64 0, .int .i64 0, .slice none 0 0, .slice none 0 0, .slice none 0 0, .slice none 0 0]) ?_ 5 _ rfl; refine blk_put (cs := #[.int .i64 0, .int .i64 0, .int .i64 0, .int .i64 0, .slice none 0 0, .slice none 0 0, .slice none 0 0, .slice none 0 0]) ?_ 4 _ rfl; refine blk_put (cs := #[.int .i64 0, .int .i64 0, .int .i64 0, .int .i64 0, .slice none 0 0, .slice none 0 0, .slice none 0 0, .slice none 0 0]) ?_ 3 _ rfl; refine blk_put (cs := #[.int .i64 0, .int .i64 0, .int .i64 0, .int .i64 0, .slice none 0 0, .slice none 0 0, .slice none 0 0, .slice none 0 0]) ?_ 2 _ rfl; refine blk_put (cs := #[.int .i64 0, .int .i64 0, .int .i64 0, .int .i64 0, .slice none 0 0, .slice none 0 0, .slice none 0 0, .slice none 0 0]) ?_ 1 _ rfl; refine blk_put (cs := #[.int .i64 0, .int .i64 0, .int .i64 0, .int .i64 0, .slice none 0 0, .slice none 0 0, .slice none 0 0, .slice none 0 0]) ?_ 0 _ rfl; exact upB a0.out) Try.underlying63 rfl (by kernel_rfl)) rfl ?_
  exact ⟨_, _, _, _, by first | rfl | (simp [*, errW_none, errW_some] <;> rfl), by first | exact Kd.S_nil _ _ _ _ _ | exact Kd.N_nil _ _ _ _ _ | exact Kd.V_nil _ _ _ _ _ | exact Kd.Q_nil _ _ _ _ _ | exact Kd.R_nil _ _ _ _ _, by first | exact Kd.S_nil _ _ _ _ _ | exact Kd.N_nil _ _ _ _ _ | exact Kd.V_nil _ _ _ _ _ | exact Kd.Q_nil _ _ _ _ _ | exact Kd.R_nil _ _ _ _ _, by first | exact Kd.R_nil _ _ _ _ _ | exact Kd.N_nil _ _ _ _ _ | exact Kd.V_nil _ _ _ _ _ | exact Kd.Q_nil _ _ _ _ _ | exact Kd.S_nil _ _ _ _ _, by first | exact Kd.S_nil _ _ _ _ _ | exact Kd.N_nil _ _ _ _ _ | exact Kd.V_nil _ _ _ _ _ | exact Kd.Q_nil _ _ _ _ _ | exact Kd.R_nil _ _ _ _ _, by repeat (with_reducible first | exact HB.out | apply below_alloc | apply pw_below_drewN | apply below_drew1 | refine below_set ?_ (Aside0.out ‹_›))⟩

end Go.Proofs.Ytgpkkkmapgnhkaa.X

namespace Go.Proofs.Ytgpkkkmapgnhkaa.X
open Go.RowKit Go.Proofs.YtgpkkkmapgnhkaaW.PrintWords Go.Proofs.YtgpkkkmapgnhkaaW.PrintLast Go.Proofs.YtgpkkkmapgnhkaaW.PrintMore
attribute [local go_sem] max2_int min2_int max_two min_two max_three min_three max_four min_four
set_option linter.unusedVariables false
set_option linter.unusedSimpArgs false

/-! ### impl_sizeOk: function 143 -/
def impl_sizeOk.f (a0 : Int) : Option (Bool) := if a0 ≥ 1 then (some (decide (a0 ≤ 6))) else (some false)
set_option maxHeartbeats 8000000 in
set_option maxRecDepth 100000 in
theorem impl_sizeOk.calls (a0 : Int) (r : Bool) (w : World) (h : impl_sizeOk.f a0 = some r) :
    Calls Try.prog 143 #[.int .i64 a0] w fun e w' => e = .returned (.bool r) ∧ Drawn0 w w' := by
  have H : (if a0 ≥ 1 then (some (decide (a0 ≤ 6))) else (some false)) = some r := h; clear h
  by_cases c2 : a0 ≥ 1
  · rw [if_pos c2] at H
    have c2b0 : decide (1 ≤ a0) = true := decide_eq_true c2; clear c2; obtain rfl := Option.some.inj H
    go_enter Try.func143, Try.ntmps143
    go_wp2
    go_ret
    exact ⟨by first | rfl | (simp; done) | (simp [*]; done), by repeat (first | exact Drawn0.refl _ | apply Drawn0.step)⟩
  · rw [if_neg c2] at H
    have c2b0 : decide (1 ≤ a0) = false := decide_eq_false c2; clear c2; obtain rfl := Option.some.inj H
    go_enter Try.func143, Try.ntmps143
    go_wp2
    go_ret
    exact ⟨by first | rfl | (simp; done) | (simp [*]; done), by repeat (first | exact Drawn0.refl _ | apply Drawn0.step)⟩

end Go.Proofs.Ytgpkkkmapgnhkaa.X

namespace Go.Proofs.Ytgpkkkmapgnhkaa.X
open Go.RowKit Go.Proofs.YtgpkkkmapgnhkaaW.PrintWords Go.Proofs.YtgpkkkmapgnhkaaW.PrintLast Go.Proofs.YtgpkkkmapgnhkaaW.PrintMore
attribute [local go_sem] max2_int min2_int max_two min_two max_three min_three max_four min_four
set_option linter.unusedVariables false
set_option linter.unusedSimpArgs false

attribute [local go_sem high] eqA146
open Go.Proofs.YtgpkkkmapgnhkaaW.PrintWords renaming pw_below_drewN → yaa, below_alloc → yac, below_drew1 → yad, below_set → yae
open Go.Proofs.YtgpkkkmapgnhkaaW.PrintWords.Aside0 renaming mk → yab

/-! ### impl_OpOk: function 121 -/
def impl_OpOk.j0 : Nat → Int → Bool → Int → Int → Int → Int → Int → Option (Bool)
 | 0, _, _, _, _, _, _, _ => none
 | k + 1, x4, x25, x102000, x102001, x102002, x102003, x102004 => if x25 = true then (some (x102001 == 0 && (x102002 == 0 && (x102003 == 0 && (x102004 == 0))))) else (if x4 = 7 then ((impl_sizeOk.f x102001).bind fun t106 => (if t106 = true then ((impl_sizeOk.f x102002).bind fun t107 => (if t107 = true then (if x102003 = 0 then (some (x102004 == 0)) else (some false)) else (some false))) else (some false))) else (if x4 = 8 then ((impl_partOk.f x102001).bind fun t108 => (if t108 = true then ((impl_partOk.f x102002).bind fun t109 => (if t109 = true then ((impl_partOk.f x102003).bind fun t110 => (if t110 = true then (some (x102004 == 0)) else (some false))) else (some false))) else (some false))) else (some false)))
def impl_OpOk.f (k : Nat) (a0_0 : Int) (a0_1 : Int) (a0_2 : Int) (a0_3 : Int) (a0_4 : Int) : Option (Bool) := if a0_0 = 1 then ((impl_within.f a0_1 0 5).bind fun t102 => (if t102 = true then ((impl_within.f a0_2 0 5).bind fun t103 => (if t103 = true then ((impl_sizeOk.f a0_3).bind fun t104 => (if t104 = true then ((impl_sizeOk.f a0_4).bind fun t105 => (some t105)) else (some false))) else (some false))) else (some false))) else (if a0_0 = 2 then (impl_OpOk.j0 k a0_0 (a0_0 == 2) a0_0 a0_1 a0_2 a0_3 a0_4) else (if a0_0 = 3 then (impl_OpOk.j0 k a0_0 (a0_0 == 3) a0_0 a0_1 a0_2 a0_3 a0_4) else (if a0_0 = 4 then (impl_OpOk.j0 k a0_0 (a0_0 == 4) a0_0 a0_1 a0_2 a0_3 a0_4) else (if a0_0 = 5 then (impl_OpOk.j0 k a0_0 (a0_0 == 5) a0_0 a0_1 a0_2 a0_3 a0_4) else (impl_OpOk.j0 k a0_0 (a0_0 == 6) a0_0 a0_1 a0_2 a0_3 a0_4)))))
set_option maxHeartbeats 8000000 in
set_option maxRecDepth 100000 in
theorem impl_OpOk.calls (k : Nat) (a0_0 : Int) (a0_1 : Int) (a0_2 : Int) (a0_3 : Int) (a0_4 : Int) (r : Bool) (w : World) (h : impl_OpOk.f k a0_0 a0_1 a0_2 a0_3 a0_4 = some r) :
  Calls Try.prog 121 #[.agg #[.int .i64 a0_0, .int .i64 a0_1, .int .i64 a0_2, .int .i64 a0_3, .int .i64 a0_4]] w fun e w' => e = .returned (.bool r) ∧ Below w.heap.size w w' := by
 have hu146 := Try.underlying146; have HB := yab (Below.refl w.heap.size w); have H : (if a0_0 = 1 then ((impl_within.f a0_1 0 5).bind fun h6 => (if h6 = true then ((impl_within.f a0_2 0 5).bind fun h7 => (if h7 = true then ((impl_sizeOk.f a0_3).bind fun h8 => (if h8 = true then ((impl_sizeOk.f a0_4).bind fun h9 => (some h9)) else (some false))) else (some false))) else (some false))) else (if a0_0 = 2 then (impl_OpOk.j0 k a0_0 (a0_0 == 2) a0_0 a0_1 a0_2 a0_3 a0_4) else (if a0_0 = 3 then (impl_OpOk.j0 k a0_0 (a0_0 == 3) a0_0 a0_1 a0_2 a0_3 a0_4) else (if a0_0 = 4 then (impl_OpOk.j0 k a0_0 (a0_0 == 4) a0_0 a0_1 a0_2 a0_3 a0_4) else (if a0_0 = 5 then (impl_OpOk.j0 k a0_0 (a0_0 == 5) a0_0 a0_1 a0_2 a0_3 a0_4) else (impl_OpOk.j0 k a0_0 (a0_0 == 6) a0_0 a0_1 a0_2 a0_3 a0_4)))))) = some r := h; clear h
 by_cases c2 : a0_0 = 1
 ·
  rw [if_pos c2] at H
  have i0 : (a0_0 == 1) = true := beq_iff_eq.mpr c2; have i1 : (a0_0 != 1) = false := bne_eq_false_iff_eq.mpr c2; clear c2; replace H := Option.bind_eq_some_iff.mp H; obtain ⟨h6, A30, H⟩ := H; (try dsimp only at H); have A3 := yab A30; clear A30
  by_cases c4 : h6 = true
  ·
   subst c4
   rw [if_pos rfl] at H
   replace H := Option.bind_eq_some_iff.mp H; obtain ⟨h7, A50, H⟩ := H; (try dsimp only at H); have A5 := yab A50; clear A50
   by_cases c6 : h7 = true
   ·
    subst c6
    rw [if_pos rfl] at H
    replace H := Option.bind_eq_some_iff.mp H; obtain ⟨h8, A70, H⟩ := H; (try dsimp only at H); have A7 := yab A70; clear A70
    by_cases c8 : h8 = true
    ·
     subst c8
     rw [if_pos rfl] at H
     replace H := Option.bind_eq_some_iff.mp H; obtain ⟨h9, A90, H⟩ := H; (try dsimp only at H); have A9 := yab A90; clear A90; obtain rfl := Option.some.inj H
     go_enter Try.func121, Try.ntmps121
     go_wp2_with (first | ((with_reducible refine gate_dst (N := 1) rfl ?_); refine bx_ 1 #[.int .i64 a0_0, .int .i64 a0_1, .int .i64 a0_2, .int .i64 a0_3, .int .i64 a0_4] 146 ?_; intro a6 hg w10 hbox hb; have a5 := yab (hbox); have a7 := yab ((by rw [hg]; exact (below_size (upH HB.out)) : w.heap.size ≤ a6)); replace HB := yab (below_step (upH HB.out) hb); have b2 := a7; clear hb hbox hg; obtain ⟨b3, b4, b5, b6, b7⟩ := cc5_ a5.out; obtain ⟨b8, b9, c0, c3⟩ := cf4_ a5.out; have c7 := blk_frozen a5.out 4) | ((with_reducible refine gate_callee (f := 62) rfl ?_); refine gl_ (some 9) rfl Try.func62 #[.int .i64 a0_1, .int .i64 0, .int .i64 5] ?_; (with_reducible refine (impl_within.calls a0_1 0 5 true _ A3.out).mono ?_); rintro e w' ⟨rfl, ⟨nd, rfl⟩⟩; refine ⟨_, rfl, ?_⟩) | (go_at_call 62; (with_reducible refine (impl_within.calls a0_2 0 5 true _ A5.out).mono ?_); rintro e w' ⟨rfl, ⟨nd, rfl⟩⟩) | (go_at_call 143; (with_reducible refine (impl_sizeOk.calls a0_3 true _ A7.out).mono ?_); rintro e w' ⟨rfl, ⟨nd, rfl⟩⟩) | (go_at_call 143; (with_reducible refine (impl_sizeOk.calls a0_4 h9 _ A9.out).mono ?_); rintro e w' ⟨rfl, ⟨nd, rfl⟩⟩))
     go_ret
     exact ⟨by first | rfl | (simp [*, errW_none, errW_some] <;> rfl), by repeat (with_reducible first | exact HB.out | apply yac | apply yaa | apply yad | refine yae ?_ (Aside0.out ‹_›))⟩
    ·
     replace c8 := Bool.eq_false_iff.mpr c8
     subst c8
     rw [if_neg (show ¬ (false = true) by decide)] at H
     obtain rfl := Option.some.inj H
     go_enter Try.func121, Try.ntmps121
     go_wp2_with (first | ((with_reducible refine gate_dst (N := 1) rfl ?_); refine bx_ 1 #[.int .i64 a0_0, .int .i64 a0_1, .int .i64 a0_2, .int .i64 a0_3, .int .i64 a0_4] 146 ?_; intro a6 hg w12 hbox hb; have a5 := yab (hbox); have a7 := yab ((by rw [hg]; exact (below_size (upH HB.out)) : w.heap.size ≤ a6)); replace HB := yab (below_step (upH HB.out) hb); have b2 := a7; clear hb hbox hg; obtain ⟨c9, d0, d1, d2, d3⟩ := cc5_ a5.out; obtain ⟨d4, d5, d6, d7⟩ := cf4_ a5.out; have d8 := blk_frozen a5.out 4) | ((with_reducible refine gate_callee (f := 62) rfl ?_); refine gl_ (some 9) rfl Try.func62 #[.int .i64 a0_1, .int .i64 0, .int .i64 5] ?_; (with_reducible refine (impl_within.calls a0_1 0 5 true _ A3.out).mono ?_); rintro e w' ⟨rfl, ⟨nd, rfl⟩⟩; refine ⟨_, rfl, ?_⟩) | (go_at_call 62; (with_reducible refine (impl_within.calls a0_2 0 5 true _ A5.out).mono ?_); rintro e w' ⟨rfl, ⟨nd, rfl⟩⟩) | (go_at_call 143; (with_reducible refine (impl_sizeOk.calls a0_3 false _ A7.out).mono ?_); rintro e w' ⟨rfl, ⟨nd, rfl⟩⟩))
     go_ret
     exact ⟨by first | rfl | (simp [*, errW_none, errW_some] <;> rfl), by repeat (with_reducible first | exact HB.out | apply yac | apply yaa | apply yad | refine yae ?_ (Aside0.out ‹_›))⟩
   ·
    replace c6 := Bool.eq_false_iff.mpr c6
    subst c6
    rw [if_neg (show ¬ (false = true) by decide)] at H
    obtain rfl := Option.some.inj H
    go_enter Try.func121, Try.ntmps121
    go_wp2_with (first | ((with_reducible refine gate_dst (N := 1) rfl ?_); refine bx_ 1 #[.int .i64 a0_0, .int .i64 a0_1, .int .i64 a0_2, .int .i64 a0_3, .int .i64 a0_4] 146 ?_; intro a6 hg w14 hbox hb; have a5 := yab (hbox); have a7 := yab ((by rw [hg]; exact (below_size (upH HB.out)) : w.heap.size ≤ a6)); replace HB := yab (below_step (upH HB.out) hb); have b2 := a7; clear hb hbox hg; obtain ⟨d9, e0, e1, e2, e3⟩ := cc5_ a5.out; obtain ⟨e4, e5, e6, e7⟩ := cf4_ a5.out; have e8 := blk_frozen a5.out 4) | ((with_reducible refine gate_callee (f := 62) rfl ?_); refine gl_ (some 9) rfl Try.func62 #[.int .i64 a0_1, .int .i64 0, .int .i64 5] ?_; (with_reducible refine (impl_within.calls a0_1 0 5 true _ A3.out).mono ?_); rintro e w' ⟨rfl, ⟨nd, rfl⟩⟩; refine ⟨_, rfl, ?_⟩) | (go_at_call 62; (with_reducible refine (impl_within.calls a0_2 0 5 false _ A5.out).mono ?_); rintro e w' ⟨rfl, ⟨nd, rfl⟩⟩))
    go_ret
    exact ⟨by first | rfl | (simp [*, errW_none, errW_some] <;> rfl), by repeat (with_reducible first | exact HB.out | apply yac | apply yaa | apply yad | refine yae ?_ (Aside0.out ‹_›))⟩
  ·
   replace c4 := Bool.eq_false_iff.mpr c4
   subst c4
   rw [if_neg (show ¬ (false = true) by decide)] at H
   obtain rfl := Option.some.inj H
   go_enter Try.func121, Try.ntmps121
   go_wp2_with (first | ((with_reducible refine gate_dst (N := 1) rfl ?_); refine bx_ 1 #[.int .i64 a0_0, .int .i64 a0_1, .int .i64 a0_2, .int .i64 a0_3, .int .i64 a0_4] 146 ?_; intro a6 hg w16 hbox hb; have a5 := yab (hbox); have a7 := yab ((by rw [hg]; exact (below_size (upH HB.out)) : w.heap.size ≤ a6)); replace HB := yab (below_step (upH HB.out) hb); have b2 := a7; clear hb hbox hg; obtain ⟨e9, f0, f1, f2, f3⟩ := cc5_ a5.out; obtain ⟨f4, f5, f6, f7⟩ := cf4_ a5.out; have f8 := blk_frozen a5.out 4) | ((with_reducible refine gate_callee (f := 62) rfl ?_); refine gl_ (some 9) rfl Try.func62 #[.int .i64 a0_1, .int .i64 0, .int .i64 5] ?_; (with_reducible refine (impl_within.calls a0_1 0 5 false _ A3.out).mono ?_); rintro e w' ⟨rfl, ⟨nd, rfl⟩⟩; refine ⟨_, rfl, ?_⟩))
   go_ret
   exact ⟨by first | rfl | (simp [*, errW_none, errW_some] <;> rfl), by repeat (with_reducible first | exact HB.out | apply yac | apply yaa | apply yad | refine yae ?_ (Aside0.out ‹_›))⟩
 ·
  rw [if_neg c2] at H
  have i0 : (a0_0 == 1) = false := beq_eq_false_iff_ne.mpr c2; have i1 : (a0_0 != 1) = true := bne_iff_ne.mpr c2; have HC18 := yab H; clear H
  go_enter Try.func121, Try.ntmps121
  go_upto_if 25 with (first | ((with_reducible refine gate_dst (N := 1) rfl ?_); refine bx_ 1 #[.int .i64 a0_0, .int .i64 a0_1, .int .i64 a0_2, .int .i64 a0_3, .int .i64 a0_4] 146 ?_; intro a6 hg w19 hbox hb; have a5 := yab (hbox); have a7 := yab ((by rw [hg]; exact (below_size (upH HB.out)) : w.heap.size ≤ a6)); replace HB := yab (below_step (upH HB.out) hb); have b2 := a7; clear hb hbox hg; obtain ⟨f9, g0, g1, g2, g3⟩ := cc5_ a5.out; obtain ⟨g4, g5, g6, g7⟩ := cf4_ a5.out; have g8 := blk_frozen a5.out 4))
  (try simp only [Act.put, List.setIfInBounds_toArray, List.set_cons_zero, List.set_cons_succ])
  go_cut [25] (fun v25 wc => ∃ (kq : Nat) (b0 : Bool), v25 = .bool b0 ∧ Aside0 (impl_OpOk.j0 kq a0_0 b0 a0_0 a0_1 a0_2 a0_3 a0_4 = some r) ∧ Aside0 (kq ≤ k) ∧ Aside0 (wc.heap[a6]? = some (.cells #[.int .i64 a0_0, .int .i64 a0_1, .int .i64 a0_2, .int .i64 a0_3, .int .i64 a0_4] 146 (0, 0))) ∧ Aside0 (Below w.heap.size w wc))
  case first =>
   have H := HC18.out; clear HC18
   by_cases c21 : a0_0 = 2
   ·
    rw [if_pos c21] at H
    have a9 : (a0_0 == 2) = true := beq_iff_eq.mpr c21; have g9 : (a0_0 != 2) = false := bne_eq_false_iff_eq.mpr c21; clear c21
    (first | rw [a9] | (simp only [i64_w, i32_w]; rw [a9]) | skip)
    have H' := yab H; clear H
    go_wp2
    go_meet
    case rel => exact ⟨_, ((a0_0 == 2)), (by first | rfl | (simp; done) | (simp [*]; done)), H', ⟨by first | omega | exact Nat.le_refl _⟩, ⟨by exact upB a5.out⟩, ⟨by repeat (with_reducible first | exact HB.out | apply yac | apply yaa | apply yad | refine yae ?_ (Aside0.out ‹_›))⟩⟩
   ·
    rw [if_neg c21] at H
    have a9 : (a0_0 == 2) = false := beq_eq_false_iff_ne.mpr c21; have g9 : (a0_0 != 2) = true := bne_iff_ne.mpr c21
    (first | rw [a9] | (simp only [i64_w, i32_w]; rw [a9]) | skip)
    by_cases c22 : a0_0 = 3
    ·
     rw [if_pos c22] at H
     have h0 : (a0_0 == 3) = true := beq_iff_eq.mpr c22; have h1 : (a0_0 != 3) = false := bne_eq_false_iff_eq.mpr c22; clear c22; have H' := yab H; clear H
     go_wp2
     go_meet
     case rel => exact ⟨_, ((a0_0 == 3)), (by first | rfl | (simp; done) | (simp [*]; done)), H', ⟨by first | omega | exact Nat.le_refl _⟩, ⟨by exact upB a5.out⟩, ⟨by repeat (with_reducible first | exact HB.out | apply yac | apply yaa | apply yad | refine yae ?_ (Aside0.out ‹_›))⟩⟩
    ·
     rw [if_neg c22] at H
     have h0 : (a0_0 == 3) = false := beq_eq_false_iff_ne.mpr c22; have h1 : (a0_0 != 3) = true := bne_iff_ne.mpr c22
     by_cases c23 : a0_0 = 4
     ·
      rw [if_pos c23] at H
      have h2 : (a0_0 == 4) = true := beq_iff_eq.mpr c23; have h3 : (a0_0 != 4) = false := bne_eq_false_iff_eq.mpr c23; clear c23; have H' := yab H; clear H
      go_wp2
      go_meet
      case rel => exact ⟨_, ((a0_0 == 4)), (by first | rfl | (simp; done) | (simp [*]; done)), H', ⟨by first | omega | exact Nat.le_refl _⟩, ⟨by exact upB a5.out⟩, ⟨by repeat (with_reducible first | exact HB.out | apply yac | apply yaa | apply yad | refine yae ?_ (Aside0.out ‹_›))⟩⟩
     ·
      rw [if_neg c23] at H
      have h2 : (a0_0 == 4) = false := beq_eq_false_iff_ne.mpr c23; have h3 : (a0_0 != 4) = true := bne_iff_ne.mpr c23
      by_cases c24 : a0_0 = 5
      ·
       rw [if_pos c24] at H
       have h4 : (a0_0 == 5) = true := beq_iff_eq.mpr c24; have h5 : (a0_0 != 5) = false := bne_eq_false_iff_eq.mpr c24; clear c24; have H' := yab H; clear H
       go_wp2
       go_meet
       case rel => exact ⟨_, ((a0_0 == 5)), (by first | rfl | (simp; done) | (simp [*]; done)), H', ⟨by first | omega | exact Nat.le_refl _⟩, ⟨by exact upB a5.out⟩, ⟨by repeat (with_reducible first | exact HB.out | apply yac | apply yaa | apply yad | refine yae ?_ (Aside0.out ‹_›))⟩⟩
      ·
       rw [if_neg c24] at H
       have h4 : (a0_0 == 5) = false := beq_eq_false_iff_ne.mpr c24; have h5 : (a0_0 != 5) = true := bne_iff_ne.mpr c24; have H' := yab H; clear H
       go_wp2
       go_meet
       case rel => exact ⟨_, ((a0_0 == 6)), (by first | rfl | (simp; done) | (simp [*]; done)), H', ⟨by first | omega | exact Nat.le_refl _⟩, ⟨by exact upB a5.out⟩, ⟨by repeat (with_reducible first | exact HB.out | apply yac | apply yaa | apply yad | refine yae ?_ (Aside0.out ‹_›))⟩⟩
  case rest =>
   clear HC18; (try clear c1); (try clear c2); (try clear i0); (try clear i1); (try clear p2); (try clear c4); (try clear c6); (try clear c8); (try clear c12); (try clear c21); (try clear a9); (try clear g9); (try clear c22); (try clear h0); (try clear h1); (try clear c23); (try clear h2); (try clear h3); (try clear c24); (try clear h4); (try clear h5); (try clear b3); (try clear b4); (try clear b5); (try clear b6); (try clear b7); (try clear c9); (try clear d0); (try clear d1); (try clear d2); (try clear d3); (try clear d9); (try clear e0); (try clear e1); (try clear e2); (try clear e3); (try clear e9); (try clear f0); (try clear f1); (try clear f2); (try clear f3); (try clear f9); (try clear g0); (try clear g1); (try clear g2); (try clear g3); (try clear b8); (try clear b9); (try clear c0); (try clear c3); (try clear c7); (try clear d4); (try clear d5); (try clear d6); (try clear d7); (try clear d8); (try clear e4); (try clear e5); (try clear e6); (try clear e7); (try clear e8); (try clear f4); (try clear f5); (try clear f6); (try clear f7); (try clear f8); (try clear g4); (try clear g5); (try clear g6); (try clear g7); (try clear g8); obtain ⟨kq, b0, rfl, HA, HJ17, a5, HB⟩ := hcut
   cases kq with
   | zero => exact absurd HA.out (by simp [impl_OpOk.j0])
   | succ kj17 =>
    have H := HA.out; clear HA
    simp only [impl_OpOk.j0] at H
    by_cases c25 : b0 = true
    ·
     subst c25
     rw [if_pos rfl] at H
     obtain rfl := Option.some.inj H; obtain ⟨j4, j5, j6, j7, j8⟩ := cc5_ a5.out; obtain ⟨j9, k0, k1, k2, k3⟩ := cf5_ a5.out
     go_wp2
     go_ret
     exact ⟨by first | rfl | (simp [*, errW_none, errW_some] <;> rfl), by repeat (with_reducible first | exact HB.out | apply yac | apply yaa | apply yad | refine yae ?_ (Aside0.out ‹_›))⟩
    ·
     replace c25 := Bool.eq_false_iff.mpr c25
     subst c25
     rw [if_neg (show ¬ (false = true) by decide)] at H
     by_cases c27 : a0_0 = 7
     ·
      rw [if_pos c27] at H
      have i2 : (a0_0 == 7) = true := beq_iff_eq.mpr c27; have i3 : (a0_0 != 7) = false := bne_eq_false_iff_eq.mpr c27; clear c27; replace H := Option.bind_eq_some_iff.mp H; obtain ⟨s5, i4, H⟩ := H; (try dsimp only at H); have A28 := yab i4; clear i4
      by_cases c29 : s5 = true
      ·
       subst c29
       rw [if_pos rfl] at H
       replace H := Option.bind_eq_some_iff.mp H; obtain ⟨s6, i5, H⟩ := H; (try dsimp only at H); have A30 := yab i5; clear i5
       by_cases c31 : s6 = true
       ·
        subst c31
        rw [if_pos rfl] at H
        by_cases c32 : a0_3 = 0
        ·
         rw [if_pos c32] at H
         have i6 : (a0_3 == 0) = true := beq_iff_eq.mpr c32; have i7 : (a0_3 != 0) = false := bne_eq_false_iff_eq.mpr c32; clear c32; obtain rfl := Option.some.inj H; obtain ⟨k4, k5, k6, k7, k8⟩ := cc5_ a5.out; obtain ⟨k9, l0, l1, l2, l3⟩ := cf5_ a5.out
         go_wp2_with (first | ((with_reducible refine gate_callee (f := 143) rfl ?_); refine gl_ (some 40) rfl Try.func143 #[.int .i64 a0_1] ?_; (with_reducible refine (impl_sizeOk.calls a0_1 true _ A28.out).mono ?_); rintro e w' ⟨rfl, ⟨nd, rfl⟩⟩; refine ⟨_, rfl, ?_⟩) | (go_at_call 143; (with_reducible refine (impl_sizeOk.calls a0_2 true _ A30.out).mono ?_); rintro e w' ⟨rfl, ⟨nd, rfl⟩⟩))
         go_ret
         exact ⟨by first | rfl | (simp [*, errW_none, errW_some] <;> rfl), by repeat (with_reducible first | exact HB.out | apply yac | apply yaa | apply yad | refine yae ?_ (Aside0.out ‹_›))⟩
        ·
         rw [if_neg c32] at H
         have i6 : (a0_3 == 0) = false := beq_eq_false_iff_ne.mpr c32; have i7 : (a0_3 != 0) = true := bne_iff_ne.mpr c32; obtain rfl := Option.some.inj H; obtain ⟨l4, l5, l6, l7, l8⟩ := cc5_ a5.out; obtain ⟨l9, m0, m1, m2, m3⟩ := cf5_ a5.out
         go_wp2_with (first | ((with_reducible refine gate_callee (f := 143) rfl ?_); refine gl_ (some 40) rfl Try.func143 #[.int .i64 a0_1] ?_; (with_reducible refine (impl_sizeOk.calls a0_1 true _ A28.out).mono ?_); rintro e w' ⟨rfl, ⟨nd, rfl⟩⟩; refine ⟨_, rfl, ?_⟩) | (go_at_call 143; (with_reducible refine (impl_sizeOk.calls a0_2 true _ A30.out).mono ?_); rintro e w' ⟨rfl, ⟨nd, rfl⟩⟩))
         go_ret
         exact ⟨by first | rfl | (simp [*, errW_none, errW_some] <;> rfl), by repeat (with_reducible first | exact HB.out | apply yac | apply yaa | apply yad | refine yae ?_ (Aside0.out ‹_›))⟩
       ·
        replace c31 := Bool.eq_false_iff.mpr c31
        subst c31
        rw [if_neg (show ¬ (false = true) by decide)] at H
        obtain rfl := Option.some.inj H; obtain ⟨m4, m5, m6, m7, m8⟩ := cc5_ a5.out; obtain ⟨m9, n0, n1, n2, n3⟩ := cf5_ a5.out
        go_wp2_with (first | ((with_reducible refine gate_callee (f := 143) rfl ?_); refine gl_ (some 40) rfl Try.func143 #[.int .i64 a0_1] ?_; (with_reducible refine (impl_sizeOk.calls a0_1 true _ A28.out).mono ?_); rintro e w' ⟨rfl, ⟨nd, rfl⟩⟩; refine ⟨_, rfl, ?_⟩) | (go_at_call 143; (with_reducible refine (impl_sizeOk.calls a0_2 false _ A30.out).mono ?_); rintro e w' ⟨rfl, ⟨nd, rfl⟩⟩))
        go_ret
        exact ⟨by first | rfl | (simp [*, errW_none, errW_some] <;> rfl), by repeat (with_reducible first | exact HB.out | apply yac | apply yaa | apply yad | refine yae ?_ (Aside0.out ‹_›))⟩
      ·
       replace c29 := Bool.eq_false_iff.mpr c29
       subst c29
       rw [if_neg (show ¬ (false = true) by decide)] at H
       obtain rfl := Option.some.inj H; obtain ⟨n4, n5, n6, n7, n8⟩ := cc5_ a5.out; obtain ⟨n9, o0, o1, o2, o3⟩ := cf5_ a5.out
       go_wp2_with (first | ((with_reducible refine gate_callee (f := 143) rfl ?_); refine gl_ (some 40) rfl Try.func143 #[.int .i64 a0_1] ?_; (with_reducible refine (impl_sizeOk.calls a0_1 false _ A28.out).mono ?_); rintro e w' ⟨rfl, ⟨nd, rfl⟩⟩; refine ⟨_, rfl, ?_⟩))
       go_ret
       exact ⟨by first | rfl | (simp [*, errW_none, errW_some] <;> rfl), by repeat (with_reducible first | exact HB.out | apply yac | apply yaa | apply yad | refine yae ?_ (Aside0.out ‹_›))⟩
     ·
      rw [if_neg c27] at H
      have i2 : (a0_0 == 7) = false := beq_eq_false_iff_ne.mpr c27; have i3 : (a0_0 != 7) = true := bne_iff_ne.mpr c27
      by_cases c37 : a0_0 = 8
      ·
       rw [if_pos c37] at H
       have i8 : (a0_0 == 8) = true := beq_iff_eq.mpr c37; have i9 : (a0_0 != 8) = false := bne_eq_false_iff_eq.mpr c37; clear c37; replace H := Option.bind_eq_some_iff.mp H; obtain ⟨s7, j1, H⟩ := H; (try dsimp only at H); have A38 := yab j1; clear j1
       by_cases c39 : s7 = true
       ·
        subst c39
        rw [if_pos rfl] at H
        replace H := Option.bind_eq_some_iff.mp H; obtain ⟨s8, j2, H⟩ := H; (try dsimp only at H); have A40 := yab j2; clear j2
        by_cases c41 : s8 = true
        ·
         subst c41
         rw [if_pos rfl] at H
         replace H := Option.bind_eq_some_iff.mp H; obtain ⟨s9, j3, H⟩ := H; (try dsimp only at H); have A42 := yab j3; clear j3
         by_cases c43 : s9 = true
         ·
          subst c43
          rw [if_pos rfl] at H
          obtain rfl := Option.some.inj H; obtain ⟨o4, o5, o6, o7, o8⟩ := cc5_ a5.out; obtain ⟨o9, p0, p1, p3, p4⟩ := cf5_ a5.out
          go_wp2_with (first | ((with_reducible refine gate_callee (f := 118) rfl ?_); refine gl_ (some 60) rfl Try.func118 #[.int .i64 a0_1] ?_; (with_reducible refine (impl_partOk.calls a0_1 true _ A38.out).mono ?_); rintro e w' ⟨rfl, ⟨nd, rfl⟩⟩; refine ⟨_, rfl, ?_⟩) | (go_at_call 118; (with_reducible refine (impl_partOk.calls a0_2 true _ A40.out).mono ?_); rintro e w' ⟨rfl, ⟨nd, rfl⟩⟩) | (go_at_call 118; (with_reducible refine (impl_partOk.calls a0_3 true _ A42.out).mono ?_); rintro e w' ⟨rfl, ⟨nd, rfl⟩⟩))
          go_ret
          exact ⟨by first | rfl | (simp [*, errW_none, errW_some] <;> rfl), by repeat (with_reducible first | exact HB.out | apply yac | apply yaa | apply yad | refine yae ?_ (Aside0.out ‹_›))⟩
         ·
          replace c43 := Bool.eq_false_iff.mpr c43
          subst c43
          rw [if_neg (show ¬ (false = true) by decide)] at H
          obtain rfl := Option.some.inj H; obtain ⟨p5, p6, p7, p8, p9⟩ := cc5_ a5.out; obtain ⟨q0, q1, q2, q3, q4⟩ := cf5_ a5.out
          go_wp2_with (first | ((with_reducible refine gate_callee (f := 118) rfl ?_); refine gl_ (some 60) rfl Try.func118 #[.int .i64 a0_1] ?_; (with_reducible refine (impl_partOk.calls a0_1 true _ A38.out).mono ?_); rintro e w' ⟨rfl, ⟨nd, rfl⟩⟩; refine ⟨_, rfl, ?_⟩) | (go_at_call 118; (with_reducible refine (impl_partOk.calls a0_2 true _ A40.out).mono ?_); rintro e w' ⟨rfl, ⟨nd, rfl⟩⟩) | (go_at_call 118; (with_reducible refine (impl_partOk.calls a0_3 false _ A42.out).mono ?_); rintro e w' ⟨rfl, ⟨nd, rfl⟩⟩))
          go_ret
          exact ⟨by first | rfl | (simp [*, errW_none, errW_some] <;> rfl), by repeat (with_reducible first | exact HB.out | apply yac | apply yaa | apply yad | refine yae ?_ (Aside0.out ‹_›))⟩
        ·
         replace c41 := Bool.eq_false_iff.mpr c41
         subst c41
         rw [if_neg (show ¬ (false = true) by decide)] at H
         obtain rfl := Option.some.inj H; obtain ⟨q5, q6, q7, q8, q9⟩ := cc5_ a5.out; obtain ⟨r0, r1, r2, r3, r4⟩ := cf5_ a5.out
         go_wp2_with (first | ((with_reducible refine gate_callee (f := 118) rfl ?_); refine gl_ (some 60) rfl Try.func118 #[.int .i64 a0_1] ?_; (with_reducible refine (impl_partOk.calls a0_1 true _ A38.out).mono ?_); rintro e w' ⟨rfl, ⟨nd, rfl⟩⟩; refine ⟨_, rfl, ?_⟩) | (go_at_call 118; (with_reducible refine (impl_partOk.calls a0_2 false _ A40.out).mono ?_); rintro e w' ⟨rfl, ⟨nd, rfl⟩⟩))
         go_ret
         exact ⟨by first | rfl | (simp [*, errW_none, errW_some] <;> rfl), by repeat (with_reducible first | exact HB.out | apply yac | apply yaa | apply yad | refine yae ?_ (Aside0.out ‹_›))⟩
       ·
        replace c39 := Bool.eq_false_iff.mpr c39
        subst c39
        rw [if_neg (show ¬ (false = true) by decide)] at H
        obtain rfl := Option.some.inj H; obtain ⟨r5, r6, r7, r8, r9⟩ := cc5_ a5.out; obtain ⟨s0, s1, s2, s3, s4⟩ := cf5_ a5.out
        go_wp2_with (first | ((with_reducible refine gate_callee (f := 118) rfl ?_); refine gl_ (some 60) rfl Try.func118 #[.int .i64 a0_1] ?_; (with_reducible refine (impl_partOk.calls a0_1 false _ A38.out).mono ?_); rintro e w' ⟨rfl, ⟨nd, rfl⟩⟩; refine ⟨_, rfl, ?_⟩))
        go_ret
        exact ⟨by first | rfl | (simp [*, errW_none, errW_some] <;> rfl), by repeat (with_reducible first | exact HB.out | apply yac | apply yaa | apply yad | refine yae ?_ (Aside0.out ‹_›))⟩
      ·
       rw [if_neg c37] at H
       have i8 : (a0_0 == 8) = false := beq_eq_false_iff_ne.mpr c37; have i9 : (a0_0 != 8) = true := bne_iff_ne.mpr c37; obtain rfl := Option.some.inj H
       go_wp2
       go_ret
       exact ⟨by first | rfl | (simp [*, errW_none, errW_some] <;> rfl), by repeat (with_reducible first | exact HB.out | apply yac | apply yaa | apply yad | refine yae ?_ (Aside0.out ‹_›))⟩

end Go.Proofs.Ytgpkkkmapgnhkaa.X

namespace Go.Proofs.Ytgpkkkmapgnhkaa.X
open Go.RowKit Go.Proofs.YtgpkkkmapgnhkaaW.PrintWords Go.Proofs.YtgpkkkmapgnhkaaW.PrintLast Go.Proofs.YtgpkkkmapgnhkaaW.PrintMore
attribute [local go_sem] max2_int min2_int max_two min_two max_three min_three max_four min_four
set_option linter.unusedVariables false
set_option linter.unusedSimpArgs false

open Go.Proofs.Ytgpkkkmapgnhkaa.X renaming rd_T146 → yaa

/-! ### impl_opsOk: function 72 -/
def impl_opsOk.l0 : Nat → List (S146) → Int → Int → Option (Bool)
 | 0, _, _, _ => none
 | k + 1, x8, x9, x10 => if x10 < x9 then (if 0 ≤ x10 then (if x10 < (x8.length : Int) then ((impl_OpOk.f k ((rd_T146 x8 x10).f0) ((rd_T146 x8 x10).f1) ((rd_T146 x8 x10).f2) ((rd_T146 x8 x10).f3) ((rd_T146 x8 x10).f4)).bind fun t103 => (if t103 = true then (impl_opsOk.l0 k x8 x9 (wrap64 (x10 + 1))) else (some false))) else (none)) else (none)) else (some true)
def impl_opsOk.f (k : Nat) (l0 : List (S146)) : Option (Bool) := if (l0.length : Int) > 5 then (some false) else (impl_opsOk.l0 k l0 (l0.length : Int) 0)
set_option maxHeartbeats 8000000 in
set_option maxRecDepth 100000 in
theorem impl_opsOk.calls (k : Nat) (A0 : Option Addr) (c0 : Nat) (l0 : List (S146)) (r : Bool) (w : World) (hr0 : Kd.C k146 w A0 l0.length l0) (hc0 : l0.length ≤ c0) (h : impl_opsOk.f k l0 = some r) :
  Calls Try.prog 72 #[.slice A0 l0.length c0] w fun e w' => e = .returned (.bool r) ∧ Below w.heap.size w w' := by
 have hu146 := Try.underlying146; have HR0 := Aside0.mk hr0; have HC0 := Aside0.mk hc0; clear hr0 hc0; have HB := Aside0.mk (Below.refl w.heap.size w); have H : (if (l0.length : Int) > 5 then (some false) else (impl_opsOk.l0 k l0 (l0.length : Int) 0)) = some r := h; clear h
 by_cases c2 : (l0.length : Int) > 5
 ·
  rw [if_pos c2] at H
  have b1 : decide (5 < (l0.length : Int)) = true := decide_eq_true c2; have b2 : decide (5 < l0.length) = true := decide_eq_true (by omega); clear c2; obtain rfl := Option.some.inj H
  go_enter Try.func72, Try.ntmps72
  go_wp2
  go_ret
  exact ⟨by first | rfl | (simp [*, errW_none, errW_some] <;> rfl), upH HB.out⟩
 ·
  rw [if_neg c2] at H
  have b1 : decide (5 < (l0.length : Int)) = false := decide_eq_false c2; have b2 : decide (5 < l0.length) = false := decide_eq_false (by omega); clear c2; have H' := Aside0.mk H; clear H
  go_enter Try.func72, Try.ntmps72
  go_wp2
  (try simp only [Act.put, List.setIfInBounds_toArray, List.set_cons_zero, List.set_cons_succ])
  go_loopg [10] k (fun kq v10 w' => ∃ (a1 : Int), v10 = .int .i64 a1 ∧ Aside0 (impl_opsOk.l0 kq l0 (l0.length : Int) a1 = some r) ∧ Aside0 (kq ≤ k) ∧ Aside0 (Below w.heap.size w w'))
  case atStart => exact ⟨(0), (by first | rfl | (simp; done) | (simp [*]; done)), H', ⟨Nat.le_refl _⟩, ⟨upH HB.out⟩⟩
  case round =>
   clear H'; (try clear c2); (try clear b1); (try clear b2); (try clear p2); obtain ⟨a1, rfl, HA, HK1, HB⟩ := hrel
   cases gk with
   | zero => exact absurd HA.out (by simp [impl_opsOk.l0])
   | succ k1 =>
    have H := HA.out; clear HA
    simp only [impl_opsOk.l0] at H
    by_cases c3 : a1 < (l0.length : Int)
    ·
     rw [if_pos c3] at H
     have d0 : decide (a1 < (l0.length : Int)) = true := decide_eq_true c3; clear c3
     by_cases c4 : 0 ≤ a1
     ·
      rw [if_pos c4] at H
      have e4 : decide (0 ≤ a1) = true := decide_eq_true c4; clear c4
      by_cases c5 : a1 < (l0.length : Int)
      ·
       rw [if_pos c5] at H
       have e5 : decide (a1 < (l0.length : Int)) = true := decide_eq_true c5; clear c5; replace H := Option.bind_eq_some_iff.mp H; obtain ⟨d1, A60, H⟩ := H; (try dsimp only at H); have A6 := Aside0.mk A60; clear A60
       by_cases c7 : d1 = true
       ·
        subst c7
        rw [if_pos rfl] at H
        have H' := Aside0.mk H; clear H
        have p101 : 0 ≤ (a1 : Int) := of_decide_eq_true (by first | (with_reducible assumption) | assumption)
        have q101 : a1 < (l0.length : Int) := of_decide_eq_true (by first | (with_reducible assumption) | assumption)
        obtain ⟨ad101, b0, a2, a3, a4, a5, a6⟩ := at_T146 HR0.out a1 p101 q101
        cases b0
        replace a2 := (HB.out.cell (World.block_lt_of_cell? w _ a2)).trans a2; replace a3 := (HB.out.cell (World.block_lt_of_cell? w _ a3)).trans a3; replace a4 := (HB.out.cell (World.block_lt_of_cell? w _ a4)).trans a4; replace a5 := (HB.out.cell (World.block_lt_of_cell? w _ a5)).trans a5; replace a6 := (HB.out.cell (World.block_lt_of_cell? w _ a6)).trans a6; replace p101 := eq_true p101; replace q101 := eq_true q101
        go_wp2_with (first | ((with_reducible refine gate_dst (N := 4) rfl ?_); refine bx_ 4 #[.int .i64 0, .int .i64 0, .int .i64 0, .int .i64 0, .int .i64 0] 146 ?_; intro a8 hg w8 hbox hb; have a7 := Aside0.mk (hbox); have a9 := Aside0.mk ((by rw [hg]; exact (below_size (upH HB.out)) : w.heap.size ≤ a8)); replace HB := Aside0.mk (below_step (upH HB.out) hb); have b3 := a9; clear hb hbox hg; obtain ⟨d2, d3, d4, d5, d6⟩ := cc5_ a7.out; obtain ⟨d8, d9, e0, e1⟩ := cf4_ a7.out; have e3 := blk_frozen a7.out 4) | ((with_reducible refine gate_callee (f := 121) rfl ?_); refine gl_ (some 15) rfl Try.func121 #[.agg #[.int .i64 ((yaa l0 a1).f0), .int .i64 ((yaa l0 a1).f1), .int .i64 ((yaa l0 a1).f2), .int .i64 ((yaa l0 a1).f3), .int .i64 ((yaa l0 a1).f4)]] ?_; (with_reducible refine (impl_OpOk.calls k1 ((yaa l0 a1).f0) ((yaa l0 a1).f1) ((yaa l0 a1).f2) ((yaa l0 a1).f3) ((yaa l0 a1).f4) true _ A6.out).mono ?_); rintro e w10 ⟨rfl, hb⟩; refine ⟨_, rfl, ?_⟩; replace a7 := Aside0.mk (blk_below (g := a8) (o := .cells #[.int .i64 ((yaa l0 a1).f0), .int .i64 ((yaa l0 a1).f1), .int .i64 ((yaa l0 a1).f2), .int .i64 ((yaa l0 a1).f3), .int .i64 ((yaa l0 a1).f4)] 146 (0, 0)) (by (repeat refine oneB ?_); refine blk_put (cs := #[.int .i64 ((yaa l0 a1).f0), .int .i64 ((yaa l0 a1).f1), .int .i64 ((yaa l0 a1).f2), .int .i64 ((yaa l0 a1).f3), .int .i64 0]) ?_ 4 _ rfl; refine blk_put (cs := #[.int .i64 ((yaa l0 a1).f0), .int .i64 ((yaa l0 a1).f1), .int .i64 ((yaa l0 a1).f2), .int .i64 0, .int .i64 0]) ?_ 3 _ rfl; refine blk_put (cs := #[.int .i64 ((yaa l0 a1).f0), .int .i64 ((yaa l0 a1).f1), .int .i64 0, .int .i64 0, .int .i64 0]) ?_ 2 _ rfl; refine blk_put (cs := #[.int .i64 ((yaa l0 a1).f0), .int .i64 0, .int .i64 0, .int .i64 0, .int .i64 0]) ?_ 1 _ rfl; refine blk_put (cs := #[.int .i64 0, .int .i64 0, .int .i64 0, .int .i64 0, .int .i64 0]) ?_ 0 _ rfl; exact upB a7.out) hb); replace HB := Aside0.mk (below_step (by repeat (with_reducible first | exact HB.out | apply below_alloc | apply pw_below_drewN | apply below_drew1 | refine below_set ?_ (Aside0.out ‹_›))) hb); (try clear hb); (try clear hb2); (try clear hk); (try clear hi)))
        go_roundg k1
        case measure => have := HK1.out; omega
        case rel => exact ⟨(wrap64 (a1 + 1)), (by first | rfl | (simp; done) | (simp [*]; done)), H', ⟨by have := HK1.out; omega⟩, ⟨by repeat (with_reducible first | exact HB.out | apply below_alloc | apply pw_below_drewN | apply below_drew1 | refine below_set ?_ (Aside0.out ‹_›))⟩⟩
       ·
        replace c7 := Bool.eq_false_iff.mpr c7
        subst c7
        rw [if_neg (show ¬ (false = true) by decide)] at H
        obtain rfl := Option.some.inj H
        have p101 : 0 ≤ (a1 : Int) := of_decide_eq_true (by first | (with_reducible assumption) | assumption)
        have q101 : a1 < (l0.length : Int) := of_decide_eq_true (by first | (with_reducible assumption) | assumption)
        obtain ⟨ad101, b0, a2, a3, a4, a5, a6⟩ := at_T146 HR0.out a1 p101 q101
        cases b0
        replace a2 := (HB.out.cell (World.block_lt_of_cell? w _ a2)).trans a2; replace a3 := (HB.out.cell (World.block_lt_of_cell? w _ a3)).trans a3; replace a4 := (HB.out.cell (World.block_lt_of_cell? w _ a4)).trans a4; replace a5 := (HB.out.cell (World.block_lt_of_cell? w _ a5)).trans a5; replace a6 := (HB.out.cell (World.block_lt_of_cell? w _ a6)).trans a6; replace p101 := eq_true p101; replace q101 := eq_true q101
        go_wp2_with (first | ((with_reducible refine gate_dst (N := 4) rfl ?_); refine bx_ 4 #[.int .i64 0, .int .i64 0, .int .i64 0, .int .i64 0, .int .i64 0] 146 ?_; intro a8 hg w11 hbox hb; have a7 := Aside0.mk (hbox); have a9 := Aside0.mk ((by rw [hg]; exact (below_size (upH HB.out)) : w.heap.size ≤ a8)); replace HB := Aside0.mk (below_step (upH HB.out) hb); have b3 := a9; clear hb hbox hg; obtain ⟨b4, b5, b6, b7, b8⟩ := cc5_ a7.out; obtain ⟨b9, c1, c6, c8⟩ := cf4_ a7.out; have c9 := blk_frozen a7.out 4) | ((with_reducible refine gate_callee (f := 121) rfl ?_); refine gl_ (some 15) rfl Try.func121 #[.agg #[.int .i64 ((yaa l0 a1).f0), .int .i64 ((yaa l0 a1).f1), .int .i64 ((yaa l0 a1).f2), .int .i64 ((yaa l0 a1).f3), .int .i64 ((yaa l0 a1).f4)]] ?_; (with_reducible refine (impl_OpOk.calls k1 ((yaa l0 a1).f0) ((yaa l0 a1).f1) ((yaa l0 a1).f2) ((yaa l0 a1).f3) ((yaa l0 a1).f4) false _ A6.out).mono ?_); rintro e w13 ⟨rfl, hb⟩; refine ⟨_, rfl, ?_⟩; replace a7 := Aside0.mk (blk_below (g := a8) (o := .cells #[.int .i64 ((yaa l0 a1).f0), .int .i64 ((yaa l0 a1).f1), .int .i64 ((yaa l0 a1).f2), .int .i64 ((yaa l0 a1).f3), .int .i64 ((yaa l0 a1).f4)] 146 (0, 0)) (by (repeat refine oneB ?_); refine blk_put (cs := #[.int .i64 ((yaa l0 a1).f0), .int .i64 ((yaa l0 a1).f1), .int .i64 ((yaa l0 a1).f2), .int .i64 ((yaa l0 a1).f3), .int .i64 0]) ?_ 4 _ rfl; refine blk_put (cs := #[.int .i64 ((yaa l0 a1).f0), .int .i64 ((yaa l0 a1).f1), .int .i64 ((yaa l0 a1).f2), .int .i64 0, .int .i64 0]) ?_ 3 _ rfl; refine blk_put (cs := #[.int .i64 ((yaa l0 a1).f0), .int .i64 ((yaa l0 a1).f1), .int .i64 0, .int .i64 0, .int .i64 0]) ?_ 2 _ rfl; refine blk_put (cs := #[.int .i64 ((yaa l0 a1).f0), .int .i64 0, .int .i64 0, .int .i64 0, .int .i64 0]) ?_ 1 _ rfl; refine blk_put (cs := #[.int .i64 0, .int .i64 0, .int .i64 0, .int .i64 0, .int .i64 0]) ?_ 0 _ rfl; exact upB a7.out) hb); replace HB := Aside0.mk (below_step (by repeat (with_reducible first | exact HB.out | apply below_alloc | apply pw_below_drewN | apply below_drew1 | refine below_set ?_ (Aside0.out ‹_›))) hb); (try clear hb); (try clear hb2); (try clear hk); (try clear hi)))
        go_ret
        exact ⟨by first | rfl | (simp [*, errW_none, errW_some] <;> rfl), by repeat (with_reducible first | exact HB.out | apply below_alloc | apply pw_below_drewN | apply below_drew1 | refine below_set ?_ (Aside0.out ‹_›))⟩
      ·
       rw [if_neg c5] at H
       exact absurd H (by simp)
     ·
      rw [if_neg c4] at H
      exact absurd H (by simp)
    ·
     rw [if_neg c3] at H
     have d0 : decide (a1 < (l0.length : Int)) = false := decide_eq_false c3; clear c3; obtain rfl := Option.some.inj H
     go_wp2
     go_ret
     exact ⟨by first | rfl | (simp [*, errW_none, errW_some] <;> rfl), upH HB.out⟩

end Go.Proofs.Ytgpkkkmapgnhkaa.X
