/- Lemmas and contracts for the law FnTenNew, part 5: of the program's functions, and over data alone. No condition. -/
import Derived.Test.YtgpkkkmapgnhkaaMFnTenNew2
import Derived.Test.YtgpkkkmapgnhkaaMFnTenNew4
namespace Go.Proofs.Ytgpkkkmapgnhkaa.X
open Go.RowKit Go.Proofs.YtgpkkkmapgnhkaaW.PrintWords Go.Proofs.YtgpkkkmapgnhkaaW.PrintLast Go.Proofs.YtgpkkkmapgnhkaaW.PrintMore
attribute [local go_sem] max2_int min2_int max_two min_two max_three min_three max_four min_four
set_option linter.unusedVariables false
set_option linter.unusedSimpArgs false

open Go.Proofs.YtgpkkkmapgnhkaaW.PrintWords.Drawn0 renaming refl → yaa, step → yab

/-! ### impl_nameOk: function 73 -/
mutual
def impl_nameOk.j0 : Nat → ByteArray → Bool → Option (Bool)
 | 0, _, _ => none
 | k + 1, x0, x13 => if x13 = true then (some false) else (impl_nameOk.l0 k x0 (x0.size : Int) 0)
def impl_nameOk.l0 : Nat → ByteArray → Int → Int → Option (Bool)
 | 0, _, _, _ => none
 | k + 1, x0, x15, x16 => if x16 < x15 then (if 0 ≤ x16 then (if x16 < (x0.size : Int) then (if (bt x0 x16) ≥ 97 then (if (bt x0 x16) ≥ 48 then (if ((bt x0 x16) ≤ 122) then (impl_nameOk.l0 k x0 x15 (wrap64 (x16 + 1))) else (if ((bt x0 x16) ≤ 57) then (impl_nameOk.l0 k x0 x15 (wrap64 (x16 + 1))) else (some false))) else (if ((bt x0 x16) ≤ 122) then (impl_nameOk.l0 k x0 x15 (wrap64 (x16 + 1))) else (some false))) else (if (bt x0 x16) ≥ 48 then (if ((bt x0 x16) ≤ 57) then (impl_nameOk.l0 k x0 x15 (wrap64 (x16 + 1))) else (some false)) else (some false))) else (none)) else (none)) else (some true)
end
def impl_nameOk.f (k : Nat) (a0 : ByteArray) : Option (Bool) := if (a0.size : Int) < 1 then (impl_nameOk.j0 k a0 true) else (impl_nameOk.j0 k a0 (decide ((a0.size : Int) > 6)))
set_option maxHeartbeats 8000000 in
set_option maxRecDepth 100000 in
theorem impl_nameOk.calls (k : Nat) (a0 : ByteArray) (r : Bool) (w : World) (h : impl_nameOk.f k a0 = some r) :
  Calls Try.prog 73 #[.string a0] w fun e w' => e = .returned (.bool r) ∧ Drawn0 w w' := by
 have H : (if (a0.size : Int) < 1 then (impl_nameOk.j0 k a0 true) else (impl_nameOk.j0 k a0 (decide ((a0.size : Int) > 6)))) = some r := h; clear h; have HC2 := Aside0.mk H; clear H
 go_enter Try.func73, Try.ntmps73
 go_upto_region 1 with (fail)
 go_cut [13] (fun v13 wc => ∃ (kq : Nat) (a3 : Bool), v13 = .bool a3 ∧ Aside0 (impl_nameOk.j0 kq a0 a3 = some r) ∧ Aside0 (kq ≤ k) ∧ Drawn0 w wc)
 case first =>
  have H := HC2.out; clear HC2
  by_cases c3 : (a0.size : Int) < 1
  ·
   rw [if_pos c3] at H
   have a2 : decide ((a0.size : Int) < 1) = true := decide_eq_true c3; have a6 : decide (a0.size < 1) = true := decide_eq_true (by omega); clear c3
   (first | rw [a2] | (simp only [i64_w, i32_w]; rw [a2]) | skip)
   have H' := Aside0.mk H; clear H
   go_wp2
   go_meet
   case rel => exact ⟨_, (true), (by first | rfl | (simp; done) | (simp [*]; done)), H', ⟨by first | omega | exact Nat.le_refl _⟩, by repeat (first | exact yaa _ | apply yab)⟩
  ·
   rw [if_neg c3] at H
   have a2 : decide ((a0.size : Int) < 1) = false := decide_eq_false c3; have a6 : decide (a0.size < 1) = false := decide_eq_false (by omega); clear c3
   (first | rw [a2] | (simp only [i64_w, i32_w]; rw [a2]) | skip)
   have H' := Aside0.mk H; clear H
   go_wp2
   go_meet
   case rel => exact ⟨_, (decide ((a0.size : Int) > 6)), (by first | rfl | (simp; done) | (simp [*]; done)), H', ⟨by first | omega | exact Nat.le_refl _⟩, by repeat (first | exact yaa _ | apply yab)⟩
 case rest =>
  clear HC2; (try clear p2); (try clear c3); (try clear a2); (try clear a6); obtain ⟨kq, a3, rfl, HA, HJ1, ⟨mc1, rfl⟩⟩ := hcut
  cases kq with
  | zero => exact absurd HA.out (by simp [impl_nameOk.j0])
  | succ kj1 =>
   have H := HA.out; clear HA
   simp only [impl_nameOk.j0] at H
   by_cases c4 : a3 = true
   ·
    subst c4
    rw [if_pos rfl] at H
    obtain rfl := Option.some.inj H
    go_wp2
    go_ret
    exact ⟨by first | rfl | (simp; done) | (simp [*]; done), by repeat (first | exact yaa _ | apply yab)⟩
   ·
    replace c4 := Bool.eq_false_iff.mpr c4
    subst c4
    rw [if_neg (show ¬ (false = true) by decide)] at H
    have H' := Aside0.mk H; clear H
    go_wp2
    (try simp only [Act.put, List.setIfInBounds_toArray, List.set_cons_zero, List.set_cons_succ])
    go_loopg [16] kj1 (fun kq v16 w' => ∃ (a1 : Int), v16 = .int .i64 a1 ∧ Aside0 (impl_nameOk.l0 kq a0 (a0.size : Int) a1 = some r) ∧ Aside0 (kq ≤ kj1) ∧ Drawn0 w w')
    case atStart => exact ⟨(0), (by first | rfl | (simp; done) | (simp [*]; done)), H', ⟨Nat.le_refl _⟩, by repeat (first | exact yaa _ | apply yab)⟩
    case round =>
     clear H'; (try clear c1); (try clear p2); (try clear c3); (try clear a2); (try clear a6); (try clear c4); (try clear p2); obtain ⟨a1, rfl, HA, HK2, ⟨m2, rfl⟩⟩ := hrel
     cases gk with
     | zero => exact absurd HA.out (by simp [impl_nameOk.l0])
     | succ k2 =>
      have H := HA.out; clear HA
      simp only [impl_nameOk.l0] at H
      by_cases c5 : a1 < (a0.size : Int)
      ·
       rw [if_pos c5] at H
       have b5 : decide (a1 < (a0.size : Int)) = true := decide_eq_true c5; clear c5
       by_cases c6 : 0 ≤ a1
       ·
        rw [if_pos c6] at H
        have b8 : decide (0 ≤ a1) = true := decide_eq_true c6; clear c6
        by_cases c7 : a1 < (a0.size : Int)
        ·
         rw [if_pos c7] at H
         have b9 : decide (a1 < (a0.size : Int)) = true := decide_eq_true c7; clear c7
         by_cases c9 : (bt a0 a1) ≥ 97
         ·
          rw [if_pos c9] at H
          have b6 : decide (97 ≤ (bt a0 a1)) = true := decide_eq_true c9; clear c9
          by_cases c12 : (bt a0 a1) ≥ 48
          ·
           rw [if_pos c12] at H
           have a7 : decide (48 ≤ (bt a0 a1)) = true := decide_eq_true c12; clear c12
           by_cases c14 : ((bt a0 a1) ≤ 122)
           ·
            rw [if_pos c14] at H
            have a8 : decide ((bt a0 a1) ≤ 122) = true := decide_eq_true c14; clear c14; have H' := Aside0.mk H; clear H
            have p8 : 0 ≤ (a1 : Int) := of_decide_eq_true (by first | (with_reducible assumption) | assumption)
            have q8 : a1 < (a0.size : Int) := of_decide_eq_true (by first | (with_reducible assumption) | assumption)
            have hx8 := bt_at a0 a1; replace p8 := eq_true p8; replace q8 := eq_true q8
            have p10 : 0 ≤ (a1 : Int) := of_decide_eq_true (by first | (with_reducible assumption) | assumption)
            have q10 : a1 < (a0.size : Int) := of_decide_eq_true (by first | (with_reducible assumption) | assumption)
            have a4 := bt_at a0 a1; replace p10 := eq_true p10; replace q10 := eq_true q10
            have p11 : 0 ≤ (a1 : Int) := of_decide_eq_true (by first | (with_reducible assumption) | assumption)
            have q11 : a1 < (a0.size : Int) := of_decide_eq_true (by first | (with_reducible assumption) | assumption)
            have a5 := bt_at a0 a1; replace p11 := eq_true p11; replace q11 := eq_true q11
            have p13 : 0 ≤ (a1 : Int) := of_decide_eq_true (by first | (with_reducible assumption) | assumption)
            have q13 : a1 < (a0.size : Int) := of_decide_eq_true (by first | (with_reducible assumption) | assumption)
            have a9 := bt_at a0 a1; replace p13 := eq_true p13; replace q13 := eq_true q13
            go_wp2
            go_roundg k2
            case measure => have := HJ1.out; have := HK2.out; omega
            case rel => exact ⟨(wrap64 (a1 + 1)), (by first | rfl | (simp; done) | (simp [*]; done)), H', ⟨by have := HJ1.out; have := HK2.out; omega⟩, by repeat (first | exact yaa _ | apply yab)⟩
           ·
            rw [if_neg c14] at H
            have a8 : decide ((bt a0 a1) ≤ 122) = false := decide_eq_false c14; clear c14
            by_cases c15 : ((bt a0 a1) ≤ 57)
            ·
             rw [if_pos c15] at H
             have b0 : decide ((bt a0 a1) ≤ 57) = true := decide_eq_true c15; clear c15; have H' := Aside0.mk H; clear H
             have p8 : 0 ≤ (a1 : Int) := of_decide_eq_true (by first | (with_reducible assumption) | assumption)
             have q8 : a1 < (a0.size : Int) := of_decide_eq_true (by first | (with_reducible assumption) | assumption)
             have hx8 := bt_at a0 a1; replace p8 := eq_true p8; replace q8 := eq_true q8
             have p10 : 0 ≤ (a1 : Int) := of_decide_eq_true (by first | (with_reducible assumption) | assumption)
             have q10 : a1 < (a0.size : Int) := of_decide_eq_true (by first | (with_reducible assumption) | assumption)
             have a4 := bt_at a0 a1; replace p10 := eq_true p10; replace q10 := eq_true q10
             have p11 : 0 ≤ (a1 : Int) := of_decide_eq_true (by first | (with_reducible assumption) | assumption)
             have q11 : a1 < (a0.size : Int) := of_decide_eq_true (by first | (with_reducible assumption) | assumption)
             have a5 := bt_at a0 a1; replace p11 := eq_true p11; replace q11 := eq_true q11
             have p13 : 0 ≤ (a1 : Int) := of_decide_eq_true (by first | (with_reducible assumption) | assumption)
             have q13 : a1 < (a0.size : Int) := of_decide_eq_true (by first | (with_reducible assumption) | assumption)
             have a9 := bt_at a0 a1; replace p13 := eq_true p13; replace q13 := eq_true q13
             go_wp2
             go_roundg k2
             case measure => have := HJ1.out; have := HK2.out; omega
             case rel => exact ⟨(wrap64 (a1 + 1)), (by first | rfl | (simp; done) | (simp [*]; done)), H', ⟨by have := HJ1.out; have := HK2.out; omega⟩, by repeat (first | exact yaa _ | apply yab)⟩
            ·
             rw [if_neg c15] at H
             have b0 : decide ((bt a0 a1) ≤ 57) = false := decide_eq_false c15; clear c15; obtain rfl := Option.some.inj H
             have p8 : 0 ≤ (a1 : Int) := of_decide_eq_true (by first | (with_reducible assumption) | assumption)
             have q8 : a1 < (a0.size : Int) := of_decide_eq_true (by first | (with_reducible assumption) | assumption)
             have hx8 := bt_at a0 a1; replace p8 := eq_true p8; replace q8 := eq_true q8
             have p10 : 0 ≤ (a1 : Int) := of_decide_eq_true (by first | (with_reducible assumption) | assumption)
             have q10 : a1 < (a0.size : Int) := of_decide_eq_true (by first | (with_reducible assumption) | assumption)
             have a4 := bt_at a0 a1; replace p10 := eq_true p10; replace q10 := eq_true q10
             have p11 : 0 ≤ (a1 : Int) := of_decide_eq_true (by first | (with_reducible assumption) | assumption)
             have q11 : a1 < (a0.size : Int) := of_decide_eq_true (by first | (with_reducible assumption) | assumption)
             have a5 := bt_at a0 a1; replace p11 := eq_true p11; replace q11 := eq_true q11
             have p13 : 0 ≤ (a1 : Int) := of_decide_eq_true (by first | (with_reducible assumption) | assumption)
             have q13 : a1 < (a0.size : Int) := of_decide_eq_true (by first | (with_reducible assumption) | assumption)
             have a9 := bt_at a0 a1; replace p13 := eq_true p13; replace q13 := eq_true q13
             go_wp2
             go_ret
             exact ⟨by first | rfl | (simp; done) | (simp [*]; done), by repeat (first | exact yaa _ | apply yab)⟩
          ·
           rw [if_neg c12] at H
           have a7 : decide (48 ≤ (bt a0 a1)) = false := decide_eq_false c12; clear c12
           by_cases c16 : ((bt a0 a1) ≤ 122)
           ·
            rw [if_pos c16] at H
            have b1 : decide ((bt a0 a1) ≤ 122) = true := decide_eq_true c16; clear c16; have H' := Aside0.mk H; clear H
            have p8 : 0 ≤ (a1 : Int) := of_decide_eq_true (by first | (with_reducible assumption) | assumption)
            have q8 : a1 < (a0.size : Int) := of_decide_eq_true (by first | (with_reducible assumption) | assumption)
            have hx8 := bt_at a0 a1; replace p8 := eq_true p8; replace q8 := eq_true q8
            have p10 : 0 ≤ (a1 : Int) := of_decide_eq_true (by first | (with_reducible assumption) | assumption)
            have q10 : a1 < (a0.size : Int) := of_decide_eq_true (by first | (with_reducible assumption) | assumption)
            have a4 := bt_at a0 a1; replace p10 := eq_true p10; replace q10 := eq_true q10
            have p11 : 0 ≤ (a1 : Int) := of_decide_eq_true (by first | (with_reducible assumption) | assumption)
            have q11 : a1 < (a0.size : Int) := of_decide_eq_true (by first | (with_reducible assumption) | assumption)
            have a5 := bt_at a0 a1; replace p11 := eq_true p11; replace q11 := eq_true q11
            go_wp2
            go_roundg k2
            case measure => have := HJ1.out; have := HK2.out; omega
            case rel => exact ⟨(wrap64 (a1 + 1)), (by first | rfl | (simp; done) | (simp [*]; done)), H', ⟨by have := HJ1.out; have := HK2.out; omega⟩, by repeat (first | exact yaa _ | apply yab)⟩
           ·
            rw [if_neg c16] at H
            have b1 : decide ((bt a0 a1) ≤ 122) = false := decide_eq_false c16; clear c16; obtain rfl := Option.some.inj H
            have p8 : 0 ≤ (a1 : Int) := of_decide_eq_true (by first | (with_reducible assumption) | assumption)
            have q8 : a1 < (a0.size : Int) := of_decide_eq_true (by first | (with_reducible assumption) | assumption)
            have hx8 := bt_at a0 a1; replace p8 := eq_true p8; replace q8 := eq_true q8
            have p10 : 0 ≤ (a1 : Int) := of_decide_eq_true (by first | (with_reducible assumption) | assumption)
            have q10 : a1 < (a0.size : Int) := of_decide_eq_true (by first | (with_reducible assumption) | assumption)
            have a4 := bt_at a0 a1; replace p10 := eq_true p10; replace q10 := eq_true q10
            have p11 : 0 ≤ (a1 : Int) := of_decide_eq_true (by first | (with_reducible assumption) | assumption)
            have q11 : a1 < (a0.size : Int) := of_decide_eq_true (by first | (with_reducible assumption) | assumption)
            have a5 := bt_at a0 a1; replace p11 := eq_true p11; replace q11 := eq_true q11
            go_wp2
            go_ret
            exact ⟨by first | rfl | (simp; done) | (simp [*]; done), by repeat (first | exact yaa _ | apply yab)⟩
         ·
          rw [if_neg c9] at H
          have b6 : decide (97 ≤ (bt a0 a1)) = false := decide_eq_false c9; clear c9
          by_cases c18 : (bt a0 a1) ≥ 48
          ·
           rw [if_pos c18] at H
           have b2 : decide (48 ≤ (bt a0 a1)) = true := decide_eq_true c18; clear c18
           by_cases c20 : ((bt a0 a1) ≤ 57)
           ·
            rw [if_pos c20] at H
            have b3 : decide ((bt a0 a1) ≤ 57) = true := decide_eq_true c20; clear c20; have H' := Aside0.mk H; clear H
            have p8 : 0 ≤ (a1 : Int) := of_decide_eq_true (by first | (with_reducible assumption) | assumption)
            have q8 : a1 < (a0.size : Int) := of_decide_eq_true (by first | (with_reducible assumption) | assumption)
            have hx8 := bt_at a0 a1; replace p8 := eq_true p8; replace q8 := eq_true q8
            have p17 : 0 ≤ (a1 : Int) := of_decide_eq_true (by first | (with_reducible assumption) | assumption)
            have q17 : a1 < (a0.size : Int) := of_decide_eq_true (by first | (with_reducible assumption) | assumption)
            have b4 := bt_at a0 a1; replace p17 := eq_true p17; replace q17 := eq_true q17
            have p19 : 0 ≤ (a1 : Int) := of_decide_eq_true (by first | (with_reducible assumption) | assumption)
            have q19 : a1 < (a0.size : Int) := of_decide_eq_true (by first | (with_reducible assumption) | assumption)
            have b7 := bt_at a0 a1; replace p19 := eq_true p19; replace q19 := eq_true q19
            go_wp2
            go_roundg k2
            case measure => have := HJ1.out; have := HK2.out; omega
            case rel => exact ⟨(wrap64 (a1 + 1)), (by first | rfl | (simp; done) | (simp [*]; done)), H', ⟨by have := HJ1.out; have := HK2.out; omega⟩, by repeat (first | exact yaa _ | apply yab)⟩
           ·
            rw [if_neg c20] at H
            have b3 : decide ((bt a0 a1) ≤ 57) = false := decide_eq_false c20; clear c20; obtain rfl := Option.some.inj H
            have p8 : 0 ≤ (a1 : Int) := of_decide_eq_true (by first | (with_reducible assumption) | assumption)
            have q8 : a1 < (a0.size : Int) := of_decide_eq_true (by first | (with_reducible assumption) | assumption)
            have hx8 := bt_at a0 a1; replace p8 := eq_true p8; replace q8 := eq_true q8
            have p17 : 0 ≤ (a1 : Int) := of_decide_eq_true (by first | (with_reducible assumption) | assumption)
            have q17 : a1 < (a0.size : Int) := of_decide_eq_true (by first | (with_reducible assumption) | assumption)
            have b4 := bt_at a0 a1; replace p17 := eq_true p17; replace q17 := eq_true q17
            have p19 : 0 ≤ (a1 : Int) := of_decide_eq_true (by first | (with_reducible assumption) | assumption)
            have q19 : a1 < (a0.size : Int) := of_decide_eq_true (by first | (with_reducible assumption) | assumption)
            have b7 := bt_at a0 a1; replace p19 := eq_true p19; replace q19 := eq_true q19
            go_wp2
            go_ret
            exact ⟨by first | rfl | (simp; done) | (simp [*]; done), by repeat (first | exact yaa _ | apply yab)⟩
          ·
           rw [if_neg c18] at H
           have b2 : decide (48 ≤ (bt a0 a1)) = false := decide_eq_false c18; clear c18; obtain rfl := Option.some.inj H
           have p8 : 0 ≤ (a1 : Int) := of_decide_eq_true (by first | (with_reducible assumption) | assumption)
           have q8 : a1 < (a0.size : Int) := of_decide_eq_true (by first | (with_reducible assumption) | assumption)
           have hx8 := bt_at a0 a1; replace p8 := eq_true p8; replace q8 := eq_true q8
           have p17 : 0 ≤ (a1 : Int) := of_decide_eq_true (by first | (with_reducible assumption) | assumption)
           have q17 : a1 < (a0.size : Int) := of_decide_eq_true (by first | (with_reducible assumption) | assumption)
           have b4 := bt_at a0 a1; replace p17 := eq_true p17; replace q17 := eq_true q17
           go_wp2
           go_ret
           exact ⟨by first | rfl | (simp; done) | (simp [*]; done), by repeat (first | exact yaa _ | apply yab)⟩
        ·
         rw [if_neg c7] at H
         exact absurd H (by simp)
       ·
        rw [if_neg c6] at H
        exact absurd H (by simp)
      ·
       rw [if_neg c5] at H
       have b5 : decide (a1 < (a0.size : Int)) = false := decide_eq_false c5; clear c5; obtain rfl := Option.some.inj H
       go_wp2
       go_ret
       exact ⟨by first | rfl | (simp; done) | (simp [*]; done), by repeat (first | exact yaa _ | apply yab)⟩

end Go.Proofs.Ytgpkkkmapgnhkaa.X

namespace Go.Proofs.Ytgpkkkmapgnhkaa.X
open Go.RowKit Go.Proofs.YtgpkkkmapgnhkaaW.PrintWords Go.Proofs.YtgpkkkmapgnhkaaW.PrintLast Go.Proofs.YtgpkkkmapgnhkaaW.PrintMore
attribute [local go_sem] max2_int min2_int max_two min_two max_three min_three max_four min_four
set_option linter.unusedVariables false
set_option linter.unusedSimpArgs false

open Go.Proofs.YtgpkkkmapgnhkaaW.PrintWords.Aside0 renaming mk → yaa
open Go.Proofs.YtgpkkkmapgnhkaaW.PrintWords renaming blk_frozen → yab, blk_cell → yac, pw_below_drewN → yad, below_alloc → yae, below_drew1 → yaf, below_set → yah, blk_below → yai
open Go.Proofs.Ytgpkkkmapgnhkaa.X renaming rd_T124 → yag

/-! ### impl_jobsOk: function 88 -/
def impl_jobsOk.l0 : Nat → Int → List (S124) → Int → Int → Int → Int → Int → Int → List (S124) → List (S156) → List ByteArray → List (S158) → Option (Bool)
 | 0, _, _, _, _, _, _, _, _, _, _, _, _ => none
 | k + 1, x5, x15, x16, x17, x103000, x103001, x103002, x103003, x103004, x103005, x103006, x103007 => if x17 < x16 then (if 0 ≤ x17 then (if x17 < (x15.length : Int) then ((impl_within.f ((rd_T124 x15 x17).f0) (wrap64 (x5 + 1)) (wrap64 (x103003 - 1))).bind fun t105 => (if t105 = true then ((impl_nameOk.f k ((rd_T124 x15 x17).f1)).bind fun t106 => (if t106 = true then ((impl_opsOk.f k ((rd_T124 x15 x17).f2)).bind fun t107 => (if t107 = true then ((impl_within.f ((rd_T124 x15 x17).f3) 0 x103000).bind fun t108 => (if t108 = true then (impl_jobsOk.l0 k ((rd_T124 x15 x17).f0) x15 x16 (wrap64 (x17 + 1)) x103000 x103001 x103002 x103003 x103004 x103005 x103006 x103007) else (some false))) else (some false))) else (some false))) else (some false))) else (none)) else (none)) else (some true)
def impl_jobsOk.f (k : Nat) (l0_0 : List Int) (a0_1 : Int) (a0_2 : Int) (a0_3 : Int) (a0_4 : Int) (a0_5 : Int) (a0_6 : Int) (a1_0 : Int) (a1_1 : Int) (a1_2 : Int) (a1_3 : Int) (l1_4 : List (S124)) (l1_5 : List (S156)) (l1_6 : List ByteArray) (l1_7 : List (S158)) : Option (Bool) := if (l1_4.length : Int) > a0_3 then (some false) else (impl_jobsOk.l0 k (-1) l1_4 (l1_4.length : Int) 0 a1_0 a1_1 a1_2 a1_3 l1_4 l1_5 l1_6 l1_7)
set_option maxHeartbeats 8000000 in
set_option maxRecDepth 100000 in
theorem impl_jobsOk.calls (k : Nat) (A0_0 : Option Addr) (c0_0 : Nat) (l0_0 : List Int) (a0_1 : Int) (a0_2 : Int) (a0_3 : Int) (a0_4 : Int) (a0_5 : Int) (a0_6 : Int) (a1_0 : Int) (a1_1 : Int) (a1_2 : Int) (a1_3 : Int) (A1_4 : Option Addr) (c1_4 : Nat) (l1_4 : List (S124)) (A1_5 : Option Addr) (c1_5 : Nat) (l1_5 : List (S156)) (A1_6 : Option Addr) (c1_6 : Nat) (l1_6 : List ByteArray) (A1_7 : Option Addr) (c1_7 : Nat) (l1_7 : List (S158)) (r : Bool) (w : World) (hr0_0 : Kd.C (Kd.int .u8) w A0_0 l0_0.length l0_0) (hc0_0 : l0_0.length ≤ c0_0) (hr1_4 : Kd.C k124 w A1_4 l1_4.length l1_4) (hc1_4 : l1_4.length ≤ c1_4) (hr1_5 : Kd.C k156 w A1_5 l1_5.length l1_5) (hc1_5 : l1_5.length ≤ c1_5) (hr1_6 : Kd.C Kd.string w A1_6 l1_6.length l1_6) (hc1_6 : l1_6.length ≤ c1_6) (hr1_7 : Kd.C k158 w A1_7 l1_7.length l1_7) (hc1_7 : l1_7.length ≤ c1_7) (h : impl_jobsOk.f k l0_0 a0_1 a0_2 a0_3 a0_4 a0_5 a0_6 a1_0 a1_1 a1_2 a1_3 l1_4 l1_5 l1_6 l1_7 = some r) :
  Calls Try.prog 88 #[.agg #[.slice A0_0 l0_0.length c0_0, .int .i64 a0_1, .int .i64 a0_2, .int .i64 a0_3, .int .i64 a0_4, .int .i64 a0_5, .int .i64 a0_6], .agg #[.int .i64 a1_0, .int .i64 a1_1, .int .i64 a1_2, .int .i64 a1_3, .slice A1_4 l1_4.length c1_4, .slice A1_5 l1_5.length c1_5, .slice A1_6 l1_6.length c1_6, .slice A1_7 l1_7.length c1_7]] w fun e w' => e = .returned (.bool r) ∧ Below w.heap.size w w' := by
 have hu24 := Try.underlying24; have hu63 := Try.underlying63; have hu124 := Try.underlying124; have HR0_0 := yaa hr0_0; have HC0_0 := yaa hc0_0; clear hr0_0 hc0_0; have HR1_4 := yaa hr1_4; have HC1_4 := yaa hc1_4; clear hr1_4 hc1_4; have HR1_5 := yaa hr1_5; have HC1_5 := yaa hc1_5; clear hr1_5 hc1_5; have HR1_6 := yaa hr1_6; have HC1_6 := yaa hc1_6; clear hr1_6 hc1_6; have HR1_7 := yaa hr1_7; have HC1_7 := yaa hc1_7; clear hr1_7 hc1_7; have HB := yaa (Below.refl w.heap.size w); have H : (if (l1_4.length : Int) > a0_3 then (some false) else (impl_jobsOk.l0 k (-1) l1_4 (l1_4.length : Int) 0 a1_0 a1_1 a1_2 a1_3 l1_4 l1_5 l1_6 l1_7)) = some r := h; clear h
 by_cases c3 : (l1_4.length : Int) > a0_3
 ·
  rw [if_pos c3] at H
  have k6 : decide (a0_3 < (l1_4.length : Int)) = true := decide_eq_true c3; clear c3; obtain rfl := Option.some.inj H
  go_enter Try.func88, Try.ntmps88
  go_wp2_with (first | ((with_reducible refine gate_dst (N := 2) rfl ?_); refine bx_ 2 #[.slice A0_0 l0_0.length c0_0, .int .i64 a0_1, .int .i64 a0_2, .int .i64 a0_3, .int .i64 a0_4, .int .i64 a0_5, .int .i64 a0_6] 24 ?_; intro d0 hg w4 hbox hb; have b3 := yaa (hbox); have d9 := yaa ((by rw [hg]; exact (below_size (upH HB.out)) : w.heap.size ≤ d0)); replace HB := yaa (below_step (upH HB.out) hb); have k7 := d9; clear hb hbox hg) | ((with_reducible refine gate_dst (N := 3) rfl ?_); refine bx_ 3 #[.int .i64 a1_0, .int .i64 a1_1, .int .i64 a1_2, .int .i64 a1_3, .slice A1_4 l1_4.length c1_4, .slice A1_5 l1_5.length c1_5, .slice A1_6 l1_6.length c1_6, .slice A1_7 l1_7.length c1_7] 63 ?_; intro b1 hg w5 hbox hb; have b0 := yaa (hbox); have e0 := yaa ((by rw [hg]; exact (below_size (by repeat (with_reducible first | exact HB.out | apply yae | apply yad | apply yaf | refine yah ?_ (Aside0.out ‹_›)))) : w.heap.size ≤ b1)); replace HB := yaa (below_step (by repeat (with_reducible first | exact HB.out | apply yae | apply yad | apply yaf | refine yah ?_ (Aside0.out ‹_›))) hb); have k8 := e0; have c0 := yaa ((by rw [hg]; exact Nat.ne_of_lt (blk_lt (upB b3.out)) : d0 ≠ b1)); replace b3 := yaa (yai (upB b3.out) hb); have c9 := yaa c0.out.symm; clear hb hbox hg; have H9 := c9.out; have I0 := c0.out; have h5 : w5.cell? ⟨b1, 0, none⟩ = some (.int .i64 a1_0) := (yac b0.out 0).trans rfl; have h6 : w5.cell? ⟨b1, 1, none⟩ = some (.int .i64 a1_1) := (yac b0.out 1).trans rfl; have h7 : w5.cell? ⟨b1, 2, none⟩ = some (.int .i64 a1_2) := (yac b0.out 2).trans rfl; have h8 : w5.cell? ⟨b1, 3, none⟩ = some (.int .i64 a1_3) := (yac b0.out 3).trans rfl; have h9 : w5.cell? ⟨b1, 4, none⟩ = some (.slice A1_4 l1_4.length c1_4) := (yac b0.out 4).trans rfl; have i0 : w5.cell? ⟨b1, 5, none⟩ = some (.slice A1_5 l1_5.length c1_5) := (yac b0.out 5).trans rfl; have i1 : w5.cell? ⟨b1, 6, none⟩ = some (.slice A1_6 l1_6.length c1_6) := (yac b0.out 6).trans rfl; have i2 : w5.cell? ⟨b1, 7, none⟩ = some (.slice A1_7 l1_7.length c1_7) := (yac b0.out 7).trans rfl; have i3 := yab b0.out 0; have i4 := yab b0.out 1; have i5 := yab b0.out 2; have i6 := yab b0.out 3; have i7 := yab b0.out 4; have i8 := yab b0.out 5; have i9 := yab b0.out 6; have j0 := yab b0.out 7; obtain ⟨j1, j2, j3, j4, j5, j6, j7⟩ := cc7_ b3.out; have j8 := yab b3.out 0; have j9 := yab b3.out 1; have k0 := yab b3.out 2; have k2 := yab b3.out 3; have k3 := yab b3.out 4; have k4 := yab b3.out 5; have k5 := yab b3.out 6))
  go_ret
  exact ⟨by first | rfl | (simp [*, errW_none, errW_some] <;> rfl), by repeat (with_reducible first | exact HB.out | apply yae | apply yad | apply yaf | refine yah ?_ (Aside0.out ‹_›))⟩
 ·
  rw [if_neg c3] at H
  have k6 : decide (a0_3 < (l1_4.length : Int)) = false := decide_eq_false c3; clear c3; have H' := yaa H; clear H
  go_enter Try.func88, Try.ntmps88
  go_wp2_with (first | ((with_reducible refine gate_dst (N := 2) rfl ?_); refine bx_ 2 #[.slice A0_0 l0_0.length c0_0, .int .i64 a0_1, .int .i64 a0_2, .int .i64 a0_3, .int .i64 a0_4, .int .i64 a0_5, .int .i64 a0_6] 24 ?_; intro d0 hg w9 hbox hb; have b3 := yaa (hbox); have d9 := yaa ((by rw [hg]; exact (below_size (upH HB.out)) : w.heap.size ≤ d0)); replace HB := yaa (below_step (upH HB.out) hb); have k7 := d9; clear hb hbox hg) | ((with_reducible refine gate_dst (N := 3) rfl ?_); refine bx_ 3 #[.int .i64 a1_0, .int .i64 a1_1, .int .i64 a1_2, .int .i64 a1_3, .slice A1_4 l1_4.length c1_4, .slice A1_5 l1_5.length c1_5, .slice A1_6 l1_6.length c1_6, .slice A1_7 l1_7.length c1_7] 63 ?_; intro b1 hg w10 hbox hb; have b0 := yaa (hbox); have e0 := yaa ((by rw [hg]; exact (below_size (by repeat (with_reducible first | exact HB.out | apply yae | apply yad | apply yaf | refine yah ?_ (Aside0.out ‹_›)))) : w.heap.size ≤ b1)); replace HB := yaa (below_step (by repeat (with_reducible first | exact HB.out | apply yae | apply yad | apply yaf | refine yah ?_ (Aside0.out ‹_›))) hb); have k8 := e0; have c0 := yaa ((by rw [hg]; exact Nat.ne_of_lt (blk_lt (upB b3.out)) : d0 ≠ b1)); replace b3 := yaa (yai (upB b3.out) hb); have c9 := yaa c0.out.symm; clear hb hbox hg; have E5 := c9.out; have E6 := c0.out; have e1 : w10.cell? ⟨b1, 0, none⟩ = some (.int .i64 a1_0) := (yac b0.out 0).trans rfl; have e2 : w10.cell? ⟨b1, 1, none⟩ = some (.int .i64 a1_1) := (yac b0.out 1).trans rfl; have e3 : w10.cell? ⟨b1, 2, none⟩ = some (.int .i64 a1_2) := (yac b0.out 2).trans rfl; have e4 : w10.cell? ⟨b1, 3, none⟩ = some (.int .i64 a1_3) := (yac b0.out 3).trans rfl; have e5 : w10.cell? ⟨b1, 4, none⟩ = some (.slice A1_4 l1_4.length c1_4) := (yac b0.out 4).trans rfl; have e6 : w10.cell? ⟨b1, 5, none⟩ = some (.slice A1_5 l1_5.length c1_5) := (yac b0.out 5).trans rfl; have e7 : w10.cell? ⟨b1, 6, none⟩ = some (.slice A1_6 l1_6.length c1_6) := (yac b0.out 6).trans rfl; have e8 : w10.cell? ⟨b1, 7, none⟩ = some (.slice A1_7 l1_7.length c1_7) := (yac b0.out 7).trans rfl; have e9 := yab b0.out 0; have f4 := yab b0.out 1; have f5 := yab b0.out 2; have f6 := yab b0.out 3; have f7 := yab b0.out 4; have f8 := yab b0.out 5; have f9 := yab b0.out 6; have g0 := yab b0.out 7; obtain ⟨g1, g2, g3, g4, g5, g6, g7⟩ := cc7_ b3.out; have g8 := yab b3.out 0; have g9 := yab b3.out 1; have h0 := yab b3.out 2; have h1 := yab b3.out 3; have h2 := yab b3.out 4; have h3 := yab b3.out 5; have h4 := yab b3.out 6))
  (try simp only [Act.put, List.setIfInBounds_toArray, List.set_cons_zero, List.set_cons_succ])
  go_loopg [5, 17] k (fun kq v5 v17 w' => ∃ (d4 : Int) (b2 : Int), v5 = .int .i64 d4 ∧ v17 = .int .i64 b2 ∧ Aside0 (impl_jobsOk.l0 kq d4 l1_4 (l1_4.length : Int) b2 a1_0 a1_1 a1_2 a1_3 l1_4 l1_5 l1_6 l1_7 = some r) ∧ Aside0 (kq ≤ k) ∧ Aside0 (w'.heap[d0]? = some (.cells #[(.slice A0_0 l0_0.length c0_0), .int .i64 a0_1, .int .i64 a0_2, .int .i64 a0_3, .int .i64 a0_4, .int .i64 a0_5, .int .i64 a0_6] 24 (0, 0))) ∧ Aside0 (w'.heap[b1]? = some (.cells #[.int .i64 a1_0, .int .i64 a1_1, .int .i64 a1_2, .int .i64 a1_3, (.slice A1_4 l1_4.length c1_4), (.slice A1_5 l1_5.length c1_5), (.slice A1_6 l1_6.length c1_6), (.slice A1_7 l1_7.length c1_7)] 63 (0, 0))) ∧ Aside0 (Below w.heap.size w w'))
  case atStart => exact ⟨((-1)), (0), (by first | rfl | (simp; done) | (simp [*]; done)), (by first | rfl | (simp; done) | (simp [*]; done)), H', ⟨Nat.le_refl _⟩, ⟨by exact upB b3.out⟩, ⟨by exact upB b0.out⟩, ⟨by repeat (with_reducible first | exact HB.out | apply yae | apply yad | apply yaf | refine yah ?_ (Aside0.out ‹_›))⟩⟩
  case round =>
   clear H'; (try clear c1); (try clear p2); (try clear c3); (try clear k6); (try clear c6); (try clear c8); (try clear c11); (try clear e1); (try clear e2); (try clear e3); (try clear e4); (try clear e5); (try clear e6); (try clear e7); (try clear e8); (try clear g1); (try clear g2); (try clear g3); (try clear g4); (try clear g5); (try clear g6); (try clear g7); (try clear h5); (try clear h6); (try clear h7); (try clear h8); (try clear h9); (try clear i0); (try clear i1); (try clear i2); (try clear j1); (try clear j2); (try clear j3); (try clear j4); (try clear j5); (try clear j6); (try clear j7); (try clear e9); (try clear f4); (try clear f5); (try clear f6); (try clear f7); (try clear f8); (try clear f9); (try clear g0); (try clear g8); (try clear g9); (try clear h0); (try clear h1); (try clear h2); (try clear h3); (try clear h4); (try clear i3); (try clear i4); (try clear i5); (try clear i6); (try clear i7); (try clear i8); (try clear i9); (try clear j0); (try clear j8); (try clear j9); (try clear k0); (try clear k2); (try clear k3); (try clear k4); (try clear k5); obtain ⟨d4, b2, rfl, rfl, HA, HK1, b3, b0, HB⟩ := hrel
   cases gk with
   | zero => exact absurd HA.out (by simp [impl_jobsOk.l0])
   | succ k1 =>
    have H := HA.out; clear HA
    simp only [impl_jobsOk.l0] at H
    by_cases c14 : b2 < (l1_4.length : Int)
    ·
     rw [if_pos c14] at H
     have k9 : decide (b2 < (l1_4.length : Int)) = true := decide_eq_true c14; clear c14
     by_cases c15 : 0 ≤ b2
     ·
      rw [if_pos c15] at H
      have E7 : decide (0 ≤ b2) = true := decide_eq_true c15; clear c15
      by_cases c16 : b2 < (l1_4.length : Int)
      ·
       rw [if_pos c16] at H
       have E8 : decide (b2 < (l1_4.length : Int)) = true := decide_eq_true c16; clear c16; replace H := Option.bind_eq_some_iff.mp H; obtain ⟨E1, l1, H⟩ := H; (try dsimp only at H); have A17 := yaa l1; clear l1
       by_cases c18 : E1 = true
       ·
        subst c18
        rw [if_pos rfl] at H
        replace H := Option.bind_eq_some_iff.mp H; obtain ⟨E2, l2, H⟩ := H; (try dsimp only at H); have A19 := yaa l2; clear l2
        by_cases c20 : E2 = true
        ·
         subst c20
         rw [if_pos rfl] at H
         replace H := Option.bind_eq_some_iff.mp H; obtain ⟨E3, l3, H⟩ := H; (try dsimp only at H); have A21 := yaa l3; clear l3
         by_cases c22 : E3 = true
         ·
          subst c22
          rw [if_pos rfl] at H
          replace H := Option.bind_eq_some_iff.mp H; obtain ⟨E4, l4, H⟩ := H; (try dsimp only at H); have A23 := yaa l4; clear l4
          by_cases c24 : E4 = true
          ·
           subst c24
           rw [if_pos rfl] at H
           have H' := yaa H; clear H
           have p103 : 0 ≤ (b2 : Int) := of_decide_eq_true (by first | (with_reducible assumption) | assumption)
           have q103 : b2 < (l1_4.length : Int) := of_decide_eq_true (by first | (with_reducible assumption) | assumption)
           obtain ⟨ad103, d1, d2, d5, b6, b7, b8, b9, hl103_2, hi103_2⟩ := at_T124 HR1_4.out b2 p103 q103
           cases d5
           replace b6 := (HB.out.cell (World.block_lt_of_cell? w _ b6)).trans b6; replace b7 := (HB.out.cell (World.block_lt_of_cell? w _ b7)).trans b7; replace b8 := (HB.out.cell (World.block_lt_of_cell? w _ b8)).trans b8; replace b9 := (HB.out.cell (World.block_lt_of_cell? w _ b9)).trans b9; have HR103_2 := yaa hi103_2; have HC103_2 := yaa hl103_2; clear hi103_2 hl103_2; replace p103 := eq_true p103; replace q103 := eq_true q103
           go_wp2_with (first | ((with_reducible refine gate_dst (N := 7) rfl ?_); refine bx_ 7 #[.int .i64 0, .string (⟨#[]⟩ : ByteArray), .slice none 0 0, .int .i64 0] 124 ?_; intro c7 hg w25 hbox hb; have c2 := yaa (hbox); have d3 := yaa ((by rw [hg]; exact (below_size (by repeat (with_reducible first | exact HB.out | apply yae | apply yad | apply yaf | refine yah ?_ (Aside0.out ‹_›)))) : w.heap.size ≤ c7)); replace HB := yaa (below_step (by repeat (with_reducible first | exact HB.out | apply yae | apply yad | apply yaf | refine yah ?_ (Aside0.out ‹_›))) hb); have d6 := d3; have b4 := yaa ((by rw [hg]; exact Nat.ne_of_lt (blk_lt (upB b3.out)) : d0 ≠ c7)); replace b3 := yaa (yai (upB b3.out) hb); have c4 := yaa b4.out.symm; have b5 := yaa ((by rw [hg]; exact Nat.ne_of_lt (blk_lt (upB b0.out)) : b1 ≠ c7)); replace b0 := yaa (yai (upB b0.out) hb); have c5 := yaa b5.out.symm; clear hb hbox hg; have E9 := c4.out; have F0 := b4.out; have F1 := c5.out; have F2 := b5.out; obtain ⟨l5, l6, l7, l8⟩ := cc4_ c2.out; obtain ⟨l9, m0, m1, m2⟩ := cf4_ c2.out; have F3 := c9.out; have F4 := c0.out; have m3 : w25.cell? ⟨b1, 0, none⟩ = some (.int .i64 a1_0) := (yac b0.out 0).trans rfl; have m4 : w25.cell? ⟨b1, 1, none⟩ = some (.int .i64 a1_1) := (yac b0.out 1).trans rfl; have m5 : w25.cell? ⟨b1, 2, none⟩ = some (.int .i64 a1_2) := (yac b0.out 2).trans rfl; have m6 : w25.cell? ⟨b1, 3, none⟩ = some (.int .i64 a1_3) := (yac b0.out 3).trans rfl; have m7 : w25.cell? ⟨b1, 4, none⟩ = some (.slice (some ad103) l1_4.length c1_4) := (yac b0.out 4).trans rfl; have m8 : w25.cell? ⟨b1, 5, none⟩ = some (.slice A1_5 l1_5.length c1_5) := (yac b0.out 5).trans rfl; have m9 : w25.cell? ⟨b1, 6, none⟩ = some (.slice A1_6 l1_6.length c1_6) := (yac b0.out 6).trans rfl; have n0 : w25.cell? ⟨b1, 7, none⟩ = some (.slice A1_7 l1_7.length c1_7) := (yac b0.out 7).trans rfl; have n1 := yab b0.out 0; have n2 := yab b0.out 1; have n3 := yab b0.out 2; have n4 := yab b0.out 3; have n5 := yab b0.out 4; have n6 := yab b0.out 5; have n7 := yab b0.out 6; have n8 := yab b0.out 7) | ((with_reducible refine gate_callee (f := 62) rfl ?_); refine gl_ (some 28) rfl Try.func62 #[.int .i64 ((yag l1_4 b2).f0), .int .i64 (wrap64 (d4 + 1)), .int .i64 (wrap64 (a1_3 - 1))] ?_; (with_reducible refine (impl_within.calls ((yag l1_4 b2).f0) (wrap64 (d4 + 1)) (wrap64 (a1_3 - 1)) true _ A17.out).mono ?_); rintro e w' ⟨rfl, ⟨nd, rfl⟩⟩; refine ⟨_, rfl, ?_⟩) | (go_at_call 73; (with_reducible refine (impl_nameOk.calls k1 ((yag l1_4 b2).f1) true _ A19.out).mono ?_); rintro e w' ⟨rfl, ⟨nd, rfl⟩⟩) | (go_at_call 72; (with_reducible refine (impl_opsOk.calls k1 _ _ ((yag l1_4 b2).f2) true _ ?side1 ?side2 A21.out).mono ?_); (case side1 => exact Kd.C_below HR103_2.out (by repeat (with_reducible first | exact HB.out | apply yae | apply yad | apply yaf | refine yah ?_ (Aside0.out ‹_›)))); (case side2 => exact HC103_2.out); rintro e w31 ⟨rfl, hb⟩; replace b3 := yaa (yai (g := d0) (o := .cells #[.slice A0_0 l0_0.length c0_0, .int .i64 a0_1, .int .i64 a0_2, .int .i64 a0_3, .int .i64 a0_4, .int .i64 a0_5, .int .i64 a0_6] 24 (0, 0)) (by repeat (with_reducible first | exact b3.out | refine oneB ?_ | refine blk_far ?_ b4.out _)) hb); replace b0 := yaa (yai (g := b1) (o := .cells #[.int .i64 a1_0, .int .i64 a1_1, .int .i64 a1_2, .int .i64 a1_3, .slice (some ad103) l1_4.length c1_4, .slice A1_5 l1_5.length c1_5, .slice A1_6 l1_6.length c1_6, .slice A1_7 l1_7.length c1_7] 63 (0, 0)) (by repeat (with_reducible first | exact b0.out | refine oneB ?_ | refine blk_far ?_ b5.out _)) hb); replace c2 := yaa (yai (g := c7) (o := .cells #[.int .i64 ((yag l1_4 b2).f0), .string ((yag l1_4 b2).f1), .slice d1 ((yag l1_4 b2).f2).length d2, .int .i64 ((yag l1_4 b2).f3)] 124 (0, 0)) (by (repeat refine oneB ?_); refine blk_put (cs := #[.int .i64 ((yag l1_4 b2).f0), .string ((yag l1_4 b2).f1), .slice d1 ((yag l1_4 b2).f2).length d2, .int .i64 0]) ?_ 3 _ rfl; refine blk_put (cs := #[.int .i64 ((yag l1_4 b2).f0), .string ((yag l1_4 b2).f1), .slice none 0 0, .int .i64 0]) ?_ 2 _ rfl; refine blk_put (cs := #[.int .i64 ((yag l1_4 b2).f0), .string (⟨#[]⟩ : ByteArray), .slice none 0 0, .int .i64 0]) ?_ 1 _ rfl; refine blk_put (cs := #[.int .i64 0, .string (⟨#[]⟩ : ByteArray), .slice none 0 0, .int .i64 0]) ?_ 0 _ rfl; exact upB c2.out) hb); replace HB := yaa (below_step (by repeat (with_reducible first | exact HB.out | apply yae | apply yad | apply yaf | refine yah ?_ (Aside0.out ‹_›))) hb); (try clear hb); (try clear hb2); (try clear hk); (try clear hi); obtain ⟨n9, o0, o1, o2⟩ := cc4_ c2.out; obtain ⟨o3, o4, o5, o6⟩ := cf4_ c2.out; have o7 : w31.cell? ⟨b1, 0, none⟩ = some (.int .i64 a1_0) := (yac b0.out 0).trans rfl; have o8 : w31.cell? ⟨b1, 1, none⟩ = some (.int .i64 a1_1) := (yac b0.out 1).trans rfl; have o9 : w31.cell? ⟨b1, 2, none⟩ = some (.int .i64 a1_2) := (yac b0.out 2).trans rfl; have p0 : w31.cell? ⟨b1, 3, none⟩ = some (.int .i64 a1_3) := (yac b0.out 3).trans rfl; have p1 : w31.cell? ⟨b1, 4, none⟩ = some (.slice (some ad103) l1_4.length c1_4) := (yac b0.out 4).trans rfl; have p3 : w31.cell? ⟨b1, 5, none⟩ = some (.slice A1_5 l1_5.length c1_5) := (yac b0.out 5).trans rfl; have p4 : w31.cell? ⟨b1, 6, none⟩ = some (.slice A1_6 l1_6.length c1_6) := (yac b0.out 6).trans rfl; have p5 : w31.cell? ⟨b1, 7, none⟩ = some (.slice A1_7 l1_7.length c1_7) := (yac b0.out 7).trans rfl; have p6 := yab b0.out 0; have p7 := yab b0.out 1; have p8 := yab b0.out 2; have p9 := yab b0.out 3; have q0 := yab b0.out 4; have q1 := yab b0.out 5; have q2 := yab b0.out 6; have q3 := yab b0.out 7) | (go_at_call 62; (with_reducible refine (impl_within.calls ((yag l1_4 b2).f3) 0 a1_0 true _ A23.out).mono ?_); rintro e w' ⟨rfl, ⟨nd, rfl⟩⟩))
           go_roundg k1
           case measure => have := HK1.out; omega
           case rel => exact ⟨((yag l1_4 b2).f0), (wrap64 (b2 + 1)), (by first | rfl | (simp; done) | (simp [*]; done)), (by first | rfl | (simp; done) | (simp [*]; done)), H', ⟨by have := HK1.out; omega⟩, ⟨by exact upB b3.out⟩, ⟨by exact upB b0.out⟩, ⟨by repeat (with_reducible first | exact HB.out | apply yae | apply yad | apply yaf | refine yah ?_ (Aside0.out ‹_›))⟩⟩
          ·
           replace c24 := Bool.eq_false_iff.mpr c24
           subst c24
           rw [if_neg (show ¬ (false = true) by decide)] at H
           obtain rfl := Option.some.inj H
           have p103 : 0 ≤ (b2 : Int) := of_decide_eq_true (by first | (with_reducible assumption) | assumption)
           have q103 : b2 < (l1_4.length : Int) := of_decide_eq_true (by first | (with_reducible assumption) | assumption)
           obtain ⟨ad103, d1, d2, d5, b6, b7, b8, b9, hl103_2, hi103_2⟩ := at_T124 HR1_4.out b2 p103 q103
           cases d5
           replace b6 := (HB.out.cell (World.block_lt_of_cell? w _ b6)).trans b6; replace b7 := (HB.out.cell (World.block_lt_of_cell? w _ b7)).trans b7; replace b8 := (HB.out.cell (World.block_lt_of_cell? w _ b8)).trans b8; replace b9 := (HB.out.cell (World.block_lt_of_cell? w _ b9)).trans b9; have HR103_2 := yaa hi103_2; have HC103_2 := yaa hl103_2; clear hi103_2 hl103_2; replace p103 := eq_true p103; replace q103 := eq_true q103
           go_wp2_with (first | ((with_reducible refine gate_dst (N := 7) rfl ?_); refine bx_ 7 #[.int .i64 0, .string (⟨#[]⟩ : ByteArray), .slice none 0 0, .int .i64 0] 124 ?_; intro c7 hg w34 hbox hb; have c2 := yaa (hbox); have d3 := yaa ((by rw [hg]; exact (below_size (by repeat (with_reducible first | exact HB.out | apply yae | apply yad | apply yaf | refine yah ?_ (Aside0.out ‹_›)))) : w.heap.size ≤ c7)); replace HB := yaa (below_step (by repeat (with_reducible first | exact HB.out | apply yae | apply yad | apply yaf | refine yah ?_ (Aside0.out ‹_›))) hb); have d6 := d3; have b4 := yaa ((by rw [hg]; exact Nat.ne_of_lt (blk_lt (upB b3.out)) : d0 ≠ c7)); replace b3 := yaa (yai (upB b3.out) hb); have c4 := yaa b4.out.symm; have b5 := yaa ((by rw [hg]; exact Nat.ne_of_lt (blk_lt (upB b0.out)) : b1 ≠ c7)); replace b0 := yaa (yai (upB b0.out) hb); have c5 := yaa b5.out.symm; clear hb hbox hg; have F5 := c4.out; have F6 := b4.out; have F7 := c5.out; have F8 := b5.out; obtain ⟨q4, q5, q6, q7⟩ := cc4_ c2.out; obtain ⟨q8, q9, r0, r1⟩ := cf4_ c2.out; have F9 := c9.out; have G0 := c0.out; have r2 : w34.cell? ⟨b1, 0, none⟩ = some (.int .i64 a1_0) := (yac b0.out 0).trans rfl; have r3 : w34.cell? ⟨b1, 1, none⟩ = some (.int .i64 a1_1) := (yac b0.out 1).trans rfl; have r4 : w34.cell? ⟨b1, 2, none⟩ = some (.int .i64 a1_2) := (yac b0.out 2).trans rfl; have r5 : w34.cell? ⟨b1, 3, none⟩ = some (.int .i64 a1_3) := (yac b0.out 3).trans rfl; have r6 : w34.cell? ⟨b1, 4, none⟩ = some (.slice (some ad103) l1_4.length c1_4) := (yac b0.out 4).trans rfl; have r7 : w34.cell? ⟨b1, 5, none⟩ = some (.slice A1_5 l1_5.length c1_5) := (yac b0.out 5).trans rfl; have r8 : w34.cell? ⟨b1, 6, none⟩ = some (.slice A1_6 l1_6.length c1_6) := (yac b0.out 6).trans rfl; have r9 : w34.cell? ⟨b1, 7, none⟩ = some (.slice A1_7 l1_7.length c1_7) := (yac b0.out 7).trans rfl; have s0 := yab b0.out 0; have s1 := yab b0.out 1; have s2 := yab b0.out 2; have s3 := yab b0.out 3; have s4 := yab b0.out 4; have s5 := yab b0.out 5; have s6 := yab b0.out 6; have s7 := yab b0.out 7) | ((with_reducible refine gate_callee (f := 62) rfl ?_); refine gl_ (some 28) rfl Try.func62 #[.int .i64 ((yag l1_4 b2).f0), .int .i64 (wrap64 (d4 + 1)), .int .i64 (wrap64 (a1_3 - 1))] ?_; (with_reducible refine (impl_within.calls ((yag l1_4 b2).f0) (wrap64 (d4 + 1)) (wrap64 (a1_3 - 1)) true _ A17.out).mono ?_); rintro e w' ⟨rfl, ⟨nd, rfl⟩⟩; refine ⟨_, rfl, ?_⟩) | (go_at_call 73; (with_reducible refine (impl_nameOk.calls k1 ((yag l1_4 b2).f1) true _ A19.out).mono ?_); rintro e w' ⟨rfl, ⟨nd, rfl⟩⟩) | (go_at_call 72; (with_reducible refine (impl_opsOk.calls k1 _ _ ((yag l1_4 b2).f2) true _ ?side1 ?side2 A21.out).mono ?_); (case side1 => exact Kd.C_below HR103_2.out (by repeat (with_reducible first | exact HB.out | apply yae | apply yad | apply yaf | refine yah ?_ (Aside0.out ‹_›)))); (case side2 => exact HC103_2.out); rintro e w40 ⟨rfl, hb⟩; replace b3 := yaa (yai (g := d0) (o := .cells #[.slice A0_0 l0_0.length c0_0, .int .i64 a0_1, .int .i64 a0_2, .int .i64 a0_3, .int .i64 a0_4, .int .i64 a0_5, .int .i64 a0_6] 24 (0, 0)) (by repeat (with_reducible first | exact b3.out | refine oneB ?_ | refine blk_far ?_ b4.out _)) hb); replace b0 := yaa (yai (g := b1) (o := .cells #[.int .i64 a1_0, .int .i64 a1_1, .int .i64 a1_2, .int .i64 a1_3, .slice (some ad103) l1_4.length c1_4, .slice A1_5 l1_5.length c1_5, .slice A1_6 l1_6.length c1_6, .slice A1_7 l1_7.length c1_7] 63 (0, 0)) (by repeat (with_reducible first | exact b0.out | refine oneB ?_ | refine blk_far ?_ b5.out _)) hb); replace c2 := yaa (yai (g := c7) (o := .cells #[.int .i64 ((yag l1_4 b2).f0), .string ((yag l1_4 b2).f1), .slice d1 ((yag l1_4 b2).f2).length d2, .int .i64 ((yag l1_4 b2).f3)] 124 (0, 0)) (by (repeat refine oneB ?_); refine blk_put (cs := #[.int .i64 ((yag l1_4 b2).f0), .string ((yag l1_4 b2).f1), .slice d1 ((yag l1_4 b2).f2).length d2, .int .i64 0]) ?_ 3 _ rfl; refine blk_put (cs := #[.int .i64 ((yag l1_4 b2).f0), .string ((yag l1_4 b2).f1), .slice none 0 0, .int .i64 0]) ?_ 2 _ rfl; refine blk_put (cs := #[.int .i64 ((yag l1_4 b2).f0), .string (⟨#[]⟩ : ByteArray), .slice none 0 0, .int .i64 0]) ?_ 1 _ rfl; refine blk_put (cs := #[.int .i64 0, .string (⟨#[]⟩ : ByteArray), .slice none 0 0, .int .i64 0]) ?_ 0 _ rfl; exact upB c2.out) hb); replace HB := yaa (below_step (by repeat (with_reducible first | exact HB.out | apply yae | apply yad | apply yaf | refine yah ?_ (Aside0.out ‹_›))) hb); (try clear hb); (try clear hb2); (try clear hk); (try clear hi); obtain ⟨s8, s9, t0, t1⟩ := cc4_ c2.out; obtain ⟨t2, t3, t4, t5⟩ := cf4_ c2.out; have t6 : w40.cell? ⟨b1, 0, none⟩ = some (.int .i64 a1_0) := (yac b0.out 0).trans rfl; have t7 : w40.cell? ⟨b1, 1, none⟩ = some (.int .i64 a1_1) := (yac b0.out 1).trans rfl; have t8 : w40.cell? ⟨b1, 2, none⟩ = some (.int .i64 a1_2) := (yac b0.out 2).trans rfl; have t9 : w40.cell? ⟨b1, 3, none⟩ = some (.int .i64 a1_3) := (yac b0.out 3).trans rfl; have u0 : w40.cell? ⟨b1, 4, none⟩ = some (.slice (some ad103) l1_4.length c1_4) := (yac b0.out 4).trans rfl; have u1 : w40.cell? ⟨b1, 5, none⟩ = some (.slice A1_5 l1_5.length c1_5) := (yac b0.out 5).trans rfl; have u2 : w40.cell? ⟨b1, 6, none⟩ = some (.slice A1_6 l1_6.length c1_6) := (yac b0.out 6).trans rfl; have u3 : w40.cell? ⟨b1, 7, none⟩ = some (.slice A1_7 l1_7.length c1_7) := (yac b0.out 7).trans rfl; have u4 := yab b0.out 0; have u5 := yab b0.out 1; have u6 := yab b0.out 2; have u7 := yab b0.out 3; have u9 := yab b0.out 4; have v0 := yab b0.out 5; have v1 := yab b0.out 6; have v2 := yab b0.out 7) | (go_at_call 62; (with_reducible refine (impl_within.calls ((yag l1_4 b2).f3) 0 a1_0 false _ A23.out).mono ?_); rintro e w' ⟨rfl, ⟨nd, rfl⟩⟩))
           go_ret
           exact ⟨by first | rfl | (simp [*, errW_none, errW_some] <;> rfl), by repeat (with_reducible first | exact HB.out | apply yae | apply yad | apply yaf | refine yah ?_ (Aside0.out ‹_›))⟩
         ·
          replace c22 := Bool.eq_false_iff.mpr c22
          subst c22
          rw [if_neg (show ¬ (false = true) by decide)] at H
          obtain rfl := Option.some.inj H
          have p103 : 0 ≤ (b2 : Int) := of_decide_eq_true (by first | (with_reducible assumption) | assumption)
          have q103 : b2 < (l1_4.length : Int) := of_decide_eq_true (by first | (with_reducible assumption) | assumption)
          obtain ⟨ad103, d1, d2, d5, b6, b7, b8, b9, hl103_2, hi103_2⟩ := at_T124 HR1_4.out b2 p103 q103
          cases d5
          replace b6 := (HB.out.cell (World.block_lt_of_cell? w _ b6)).trans b6; replace b7 := (HB.out.cell (World.block_lt_of_cell? w _ b7)).trans b7; replace b8 := (HB.out.cell (World.block_lt_of_cell? w _ b8)).trans b8; replace b9 := (HB.out.cell (World.block_lt_of_cell? w _ b9)).trans b9; have HR103_2 := yaa hi103_2; have HC103_2 := yaa hl103_2; clear hi103_2 hl103_2; replace p103 := eq_true p103; replace q103 := eq_true q103
          go_wp2_with (first | ((with_reducible refine gate_dst (N := 7) rfl ?_); refine bx_ 7 #[.int .i64 0, .string (⟨#[]⟩ : ByteArray), .slice none 0 0, .int .i64 0] 124 ?_; intro c7 hg w43 hbox hb; have c2 := yaa (hbox); have d3 := yaa ((by rw [hg]; exact (below_size (by repeat (with_reducible first | exact HB.out | apply yae | apply yad | apply yaf | refine yah ?_ (Aside0.out ‹_›)))) : w.heap.size ≤ c7)); replace HB := yaa (below_step (by repeat (with_reducible first | exact HB.out | apply yae | apply yad | apply yaf | refine yah ?_ (Aside0.out ‹_›))) hb); have d6 := d3; have b4 := yaa ((by rw [hg]; exact Nat.ne_of_lt (blk_lt (upB b3.out)) : d0 ≠ c7)); replace b3 := yaa (yai (upB b3.out) hb); have c4 := yaa b4.out.symm; have b5 := yaa ((by rw [hg]; exact Nat.ne_of_lt (blk_lt (upB b0.out)) : b1 ≠ c7)); replace b0 := yaa (yai (upB b0.out) hb); have c5 := yaa b5.out.symm; clear hb hbox hg; have G1 := c4.out; have G2 := b4.out; have G3 := c5.out; have G4 := b5.out; obtain ⟨v3, v4, v6, v7⟩ := cc4_ c2.out; obtain ⟨v8, v9, w0, w1⟩ := cf4_ c2.out; have G5 := c9.out; have G6 := c0.out; have w2 : w43.cell? ⟨b1, 0, none⟩ = some (.int .i64 a1_0) := (yac b0.out 0).trans rfl; have w3 : w43.cell? ⟨b1, 1, none⟩ = some (.int .i64 a1_1) := (yac b0.out 1).trans rfl; have w6 : w43.cell? ⟨b1, 2, none⟩ = some (.int .i64 a1_2) := (yac b0.out 2).trans rfl; have w7 : w43.cell? ⟨b1, 3, none⟩ = some (.int .i64 a1_3) := (yac b0.out 3).trans rfl; have w8 : w43.cell? ⟨b1, 4, none⟩ = some (.slice (some ad103) l1_4.length c1_4) := (yac b0.out 4).trans rfl; have x0 : w43.cell? ⟨b1, 5, none⟩ = some (.slice A1_5 l1_5.length c1_5) := (yac b0.out 5).trans rfl; have x1 : w43.cell? ⟨b1, 6, none⟩ = some (.slice A1_6 l1_6.length c1_6) := (yac b0.out 6).trans rfl; have x2 : w43.cell? ⟨b1, 7, none⟩ = some (.slice A1_7 l1_7.length c1_7) := (yac b0.out 7).trans rfl; have x3 := yab b0.out 0; have x4 := yab b0.out 1; have x6 := yab b0.out 2; have x7 := yab b0.out 3; have x8 := yab b0.out 4; have x9 := yab b0.out 5; have z0 := yab b0.out 6; have z1 := yab b0.out 7) | ((with_reducible refine gate_callee (f := 62) rfl ?_); refine gl_ (some 28) rfl Try.func62 #[.int .i64 ((yag l1_4 b2).f0), .int .i64 (wrap64 (d4 + 1)), .int .i64 (wrap64 (a1_3 - 1))] ?_; (with_reducible refine (impl_within.calls ((yag l1_4 b2).f0) (wrap64 (d4 + 1)) (wrap64 (a1_3 - 1)) true _ A17.out).mono ?_); rintro e w' ⟨rfl, ⟨nd, rfl⟩⟩; refine ⟨_, rfl, ?_⟩) | (go_at_call 73; (with_reducible refine (impl_nameOk.calls k1 ((yag l1_4 b2).f1) true _ A19.out).mono ?_); rintro e w' ⟨rfl, ⟨nd, rfl⟩⟩) | (go_at_call 72; (with_reducible refine (impl_opsOk.calls k1 _ _ ((yag l1_4 b2).f2) false _ ?side1 ?side2 A21.out).mono ?_); (case side1 => exact Kd.C_below HR103_2.out (by repeat (with_reducible first | exact HB.out | apply yae | apply yad | apply yaf | refine yah ?_ (Aside0.out ‹_›)))); (case side2 => exact HC103_2.out); rintro e w49 ⟨rfl, hb⟩; replace b3 := yaa (yai (g := d0) (o := .cells #[.slice A0_0 l0_0.length c0_0, .int .i64 a0_1, .int .i64 a0_2, .int .i64 a0_3, .int .i64 a0_4, .int .i64 a0_5, .int .i64 a0_6] 24 (0, 0)) (by repeat (with_reducible first | exact b3.out | refine oneB ?_ | refine blk_far ?_ b4.out _)) hb); replace b0 := yaa (yai (g := b1) (o := .cells #[.int .i64 a1_0, .int .i64 a1_1, .int .i64 a1_2, .int .i64 a1_3, .slice (some ad103) l1_4.length c1_4, .slice A1_5 l1_5.length c1_5, .slice A1_6 l1_6.length c1_6, .slice A1_7 l1_7.length c1_7] 63 (0, 0)) (by repeat (with_reducible first | exact b0.out | refine oneB ?_ | refine blk_far ?_ b5.out _)) hb); replace c2 := yaa (yai (g := c7) (o := .cells #[.int .i64 ((yag l1_4 b2).f0), .string ((yag l1_4 b2).f1), .slice d1 ((yag l1_4 b2).f2).length d2, .int .i64 ((yag l1_4 b2).f3)] 124 (0, 0)) (by (repeat refine oneB ?_); refine blk_put (cs := #[.int .i64 ((yag l1_4 b2).f0), .string ((yag l1_4 b2).f1), .slice d1 ((yag l1_4 b2).f2).length d2, .int .i64 0]) ?_ 3 _ rfl; refine blk_put (cs := #[.int .i64 ((yag l1_4 b2).f0), .string ((yag l1_4 b2).f1), .slice none 0 0, .int .i64 0]) ?_ 2 _ rfl; refine blk_put (cs := #[.int .i64 ((yag l1_4 b2).f0), .string (⟨#[]⟩ : ByteArray), .slice none 0 0, .int .i64 0]) ?_ 1 _ rfl; refine blk_put (cs := #[.int .i64 0, .string (⟨#[]⟩ : ByteArray), .slice none 0 0, .int .i64 0]) ?_ 0 _ rfl; exact upB c2.out) hb); replace HB := yaa (below_step (by repeat (with_reducible first | exact HB.out | apply yae | apply yad | apply yaf | refine yah ?_ (Aside0.out ‹_›))) hb); (try clear hb); (try clear hb2); (try clear hk); (try clear hi)))
          go_ret
          exact ⟨by first | rfl | (simp [*, errW_none, errW_some] <;> rfl), by repeat (with_reducible first | exact HB.out | apply yae | apply yad | apply yaf | refine yah ?_ (Aside0.out ‹_›))⟩
        ·
         replace c20 := Bool.eq_false_iff.mpr c20
         subst c20
         rw [if_neg (show ¬ (false = true) by decide)] at H
         obtain rfl := Option.some.inj H
         have p103 : 0 ≤ (b2 : Int) := of_decide_eq_true (by first | (with_reducible assumption) | assumption)
         have q103 : b2 < (l1_4.length : Int) := of_decide_eq_true (by first | (with_reducible assumption) | assumption)
         obtain ⟨ad103, d1, d2, d5, b6, b7, b8, b9, hl103_2, hi103_2⟩ := at_T124 HR1_4.out b2 p103 q103
         cases d5
         replace b6 := (HB.out.cell (World.block_lt_of_cell? w _ b6)).trans b6; replace b7 := (HB.out.cell (World.block_lt_of_cell? w _ b7)).trans b7; replace b8 := (HB.out.cell (World.block_lt_of_cell? w _ b8)).trans b8; replace b9 := (HB.out.cell (World.block_lt_of_cell? w _ b9)).trans b9; have HR103_2 := yaa hi103_2; have HC103_2 := yaa hl103_2; clear hi103_2 hl103_2; replace p103 := eq_true p103; replace q103 := eq_true q103
         go_wp2_with (first | ((with_reducible refine gate_dst (N := 7) rfl ?_); refine bx_ 7 #[.int .i64 0, .string (⟨#[]⟩ : ByteArray), .slice none 0 0, .int .i64 0] 124 ?_; intro c7 hg w50 hbox hb; have c2 := yaa (hbox); have d3 := yaa ((by rw [hg]; exact (below_size (by repeat (with_reducible first | exact HB.out | apply yae | apply yad | apply yaf | refine yah ?_ (Aside0.out ‹_›)))) : w.heap.size ≤ c7)); replace HB := yaa (below_step (by repeat (with_reducible first | exact HB.out | apply yae | apply yad | apply yaf | refine yah ?_ (Aside0.out ‹_›))) hb); have d6 := d3; have b4 := yaa ((by rw [hg]; exact Nat.ne_of_lt (blk_lt (upB b3.out)) : d0 ≠ c7)); replace b3 := yaa (yai (upB b3.out) hb); have c4 := yaa b4.out.symm; have b5 := yaa ((by rw [hg]; exact Nat.ne_of_lt (blk_lt (upB b0.out)) : b1 ≠ c7)); replace b0 := yaa (yai (upB b0.out) hb); have c5 := yaa b5.out.symm; clear hb hbox hg; have G7 := c4.out; have G8 := b4.out; have G9 := c5.out; have H0 := b5.out; obtain ⟨z2, z3, z4, z5⟩ := cc4_ c2.out; obtain ⟨z6, z7, z8, z9⟩ := cf4_ c2.out; have H1 := c9.out; have H2 := c0.out; have A0 : w50.cell? ⟨b1, 0, none⟩ = some (.int .i64 a1_0) := (yac b0.out 0).trans rfl; have A1 : w50.cell? ⟨b1, 1, none⟩ = some (.int .i64 a1_1) := (yac b0.out 1).trans rfl; have A2 : w50.cell? ⟨b1, 2, none⟩ = some (.int .i64 a1_2) := (yac b0.out 2).trans rfl; have A3 : w50.cell? ⟨b1, 3, none⟩ = some (.int .i64 a1_3) := (yac b0.out 3).trans rfl; have A4 : w50.cell? ⟨b1, 4, none⟩ = some (.slice (some ad103) l1_4.length c1_4) := (yac b0.out 4).trans rfl; have A5 : w50.cell? ⟨b1, 5, none⟩ = some (.slice A1_5 l1_5.length c1_5) := (yac b0.out 5).trans rfl; have A6 : w50.cell? ⟨b1, 6, none⟩ = some (.slice A1_6 l1_6.length c1_6) := (yac b0.out 6).trans rfl; have A7 : w50.cell? ⟨b1, 7, none⟩ = some (.slice A1_7 l1_7.length c1_7) := (yac b0.out 7).trans rfl; have A8 := yab b0.out 0; have A9 := yab b0.out 1; have B0 := yab b0.out 2; have B1 := yab b0.out 3; have B2 := yab b0.out 4; have B3 := yab b0.out 5; have B4 := yab b0.out 6; have B5 := yab b0.out 7) | ((with_reducible refine gate_callee (f := 62) rfl ?_); refine gl_ (some 28) rfl Try.func62 #[.int .i64 ((yag l1_4 b2).f0), .int .i64 (wrap64 (d4 + 1)), .int .i64 (wrap64 (a1_3 - 1))] ?_; (with_reducible refine (impl_within.calls ((yag l1_4 b2).f0) (wrap64 (d4 + 1)) (wrap64 (a1_3 - 1)) true _ A17.out).mono ?_); rintro e w' ⟨rfl, ⟨nd, rfl⟩⟩; refine ⟨_, rfl, ?_⟩) | (go_at_call 73; (with_reducible refine (impl_nameOk.calls k1 ((yag l1_4 b2).f1) false _ A19.out).mono ?_); rintro e w' ⟨rfl, ⟨nd, rfl⟩⟩))
         go_ret
         exact ⟨by first | rfl | (simp [*, errW_none, errW_some] <;> rfl), by repeat (with_reducible first | exact HB.out | apply yae | apply yad | apply yaf | refine yah ?_ (Aside0.out ‹_›))⟩
       ·
        replace c18 := Bool.eq_false_iff.mpr c18
        subst c18
        rw [if_neg (show ¬ (false = true) by decide)] at H
        obtain rfl := Option.some.inj H
        have p103 : 0 ≤ (b2 : Int) := of_decide_eq_true (by first | (with_reducible assumption) | assumption)
        have q103 : b2 < (l1_4.length : Int) := of_decide_eq_true (by first | (with_reducible assumption) | assumption)
        obtain ⟨ad103, d1, d2, d5, b6, b7, b8, b9, hl103_2, hi103_2⟩ := at_T124 HR1_4.out b2 p103 q103
        cases d5
        replace b6 := (HB.out.cell (World.block_lt_of_cell? w _ b6)).trans b6; replace b7 := (HB.out.cell (World.block_lt_of_cell? w _ b7)).trans b7; replace b8 := (HB.out.cell (World.block_lt_of_cell? w _ b8)).trans b8; replace b9 := (HB.out.cell (World.block_lt_of_cell? w _ b9)).trans b9; have HR103_2 := yaa hi103_2; have HC103_2 := yaa hl103_2; clear hi103_2 hl103_2; replace p103 := eq_true p103; replace q103 := eq_true q103
        go_wp2_with (first | ((with_reducible refine gate_dst (N := 7) rfl ?_); refine bx_ 7 #[.int .i64 0, .string (⟨#[]⟩ : ByteArray), .slice none 0 0, .int .i64 0] 124 ?_; intro c7 hg w56 hbox hb; have c2 := yaa (hbox); have d3 := yaa ((by rw [hg]; exact (below_size (by repeat (with_reducible first | exact HB.out | apply yae | apply yad | apply yaf | refine yah ?_ (Aside0.out ‹_›)))) : w.heap.size ≤ c7)); replace HB := yaa (below_step (by repeat (with_reducible first | exact HB.out | apply yae | apply yad | apply yaf | refine yah ?_ (Aside0.out ‹_›))) hb); have d6 := d3; have b4 := yaa ((by rw [hg]; exact Nat.ne_of_lt (blk_lt (upB b3.out)) : d0 ≠ c7)); replace b3 := yaa (yai (upB b3.out) hb); have c4 := yaa b4.out.symm; have b5 := yaa ((by rw [hg]; exact Nat.ne_of_lt (blk_lt (upB b0.out)) : b1 ≠ c7)); replace b0 := yaa (yai (upB b0.out) hb); have c5 := yaa b5.out.symm; clear hb hbox hg; have H3 := c4.out; have H4 := b4.out; have H5 := c5.out; have H6 := b5.out; obtain ⟨B6, B7, B8, B9⟩ := cc4_ c2.out; obtain ⟨C0, C1, C2, C3⟩ := cf4_ c2.out; have H7 := c9.out; have H8 := c0.out; have C4 : w56.cell? ⟨b1, 0, none⟩ = some (.int .i64 a1_0) := (yac b0.out 0).trans rfl; have C5 : w56.cell? ⟨b1, 1, none⟩ = some (.int .i64 a1_1) := (yac b0.out 1).trans rfl; have C6 : w56.cell? ⟨b1, 2, none⟩ = some (.int .i64 a1_2) := (yac b0.out 2).trans rfl; have C7 : w56.cell? ⟨b1, 3, none⟩ = some (.int .i64 a1_3) := (yac b0.out 3).trans rfl; have C8 : w56.cell? ⟨b1, 4, none⟩ = some (.slice (some ad103) l1_4.length c1_4) := (yac b0.out 4).trans rfl; have C9 : w56.cell? ⟨b1, 5, none⟩ = some (.slice A1_5 l1_5.length c1_5) := (yac b0.out 5).trans rfl; have D0 : w56.cell? ⟨b1, 6, none⟩ = some (.slice A1_6 l1_6.length c1_6) := (yac b0.out 6).trans rfl; have D1 : w56.cell? ⟨b1, 7, none⟩ = some (.slice A1_7 l1_7.length c1_7) := (yac b0.out 7).trans rfl; have D2 := yab b0.out 0; have D3 := yab b0.out 1; have D4 := yab b0.out 2; have D5 := yab b0.out 3; have D6 := yab b0.out 4; have D7 := yab b0.out 5; have D8 := yab b0.out 6; have D9 := yab b0.out 7) | ((with_reducible refine gate_callee (f := 62) rfl ?_); refine gl_ (some 28) rfl Try.func62 #[.int .i64 ((yag l1_4 b2).f0), .int .i64 (wrap64 (d4 + 1)), .int .i64 (wrap64 (a1_3 - 1))] ?_; (with_reducible refine (impl_within.calls ((yag l1_4 b2).f0) (wrap64 (d4 + 1)) (wrap64 (a1_3 - 1)) false _ A17.out).mono ?_); rintro e w' ⟨rfl, ⟨nd, rfl⟩⟩; refine ⟨_, rfl, ?_⟩))
        go_ret
        exact ⟨by first | rfl | (simp [*, errW_none, errW_some] <;> rfl), by repeat (with_reducible first | exact HB.out | apply yae | apply yad | apply yaf | refine yah ?_ (Aside0.out ‹_›))⟩
      ·
       rw [if_neg c16] at H
       exact absurd H (by simp)
     ·
      rw [if_neg c15] at H
      exact absurd H (by simp)
    ·
     rw [if_neg c14] at H
     have k9 : decide (b2 < (l1_4.length : Int)) = false := decide_eq_false c14; clear c14; obtain rfl := Option.some.inj H
     go_wp2
     go_ret
     exact ⟨by first | rfl | (simp [*, errW_none, errW_some] <;> rfl), by repeat (with_reducible first | exact HB.out | apply yae | apply yad | apply yaf | refine yah ?_ (Aside0.out ‹_›))⟩

end Go.Proofs.Ytgpkkkmapgnhkaa.X

namespace Go.Proofs.Ytgpkkkmapgnhkaa.X
open Go.RowKit Go.Proofs.YtgpkkkmapgnhkaaW.PrintWords Go.Proofs.YtgpkkkmapgnhkaaW.PrintLast Go.Proofs.YtgpkkkmapgnhkaaW.PrintMore
attribute [local go_sem] max2_int min2_int max_two min_two max_three min_three max_four min_four
set_option linter.unusedVariables false
set_option linter.unusedSimpArgs false

open Go.Proofs.YtgpkkkmapgnhkaaW.PrintWords.Aside0 renaming mk → yaa
open Go.Proofs.YtgpkkkmapgnhkaaW.PrintWords renaming blk_frozen → yab, pw_below_drewN → yac, blk_cell → yad, below_alloc → yaf, below_drew1 → yag, below_set → yah
open Go.Proofs.Ytgpkkkmapgnhkaa.X renaming rd_T156 → yae

/-! ### impl_filesOk: function 89 -/
mutual
def impl_filesOk.l0 : Nat → List (S156) → Int → Int → Int → Int → Int → Int → List (S124) → List (S156) → List ByteArray → List (S158) → Option (Bool)
 | 0, _, _, _, _, _, _, _, _, _, _, _ => none
 | k + 1, x16, x17, x18, x103000, x103001, x103002, x103003, x103004, x103005, x103006, x103007 => if x18 < x17 then (if 0 ≤ x18 then (if x18 < (x16.length : Int) then ((impl_nameOk.f k ((rd_T156 x16 x18).f0)).bind fun t105 => (if t105 = true then ((impl_within.f ((rd_T156 x16 x18).f1) 0 x103000).bind fun t106 => (if t106 = true then (impl_filesOk.j1 k x18 x16 x17 x18 (decide ((((rd_T156 x16 x18).f2).length : Int) > 220)) x103000 x103001 x103002 x103003 x103004 x103005 x103006 x103007 ((rd_T156 x16 x18).f0) ((rd_T156 x16 x18).f1) ((rd_T156 x16 x18).f2)) else (impl_filesOk.j1 k x18 x16 x17 x18 true x103000 x103001 x103002 x103003 x103004 x103005 x103006 x103007 ((rd_T156 x16 x18).f0) ((rd_T156 x16 x18).f1) ((rd_T156 x16 x18).f2)))) else (impl_filesOk.j1 k x18 x16 x17 x18 true x103000 x103001 x103002 x103003 x103004 x103005 x103006 x103007 ((rd_T156 x16 x18).f0) ((rd_T156 x16 x18).f1) ((rd_T156 x16 x18).f2)))) else (none)) else (none)) else (some true)
def impl_filesOk.j1 : Nat → Int → List (S156) → Int → Int → Bool → Int → Int → Int → Int → List (S124) → List (S156) → List ByteArray → List (S158) → ByteArray → Int → List Int → Option (Bool)
 | 0, _, _, _, _, _, _, _, _, _, _, _, _, _, _, _, _ => none
 | k + 1, x5, x16, x17, x18, x40, x103000, x103001, x103002, x103003, x103004, x103005, x103006, x103007, x105000, x105001, x105002 => if x40 = true then (some false) else (if 0 ≤ x5 then (if x5 ≤ (x103005.length : Int) then ((some (x103005.take (x5 : Int).toNat : List (S156))).bind fun y107 => (impl_filesOk.l1 k x16 x17 x18 y107 (y107.length : Int) 0 x103000 x103001 x103002 x103003 x103004 x103005 x103006 x103007 x105000 x105001 x105002)) else (none)) else (none))
def impl_filesOk.l1 : Nat → List (S156) → Int → Int → List (S156) → Int → Int → Int → Int → Int → Int → List (S124) → List (S156) → List ByteArray → List (S158) → ByteArray → Int → List Int → Option (Bool)
 | 0, _, _, _, _, _, _, _, _, _, _, _, _, _, _, _, _, _ => none
 | k + 1, x16, x17, x18, x44, x45, x46, x103000, x103001, x103002, x103003, x103004, x103005, x103006, x103007, x105000, x105001, x105002 => if x46 < x45 then (if 0 ≤ x46 then (if x46 < (x44.length : Int) then (if x105000.toList = ((rd_T156 x44 x46).f0).toList then (some false) else (impl_filesOk.l1 k x16 x17 x18 x44 x45 (wrap64 (x46 + 1)) x103000 x103001 x103002 x103003 x103004 x103005 x103006 x103007 x105000 x105001 x105002)) else (none)) else (none)) else (impl_filesOk.l0 k x16 x17 (wrap64 (x18 + 1)) x103000 x103001 x103002 x103003 x103004 x103005 x103006 x103007)
end
def impl_filesOk.f (k : Nat) (l0_0 : List Int) (a0_1 : Int) (a0_2 : Int) (a0_3 : Int) (a0_4 : Int) (a0_5 : Int) (a0_6 : Int) (a1_0 : Int) (a1_1 : Int) (a1_2 : Int) (a1_3 : Int) (l1_4 : List (S124)) (l1_5 : List (S156)) (l1_6 : List ByteArray) (l1_7 : List (S158)) : Option (Bool) := if (l1_5.length : Int) > a0_5 then (some false) else (impl_filesOk.l0 k l1_5 (l1_5.length : Int) 0 a1_0 a1_1 a1_2 a1_3 l1_4 l1_5 l1_6 l1_7)
set_option maxHeartbeats 8000000 in
set_option maxRecDepth 100000 in
theorem impl_filesOk.calls (k : Nat) (A0_0 : Option Addr) (c0_0 : Nat) (l0_0 : List Int) (a0_1 : Int) (a0_2 : Int) (a0_3 : Int) (a0_4 : Int) (a0_5 : Int) (a0_6 : Int) (a1_0 : Int) (a1_1 : Int) (a1_2 : Int) (a1_3 : Int) (A1_4 : Option Addr) (c1_4 : Nat) (l1_4 : List (S124)) (A1_5 : Option Addr) (c1_5 : Nat) (l1_5 : List (S156)) (A1_6 : Option Addr) (c1_6 : Nat) (l1_6 : List ByteArray) (A1_7 : Option Addr) (c1_7 : Nat) (l1_7 : List (S158)) (r : Bool) (w : World) (hr0_0 : Kd.C (Kd.int .u8) w A0_0 l0_0.length l0_0) (hc0_0 : l0_0.length ≤ c0_0) (hr1_4 : Kd.C k124 w A1_4 l1_4.length l1_4) (hc1_4 : l1_4.length ≤ c1_4) (hr1_5 : Kd.C k156 w A1_5 l1_5.length l1_5) (hc1_5 : l1_5.length ≤ c1_5) (hr1_6 : Kd.C Kd.string w A1_6 l1_6.length l1_6) (hc1_6 : l1_6.length ≤ c1_6) (hr1_7 : Kd.C k158 w A1_7 l1_7.length l1_7) (hc1_7 : l1_7.length ≤ c1_7) (h : impl_filesOk.f k l0_0 a0_1 a0_2 a0_3 a0_4 a0_5 a0_6 a1_0 a1_1 a1_2 a1_3 l1_4 l1_5 l1_6 l1_7 = some r) :
  Calls Try.prog 89 #[.agg #[.slice A0_0 l0_0.length c0_0, .int .i64 a0_1, .int .i64 a0_2, .int .i64 a0_3, .int .i64 a0_4, .int .i64 a0_5, .int .i64 a0_6], .agg #[.int .i64 a1_0, .int .i64 a1_1, .int .i64 a1_2, .int .i64 a1_3, .slice A1_4 l1_4.length c1_4, .slice A1_5 l1_5.length c1_5, .slice A1_6 l1_6.length c1_6, .slice A1_7 l1_7.length c1_7]] w fun e w' => e = .returned (.bool r) ∧ Below w.heap.size w w' := by
 have hu24 := Try.underlying24; have hu63 := Try.underlying63; have hu156 := Try.underlying156; have HR0_0 := yaa hr0_0; have HC0_0 := yaa hc0_0; clear hr0_0 hc0_0; have HR1_4 := yaa hr1_4; have HC1_4 := yaa hc1_4; clear hr1_4 hc1_4; have HR1_5 := yaa hr1_5; have HC1_5 := yaa hc1_5; clear hr1_5 hc1_5; have HR1_6 := yaa hr1_6; have HC1_6 := yaa hc1_6; clear hr1_6 hc1_6; have HR1_7 := yaa hr1_7; have HC1_7 := yaa hc1_7; clear hr1_7 hc1_7; have HB := yaa (Below.refl w.heap.size w); have H : (if (l1_5.length : Int) > a0_5 then (some false) else (impl_filesOk.l0 k l1_5 (l1_5.length : Int) 0 a1_0 a1_1 a1_2 a1_3 l1_4 l1_5 l1_6 l1_7)) = some r := h; clear h
 by_cases c3 : (l1_5.length : Int) > a0_5
 ·
  rw [if_pos c3] at H
  have s1 : decide (a0_5 < (l1_5.length : Int)) = true := decide_eq_true c3; clear c3; obtain rfl := Option.some.inj H
  go_enter Try.func89, Try.ntmps89
  go_wp2_with (first | ((with_reducible refine gate_dst (N := 2) rfl ?_); (try (refine gate_guard (by rfl) ?_; dsimp only)); refine bx_ 2 #[.slice A0_0 l0_0.length c0_0, .int .i64 a0_1, .int .i64 a0_2, .int .i64 a0_3, .int .i64 a0_4, .int .i64 a0_5, .int .i64 a0_6] 24 ?_; intro d5 hg w4 hbox hb; have b3 := yaa (hbox); have r5 := yaa ((by rw [hg]; exact (below_size (upH HB.out)) : w.heap.size ≤ d5)); replace HB := yaa (below_step (upH HB.out) hb); have u4 := r5; clear hb hbox hg) | ((with_reducible refine gate_dst (N := 3) rfl ?_); (try (refine gate_guard (by rfl) ?_; dsimp only)); refine bx_ 3 #[.int .i64 a1_0, .int .i64 a1_1, .int .i64 a1_2, .int .i64 a1_3, .slice A1_4 l1_4.length c1_4, .slice A1_5 l1_5.length c1_5, .slice A1_6 l1_6.length c1_6, .slice A1_7 l1_7.length c1_7] 63 ?_; intro b2 hg w5 hbox hb; have b0 := yaa (hbox); have r6 := yaa ((by rw [hg]; exact (below_size (by repeat (with_reducible first | exact HB.out | apply yaf | apply yac | apply yag | refine yah ?_ (Aside0.out ‹_›)))) : w.heap.size ≤ b2)); replace HB := yaa (below_step (by repeat (with_reducible first | exact HB.out | apply yaf | apply yac | apply yag | refine yah ?_ (Aside0.out ‹_›))) hb); have u5 := r6; have b8 := yaa ((by rw [hg]; exact Nat.ne_of_lt (blk_lt (upB b3.out)) : d5 ≠ b2)); replace b3 := yaa (blk_below (upB b3.out) hb); have c0 := yaa b8.out.symm; clear hb hbox hg; have F2 := c0.out; have F3 := b8.out; have h9 : w5.cell? ⟨b2, 0, none⟩ = some (.int .i64 a1_0) := (yad b0.out 0).trans rfl; have i0 : w5.cell? ⟨b2, 1, none⟩ = some (.int .i64 a1_1) := (yad b0.out 1).trans rfl; have i1 : w5.cell? ⟨b2, 2, none⟩ = some (.int .i64 a1_2) := (yad b0.out 2).trans rfl; have i2 : w5.cell? ⟨b2, 3, none⟩ = some (.int .i64 a1_3) := (yad b0.out 3).trans rfl; have i3 : w5.cell? ⟨b2, 4, none⟩ = some (.slice A1_4 l1_4.length c1_4) := (yad b0.out 4).trans rfl; have i4 : w5.cell? ⟨b2, 5, none⟩ = some (.slice A1_5 l1_5.length c1_5) := (yad b0.out 5).trans rfl; have i5 : w5.cell? ⟨b2, 6, none⟩ = some (.slice A1_6 l1_6.length c1_6) := (yad b0.out 6).trans rfl; have i6 : w5.cell? ⟨b2, 7, none⟩ = some (.slice A1_7 l1_7.length c1_7) := (yad b0.out 7).trans rfl; have i7 := yab b0.out 0; have i8 := yab b0.out 1; have i9 := yab b0.out 2; have j0 := yab b0.out 3; have j2 := yab b0.out 4; have j3 := yab b0.out 5; have j4 := yab b0.out 6; have j5 := yab b0.out 7; obtain ⟨j6, j7, j8, j9, k0, k2, k4⟩ := cc7_ b3.out; have k5 := yab b3.out 0; have k6 := yab b3.out 1; have k7 := yab b3.out 2; have k8 := yab b3.out 3; have k9 := yab b3.out 4; have l2 := yab b3.out 5; have l3 := yab b3.out 6))
  go_ret
  exact ⟨by first | rfl | (simp [*, errW_none, errW_some] <;> rfl), by repeat (with_reducible first | exact HB.out | apply yaf | apply yac | apply yag | refine yah ?_ (Aside0.out ‹_›))⟩
 ·
  rw [if_neg c3] at H
  have s1 : decide (a0_5 < (l1_5.length : Int)) = false := decide_eq_false c3; clear c3; have H' := yaa H; clear H
  go_enter Try.func89, Try.ntmps89
  go_wp2_with (first | ((with_reducible refine gate_dst (N := 2) rfl ?_); (try (refine gate_guard (by rfl) ?_; dsimp only)); refine bx_ 2 #[.slice A0_0 l0_0.length c0_0, .int .i64 a0_1, .int .i64 a0_2, .int .i64 a0_3, .int .i64 a0_4, .int .i64 a0_5, .int .i64 a0_6] 24 ?_; intro d5 hg w9 hbox hb; have b3 := yaa (hbox); have r5 := yaa ((by rw [hg]; exact (below_size (upH HB.out)) : w.heap.size ≤ d5)); replace HB := yaa (below_step (upH HB.out) hb); have u4 := r5; clear hb hbox hg) | ((with_reducible refine gate_dst (N := 3) rfl ?_); (try (refine gate_guard (by rfl) ?_; dsimp only)); refine bx_ 3 #[.int .i64 a1_0, .int .i64 a1_1, .int .i64 a1_2, .int .i64 a1_3, .slice A1_4 l1_4.length c1_4, .slice A1_5 l1_5.length c1_5, .slice A1_6 l1_6.length c1_6, .slice A1_7 l1_7.length c1_7] 63 ?_; intro b2 hg w10 hbox hb; have b0 := yaa (hbox); have r6 := yaa ((by rw [hg]; exact (below_size (by repeat (with_reducible first | exact HB.out | apply yaf | apply yac | apply yag | refine yah ?_ (Aside0.out ‹_›)))) : w.heap.size ≤ b2)); replace HB := yaa (below_step (by repeat (with_reducible first | exact HB.out | apply yaf | apply yac | apply yag | refine yah ?_ (Aside0.out ‹_›))) hb); have u5 := r6; have b8 := yaa ((by rw [hg]; exact Nat.ne_of_lt (blk_lt (upB b3.out)) : d5 ≠ b2)); replace b3 := yaa (blk_below (upB b3.out) hb); have c0 := yaa b8.out.symm; clear hb hbox hg; have A3 := c0.out; have A4 := b8.out; have e4 : w10.cell? ⟨b2, 0, none⟩ = some (.int .i64 a1_0) := (yad b0.out 0).trans rfl; have e5 : w10.cell? ⟨b2, 1, none⟩ = some (.int .i64 a1_1) := (yad b0.out 1).trans rfl; have e6 : w10.cell? ⟨b2, 2, none⟩ = some (.int .i64 a1_2) := (yad b0.out 2).trans rfl; have e7 : w10.cell? ⟨b2, 3, none⟩ = some (.int .i64 a1_3) := (yad b0.out 3).trans rfl; have e8 : w10.cell? ⟨b2, 4, none⟩ = some (.slice A1_4 l1_4.length c1_4) := (yad b0.out 4).trans rfl; have e9 : w10.cell? ⟨b2, 5, none⟩ = some (.slice A1_5 l1_5.length c1_5) := (yad b0.out 5).trans rfl; have f3 : w10.cell? ⟨b2, 6, none⟩ = some (.slice A1_6 l1_6.length c1_6) := (yad b0.out 6).trans rfl; have f4 : w10.cell? ⟨b2, 7, none⟩ = some (.slice A1_7 l1_7.length c1_7) := (yad b0.out 7).trans rfl; have f5 := yab b0.out 0; have f6 := yab b0.out 1; have f7 := yab b0.out 2; have f8 := yab b0.out 3; have f9 := yab b0.out 4; have g0 := yab b0.out 5; have g1 := yab b0.out 6; have g2 := yab b0.out 7; obtain ⟨g3, g4, g5, g6, g7, g8, g9⟩ := cc7_ b3.out; have h0 := yab b3.out 0; have h1 := yab b3.out 1; have h2 := yab b3.out 2; have h3 := yab b3.out 3; have h4 := yab b3.out 4; have h5 := yab b3.out 5; have h6 := yab b3.out 6))
  (try simp only [Act.put, List.setIfInBounds_toArray, List.set_cons_zero, List.set_cons_succ])
  go_loopg [18] k (fun kq v18 w' => ∃ (b1 : Int), v18 = .int .i64 b1 ∧ Aside0 (impl_filesOk.l0 kq l1_5 (l1_5.length : Int) b1 a1_0 a1_1 a1_2 a1_3 l1_4 l1_5 l1_6 l1_7 = some r) ∧ Aside0 (kq ≤ k) ∧ Aside0 (w'.heap[d5]? = some (.cells #[(.slice A0_0 l0_0.length c0_0), .int .i64 a0_1, .int .i64 a0_2, .int .i64 a0_3, .int .i64 a0_4, .int .i64 a0_5, .int .i64 a0_6] 24 (0, 0))) ∧ Aside0 (w'.heap[b2]? = some (.cells #[.int .i64 a1_0, .int .i64 a1_1, .int .i64 a1_2, .int .i64 a1_3, (.slice A1_4 l1_4.length c1_4), (.slice A1_5 l1_5.length c1_5), (.slice A1_6 l1_6.length c1_6), (.slice A1_7 l1_7.length c1_7)] 63 (0, 0))) ∧ Aside0 (Below w.heap.size w w'))
  case atStart => exact ⟨(0), (by first | rfl | (simp; done) | (simp [*]; done)), H', ⟨Nat.le_refl _⟩, ⟨by exact upB b3.out⟩, ⟨by exact upB b0.out⟩, ⟨by repeat (with_reducible first | exact HB.out | apply yaf | apply yac | apply yag | refine yah ?_ (Aside0.out ‹_›))⟩⟩
  case round =>
   clear H'; (try clear c1); (try clear p2); (try clear c3); (try clear s1); (try clear c6); (try clear c8); (try clear c11); (try clear e4); (try clear e5); (try clear e6); (try clear e7); (try clear e8); (try clear e9); (try clear f3); (try clear f4); (try clear g3); (try clear g4); (try clear g5); (try clear g6); (try clear g7); (try clear g8); (try clear g9); (try clear h9); (try clear i0); (try clear i1); (try clear i2); (try clear i3); (try clear i4); (try clear i5); (try clear i6); (try clear j6); (try clear j7); (try clear j8); (try clear j9); (try clear k0); (try clear k2); (try clear k4); (try clear f5); (try clear f6); (try clear f7); (try clear f8); (try clear f9); (try clear g0); (try clear g1); (try clear g2); (try clear h0); (try clear h1); (try clear h2); (try clear h3); (try clear h4); (try clear h5); (try clear h6); (try clear i7); (try clear i8); (try clear i9); (try clear j0); (try clear j2); (try clear j3); (try clear j4); (try clear j5); (try clear k5); (try clear k6); (try clear k7); (try clear k8); (try clear k9); (try clear l2); (try clear l3); obtain ⟨b1, rfl, HA, HK1, b3, b0, HB⟩ := hrel
   cases gk with
   | zero => exact absurd HA.out (by simp [impl_filesOk.l0])
   | succ k1 =>
    have H := HA.out; clear HA
    simp only [impl_filesOk.l0] at H
    by_cases c14 : b1 < (l1_5.length : Int)
    ·
     rw [if_pos c14] at H
     have r7 : decide (b1 < (l1_5.length : Int)) = true := decide_eq_true c14; clear c14
     by_cases c15 : 0 ≤ b1
     ·
      rw [if_pos c15] at H
      have t9 : decide (0 ≤ b1) = true := decide_eq_true c15; clear c15
      by_cases c16 : b1 < (l1_5.length : Int)
      ·
       rw [if_pos c16] at H
       have u0 : decide (b1 < (l1_5.length : Int)) = true := decide_eq_true c16; clear c16; have HC17 := yaa H; clear H
       have p103 : 0 ≤ (b1 : Int) := of_decide_eq_true (by first | (with_reducible assumption) | assumption)
       have q103 : b1 < (l1_5.length : Int) := of_decide_eq_true (by first | (with_reducible assumption) | assumption)
       obtain ⟨ad103, r8, r9, z9, d6, d7, d8, hl103_2, hi103_2⟩ := at_T156 HR1_5.out b1 p103 q103
       cases z9
       replace d6 := (HB.out.cell (World.block_lt_of_cell? w _ d6)).trans d6; replace d7 := (HB.out.cell (World.block_lt_of_cell? w _ d7)).trans d7; replace d8 := (HB.out.cell (World.block_lt_of_cell? w _ d8)).trans d8; have HR103_2 := yaa hi103_2; have HC103_2 := yaa hl103_2; clear hi103_2 hl103_2; replace p103 := eq_true p103; replace q103 := eq_true q103
       go_upto_region 6 with (first | ((with_reducible refine gate_dst (N := 6) rfl ?_); (try (refine gate_guard (by rfl) ?_; dsimp only)); refine bx_ 6 #[.string (⟨#[]⟩ : ByteArray), .int .i64 0, .slice none 0 0] 156 ?_; intro e3 hg w18 hbox hb; have b4 := yaa (hbox); have u6 := yaa ((by rw [hg]; exact (below_size (by repeat (with_reducible first | exact HB.out | apply yaf | apply yac | apply yag | refine yah ?_ (Aside0.out ‹_›)))) : w.heap.size ≤ e3)); replace HB := yaa (below_step (by repeat (with_reducible first | exact HB.out | apply yaf | apply yac | apply yag | refine yah ?_ (Aside0.out ‹_›))) hb); have A5 := u6; have b6 := yaa ((by rw [hg]; exact Nat.ne_of_lt (blk_lt (upB b3.out)) : d5 ≠ e3)); replace b3 := yaa (blk_below (upB b3.out) hb); have c5 := yaa b6.out.symm; have b5 := yaa ((by rw [hg]; exact Nat.ne_of_lt (blk_lt (upB b0.out)) : b2 ≠ e3)); replace b0 := yaa (blk_below (upB b0.out) hb); have b9 := yaa b5.out.symm; clear hb hbox hg; have A6 := c5.out; have A7 := b6.out; have A8 := b9.out; have A9 := b5.out; obtain ⟨l5, l6, l7⟩ := cc3_ b4.out; obtain ⟨l8, l9⟩ := cf2_ b4.out; have m0 := yab b4.out 2))
       (try simp only [Act.put, List.setIfInBounds_toArray, List.set_cons_zero, List.set_cons_succ])
       go_cut [40] (fun v40 wc => ∃ (kq : Nat) (h7 : Bool), v40 = .bool h7 ∧ Aside0 (impl_filesOk.j1 kq b1 l1_5 (l1_5.length : Int) b1 h7 a1_0 a1_1 a1_2 a1_3 l1_4 l1_5 l1_6 l1_7 ((yae l1_5 b1).f0) ((yae l1_5 b1).f1) ((yae l1_5 b1).f2) = some r) ∧ Aside0 (kq ≤ k1) ∧ Aside0 (wc.heap[d5]? = some (.cells #[(.slice A0_0 l0_0.length c0_0), .int .i64 a0_1, .int .i64 a0_2, .int .i64 a0_3, .int .i64 a0_4, .int .i64 a0_5, .int .i64 a0_6] 24 (0, 0))) ∧ Aside0 (wc.heap[b2]? = some (.cells #[.int .i64 a1_0, .int .i64 a1_1, .int .i64 a1_2, .int .i64 a1_3, (.slice A1_4 l1_4.length c1_4), (.slice (some ad103) l1_5.length c1_5), (.slice A1_6 l1_6.length c1_6), (.slice A1_7 l1_7.length c1_7)] 63 (0, 0))) ∧ Aside0 (wc.heap[e3]? = some (.cells #[.string ((yae l1_5 b1).f0), .int .i64 ((yae l1_5 b1).f1), (.slice r8 ((yae l1_5 b1).f2).length r9)] 156 (0, 0))) ∧ Aside0 (Below w.heap.size w wc))
       case first =>
        have H := HC17.out; clear HC17; replace H := Option.bind_eq_some_iff.mp H; obtain ⟨A0, u9, H⟩ := H; (try dsimp only at H); have A22 := yaa u9; clear u9
        by_cases c23 : A0 = true
        ·
         subst c23
         rw [if_pos rfl] at H
         replace H := Option.bind_eq_some_iff.mp H; obtain ⟨A1, v0, H⟩ := H; (try dsimp only at H); have A24 := yaa v0; clear v0
         by_cases c25 : A1 = true
         ·
          subst c25
          rw [if_pos rfl] at H
          have H' := yaa H; clear H; have B0 := c5.out; have B1 := b6.out; have B2 := b9.out; have B3 := b5.out; obtain ⟨m1, m2, m3⟩ := cc3_ b4.out; obtain ⟨m4, m5, m6⟩ := cf3_ b4.out
          go_wp2_with (first | ((with_reducible refine gate_callee (f := 73) rfl ?_); refine gl_ (some 25) rfl Try.func73 #[.string ((yae l1_5 b1).f0)] ?_; (with_reducible refine (impl_nameOk.calls k1 ((yae l1_5 b1).f0) true _ A22.out).mono ?_); rintro e w' ⟨rfl, ⟨nd, rfl⟩⟩; refine ⟨_, rfl, ?_⟩; have B4 := c0.out; have B5 := b8.out; have m7 : w18.cell? ⟨b2, 0, none⟩ = some (.int .i64 a1_0) := (yad b0.out 0).trans rfl; have m8 : w18.cell? ⟨b2, 1, none⟩ = some (.int .i64 a1_1) := (yad b0.out 1).trans rfl; have m9 : w18.cell? ⟨b2, 2, none⟩ = some (.int .i64 a1_2) := (yad b0.out 2).trans rfl; have n0 : w18.cell? ⟨b2, 3, none⟩ = some (.int .i64 a1_3) := (yad b0.out 3).trans rfl; have n1 : w18.cell? ⟨b2, 4, none⟩ = some (.slice A1_4 l1_4.length c1_4) := (yad b0.out 4).trans rfl; have n2 : w18.cell? ⟨b2, 5, none⟩ = some (.slice (some ad103) l1_5.length c1_5) := (yad b0.out 5).trans rfl; have n3 : w18.cell? ⟨b2, 6, none⟩ = some (.slice A1_6 l1_6.length c1_6) := (yad b0.out 6).trans rfl; have n4 : w18.cell? ⟨b2, 7, none⟩ = some (.slice A1_7 l1_7.length c1_7) := (yad b0.out 7).trans rfl; have n5 := yab b0.out 0; have n6 := yab b0.out 1; have n7 := yab b0.out 2; have n8 := yab b0.out 3; have n9 := yab b0.out 4; have o0 := yab b0.out 5; have o1 := yab b0.out 6; have o2 := yab b0.out 7) | (go_at_call 62; (with_reducible refine (impl_within.calls ((yae l1_5 b1).f1) 0 a1_0 true _ A24.out).mono ?_); rintro e w' ⟨rfl, ⟨nd, rfl⟩⟩))
          go_meet
          case rel => exact ⟨_, (decide ((((yae l1_5 b1).f2).length : Int) > 220)), (by first | rfl | (simp; done) | (simp [*]; done)), H', ⟨by have := HK1.out; first | omega | exact Nat.le_refl _⟩, ⟨by repeat (with_reducible first | exact b3.out | refine oneB ?_ | refine blk_far ?_ b6.out _)⟩, ⟨by repeat (with_reducible first | exact b0.out | refine oneB ?_ | refine blk_far ?_ b5.out _)⟩, ⟨by (repeat refine oneB ?_); refine blk_put (cs := #[.string ((yae l1_5 b1).f0), .int .i64 ((yae l1_5 b1).f1), .slice none 0 0]) ?_ 2 _ rfl; refine blk_put (cs := #[.string ((yae l1_5 b1).f0), .int .i64 0, .slice none 0 0]) ?_ 1 _ rfl; refine blk_put (cs := #[.string (⟨#[]⟩ : ByteArray), .int .i64 0, .slice none 0 0]) ?_ 0 _ rfl; exact upB b4.out⟩, ⟨by repeat (with_reducible first | exact HB.out | apply yaf | apply yac | apply yag | refine yah ?_ (Aside0.out ‹_›))⟩⟩
         ·
          replace c25 := Bool.eq_false_iff.mpr c25
          subst c25
          rw [if_neg (show ¬ (false = true) by decide)] at H
          have H' := yaa H; clear H; have B6 := c5.out; have B7 := b6.out; have B8 := b9.out; have B9 := b5.out; obtain ⟨o3, o4, o5⟩ := cc3_ b4.out; obtain ⟨o6, o7, o8⟩ := cf3_ b4.out
          go_wp2_with (first | ((with_reducible refine gate_callee (f := 73) rfl ?_); refine gl_ (some 25) rfl Try.func73 #[.string ((yae l1_5 b1).f0)] ?_; (with_reducible refine (impl_nameOk.calls k1 ((yae l1_5 b1).f0) true _ A22.out).mono ?_); rintro e w' ⟨rfl, ⟨nd, rfl⟩⟩; refine ⟨_, rfl, ?_⟩; have C0 := c0.out; have C1 := b8.out; have o9 : w18.cell? ⟨b2, 0, none⟩ = some (.int .i64 a1_0) := (yad b0.out 0).trans rfl; have p0 : w18.cell? ⟨b2, 1, none⟩ = some (.int .i64 a1_1) := (yad b0.out 1).trans rfl; have p3 : w18.cell? ⟨b2, 2, none⟩ = some (.int .i64 a1_2) := (yad b0.out 2).trans rfl; have p4 : w18.cell? ⟨b2, 3, none⟩ = some (.int .i64 a1_3) := (yad b0.out 3).trans rfl; have p5 : w18.cell? ⟨b2, 4, none⟩ = some (.slice A1_4 l1_4.length c1_4) := (yad b0.out 4).trans rfl; have p6 : w18.cell? ⟨b2, 5, none⟩ = some (.slice (some ad103) l1_5.length c1_5) := (yad b0.out 5).trans rfl; have p7 : w18.cell? ⟨b2, 6, none⟩ = some (.slice A1_6 l1_6.length c1_6) := (yad b0.out 6).trans rfl; have p8 : w18.cell? ⟨b2, 7, none⟩ = some (.slice A1_7 l1_7.length c1_7) := (yad b0.out 7).trans rfl; have p9 := yab b0.out 0; have q0 := yab b0.out 1; have q2 := yab b0.out 2; have q3 := yab b0.out 3; have q5 := yab b0.out 4; have q6 := yab b0.out 5; have q7 := yab b0.out 6; have q8 := yab b0.out 7) | (go_at_call 62; (with_reducible refine (impl_within.calls ((yae l1_5 b1).f1) 0 a1_0 false _ A24.out).mono ?_); rintro e w' ⟨rfl, ⟨nd, rfl⟩⟩))
          go_meet
          case rel => exact ⟨_, (true), (by first | rfl | (simp; done) | (simp [*]; done)), H', ⟨by have := HK1.out; first | omega | exact Nat.le_refl _⟩, ⟨by repeat (with_reducible first | exact b3.out | refine oneB ?_ | refine blk_far ?_ b6.out _)⟩, ⟨by repeat (with_reducible first | exact b0.out | refine oneB ?_ | refine blk_far ?_ b5.out _)⟩, ⟨by (repeat refine oneB ?_); refine blk_put (cs := #[.string ((yae l1_5 b1).f0), .int .i64 ((yae l1_5 b1).f1), .slice none 0 0]) ?_ 2 _ rfl; refine blk_put (cs := #[.string ((yae l1_5 b1).f0), .int .i64 0, .slice none 0 0]) ?_ 1 _ rfl; refine blk_put (cs := #[.string (⟨#[]⟩ : ByteArray), .int .i64 0, .slice none 0 0]) ?_ 0 _ rfl; exact upB b4.out⟩, ⟨by repeat (with_reducible first | exact HB.out | apply yaf | apply yac | apply yag | refine yah ?_ (Aside0.out ‹_›))⟩⟩
        ·
         replace c23 := Bool.eq_false_iff.mpr c23
         subst c23
         rw [if_neg (show ¬ (false = true) by decide)] at H
         have H' := yaa H; clear H; have C2 := c5.out; have C3 := b6.out; have C4 := b9.out; have C5 := b5.out; obtain ⟨q9, r0, r1⟩ := cc3_ b4.out; obtain ⟨r2, r3, r4⟩ := cf3_ b4.out
         go_wp2_with (first | ((with_reducible refine gate_callee (f := 73) rfl ?_); refine gl_ (some 25) rfl Try.func73 #[.string ((yae l1_5 b1).f0)] ?_; (with_reducible refine (impl_nameOk.calls k1 ((yae l1_5 b1).f0) false _ A22.out).mono ?_); rintro e w' ⟨rfl, ⟨nd, rfl⟩⟩; refine ⟨_, rfl, ?_⟩))
         go_meet
         case rel => exact ⟨_, (true), (by first | rfl | (simp; done) | (simp [*]; done)), H', ⟨by have := HK1.out; first | omega | exact Nat.le_refl _⟩, ⟨by repeat (with_reducible first | exact b3.out | refine oneB ?_ | refine blk_far ?_ b6.out _)⟩, ⟨by repeat (with_reducible first | exact b0.out | refine oneB ?_ | refine blk_far ?_ b5.out _)⟩, ⟨by (repeat refine oneB ?_); refine blk_put (cs := #[.string ((yae l1_5 b1).f0), .int .i64 ((yae l1_5 b1).f1), .slice none 0 0]) ?_ 2 _ rfl; refine blk_put (cs := #[.string ((yae l1_5 b1).f0), .int .i64 0, .slice none 0 0]) ?_ 1 _ rfl; refine blk_put (cs := #[.string (⟨#[]⟩ : ByteArray), .int .i64 0, .slice none 0 0]) ?_ 0 _ rfl; exact upB b4.out⟩, ⟨by repeat (with_reducible first | exact HB.out | apply yaf | apply yac | apply yag | refine yah ?_ (Aside0.out ‹_›))⟩⟩
       case rest =>
        clear HC17; (try clear c1); (try clear p1); (try clear q1); (try clear hx1); (try clear c2); (try clear p2); (try clear c3); (try clear s1); (try clear c6); (try clear c7); (try clear c8); (try clear c10); (try clear p10); (try clear q10); (try clear hx10); (try clear c11); (try clear c14); (try clear r7); (try clear c15); (try clear t9); (try clear c16); (try clear u0); (try clear c19); (try clear c20); (try clear c23); (try clear c25); (try clear c26); (try clear c27); (try clear c29); (try clear c31); (try clear c32); (try clear c34); (try clear c36); (try clear c37); (try clear e4); (try clear e5); (try clear e6); (try clear e7); (try clear e8); (try clear e9); (try clear f3); (try clear f4); (try clear g3); (try clear g4); (try clear g5); (try clear g6); (try clear g7); (try clear g8); (try clear g9); (try clear l5); (try clear l6); (try clear l7); (try clear m1); (try clear m2); (try clear m3); (try clear m7); (try clear m8); (try clear m9); (try clear n0); (try clear n1); (try clear n2); (try clear n3); (try clear n4); (try clear o3); (try clear o4); (try clear o5); (try clear o9); (try clear p0); (try clear p3); (try clear p4); (try clear p5); (try clear p6); (try clear p7); (try clear p8); (try clear q9); (try clear r0); (try clear r1); (try clear h9); (try clear i0); (try clear i1); (try clear i2); (try clear i3); (try clear i4); (try clear i5); (try clear i6); (try clear j6); (try clear j7); (try clear j8); (try clear j9); (try clear k0); (try clear k2); (try clear k4); (try clear f5); (try clear f6); (try clear f7); (try clear f8); (try clear f9); (try clear g0); (try clear g1); (try clear g2); (try clear h0); (try clear h1); (try clear h2); (try clear h3); (try clear h4); (try clear h5); (try clear h6); (try clear l8); (try clear l9); (try clear m0); (try clear m4); (try clear m5); (try clear m6); (try clear n5); (try clear n6); (try clear n7); (try clear n8); (try clear n9); (try clear o0); (try clear o1); (try clear o2); (try clear o6); (try clear o7); (try clear o8); (try clear p9); (try clear q0); (try clear q2); (try clear q3); (try clear q5); (try clear q6); (try clear q7); (try clear q8); (try clear r2); (try clear r3); (try clear r4); (try clear i7); (try clear i8); (try clear i9); (try clear j0); (try clear j2); (try clear j3); (try clear j4); (try clear j5); (try clear k5); (try clear k6); (try clear k7); (try clear k8); (try clear k9); (try clear l2); (try clear l3); (try clear d6); (try clear d7); (try clear d8); (try clear p103); (try clear p2); (try clear q103); obtain ⟨kq, h7, rfl, HA, HJ16, b3, b0, b4, HB⟩ := hcut
        cases kq with
        | zero => exact absurd HA.out (by simp [impl_filesOk.j1])
        | succ kj16 =>
         have H := HA.out; clear HA
         simp only [impl_filesOk.j1] at H
         by_cases c39 : h7 = true
         ·
          subst c39
          rw [if_pos rfl] at H
          obtain rfl := Option.some.inj H
          go_wp2
          go_ret
          exact ⟨by first | rfl | (simp [*, errW_none, errW_some] <;> rfl), by repeat (with_reducible first | exact HB.out | apply yaf | apply yac | apply yag | refine yah ?_ (Aside0.out ‹_›))⟩
         ·
          replace c39 := Bool.eq_false_iff.mpr c39
          subst c39
          rw [if_neg (show ¬ (false = true) by decide)] at H
          by_cases c40 : 0 ≤ b1
          ·
           rw [if_pos c40] at H
           have v1 := eq_true c40; have v2 : decide (0 ≤ b1) = true := decide_eq_true c40; clear c40
           by_cases c41 : b1 ≤ (l1_5.length : Int)
           ·
            rw [if_pos c41] at H
            have v3 := eq_true c41; have v4 : decide (b1 ≤ (l1_5.length : Int)) = true := decide_eq_true c41; clear c41; obtain ⟨y107, hy107⟩ : ∃ y_ : List (S156), y_ = (l1_5.take (b1 : Int).toNat) := ⟨_, rfl⟩
            replace H : (impl_filesOk.l1 kj16 l1_5 (l1_5.length : Int) b1 y107 (y107.length : Int) 0 a1_0 a1_1 a1_2 a1_3 l1_4 l1_5 l1_6 l1_7 ((yae l1_5 b1).f0) ((yae l1_5 b1).f1) ((yae l1_5 b1).f2)) = some r := by first | (rw [hy107]; with_reducible exact H) | (have H2_ := (Option.bind_some _ _).symm.trans H; rw [hy107]; with_reducible exact H2_) | (have H2_ := (Option.bind_some _ _).symm.trans H; with_reducible exact H2_) | with_reducible exact H | (rw [hy107]; exact H) | exact H
            have Ny107 := yaa hy107; clear hy107; have H' := yaa H; clear H; have C6 := c0.out; have C7 := b8.out; have C8 := b5.out; have C9 := b9.out; have s3 : wc.cell? ⟨b2, 0, none⟩ = some (.int .i64 a1_0) := (yad b0.out 0).trans rfl; have s4 : wc.cell? ⟨b2, 1, none⟩ = some (.int .i64 a1_1) := (yad b0.out 1).trans rfl; have s5 : wc.cell? ⟨b2, 2, none⟩ = some (.int .i64 a1_2) := (yad b0.out 2).trans rfl; have s6 : wc.cell? ⟨b2, 3, none⟩ = some (.int .i64 a1_3) := (yad b0.out 3).trans rfl; have s7 : wc.cell? ⟨b2, 4, none⟩ = some (.slice A1_4 l1_4.length c1_4) := (yad b0.out 4).trans rfl; have s8 : wc.cell? ⟨b2, 5, none⟩ = some (.slice (some ad103) l1_5.length c1_5) := (yad b0.out 5).trans rfl; have s9 : wc.cell? ⟨b2, 6, none⟩ = some (.slice A1_6 l1_6.length c1_6) := (yad b0.out 6).trans rfl; have t0 : wc.cell? ⟨b2, 7, none⟩ = some (.slice A1_7 l1_7.length c1_7) := (yad b0.out 7).trans rfl; have t1 := yab b0.out 0; have t2 := yab b0.out 1; have t3 := yab b0.out 2; have t4 := yab b0.out 3; have t5 := yab b0.out 4; have t6 := yab b0.out 5; have t7 := yab b0.out 6; have t8 := yab b0.out 7
            have q45 : (b1 : Int) ≤ ((l1_5.length : Int) : Int) := of_decide_eq_true (by first | (with_reducible assumption) | assumption)
            obtain ⟨i045, hi045, _, v5, _⟩ := info_parts info156; have hroom45 : l1_5.length ≤ c1_5 := HC1_5.out; have hC45 : Kd.C k156 _ (some ad103) l1_5.length l1_5 := HR1_5.out
            have hcut45 := cut_to (P := Try.prog) 59 156 .i64 Try.underlying59 hi045 (some ad103) l1_5.length c1_5 b1 (of_decide_eq_true (by first | (with_reducible assumption) | assumption)) q45 hroom45
            have hr45 := Kd.C_take (m := (b1 : Int).toNat) hC45 (by omega); have hy45 : y107.length = (b1 : Int).toNat := (by rw [Ny107.out, List.length_take]; omega)
            rw [← Ny107.out] at hr45
            rw [← hy45] at hcut45
            have HR110 := yaa hr45; have HC110 := yaa (show y107.length ≤ c1_5 from by omega); clear hr45 hC45 hroom45 hi045 v5; have KY45 := yaa hy45; clear hy45; replace q45 := eq_true q45
            go_wp2
            (try simp only [Act.put, List.setIfInBounds_toArray, List.set_cons_zero, List.set_cons_succ])
            go_loopg [46] kj16 (fun kq v46 w' => ∃ (b7 : Int), v46 = .int .i64 b7 ∧ Aside0 (impl_filesOk.l1 kq l1_5 (l1_5.length : Int) b1 y107 (y107.length : Int) b7 a1_0 a1_1 a1_2 a1_3 l1_4 l1_5 l1_6 l1_7 ((yae l1_5 b1).f0) ((yae l1_5 b1).f1) ((yae l1_5 b1).f2) = some r) ∧ Aside0 (kq ≤ kj16) ∧ Aside0 (w'.heap[d5]? = some (.cells #[(.slice A0_0 l0_0.length c0_0), .int .i64 a0_1, .int .i64 a0_2, .int .i64 a0_3, .int .i64 a0_4, .int .i64 a0_5, .int .i64 a0_6] 24 (0, 0))) ∧ Aside0 (w'.heap[b2]? = some (.cells #[.int .i64 a1_0, .int .i64 a1_1, .int .i64 a1_2, .int .i64 a1_3, (.slice A1_4 l1_4.length c1_4), (.slice (some ad103) l1_5.length c1_5), (.slice A1_6 l1_6.length c1_6), (.slice A1_7 l1_7.length c1_7)] 63 (0, 0))) ∧ Aside0 (w'.heap[e3]? = some (.cells #[.string ((yae l1_5 b1).f0), .int .i64 ((yae l1_5 b1).f1), (.slice r8 ((yae l1_5 b1).f2).length r9)] 156 (0, 0))) ∧ Aside0 (Below w.heap.size w w'))
            case atStart => exact ⟨(0), (by first | rfl | (simp; done) | (simp [*]; done)), H', ⟨Nat.le_refl _⟩, ⟨by exact upB b3.out⟩, ⟨by exact upB b0.out⟩, ⟨by exact upB b4.out⟩, ⟨by repeat (with_reducible first | exact HB.out | apply yaf | apply yac | apply yag | refine yah ?_ (Aside0.out ‹_›))⟩⟩
            case round =>
             clear H'; (try clear c1); (try clear p1); (try clear q1); (try clear hx1); (try clear c2); (try clear p2); (try clear c3); (try clear s1); (try clear c4); (try clear q4); (try clear c6); (try clear c7); (try clear c8); (try clear c10); (try clear p10); (try clear q10); (try clear hx10); (try clear c11); (try clear c14); (try clear r7); (try clear c15); (try clear t9); (try clear c16); (try clear u0); (try clear c19); (try clear c20); (try clear c23); (try clear c25); (try clear c26); (try clear c27); (try clear c29); (try clear c31); (try clear c32); (try clear c34); (try clear c36); (try clear c37); (try clear c39); (try clear c40); (try clear v1); (try clear v2); (try clear c41); (try clear v3); (try clear v4); (try clear c42); (try clear c43); (try clear q45); (try clear e4); (try clear e5); (try clear e6); (try clear e7); (try clear e8); (try clear e9); (try clear f3); (try clear f4); (try clear g3); (try clear g4); (try clear g5); (try clear g6); (try clear g7); (try clear g8); (try clear g9); (try clear l5); (try clear l6); (try clear l7); (try clear m1); (try clear m2); (try clear m3); (try clear m7); (try clear m8); (try clear m9); (try clear n0); (try clear n1); (try clear n2); (try clear n3); (try clear n4); (try clear o3); (try clear o4); (try clear o5); (try clear o9); (try clear p0); (try clear p3); (try clear p4); (try clear p5); (try clear p6); (try clear p7); (try clear p8); (try clear q9); (try clear r0); (try clear r1); (try clear s3); (try clear s4); (try clear s5); (try clear s6); (try clear s7); (try clear s8); (try clear s9); (try clear t0); (try clear h9); (try clear i0); (try clear i1); (try clear i2); (try clear i3); (try clear i4); (try clear i5); (try clear i6); (try clear j6); (try clear j7); (try clear j8); (try clear j9); (try clear k0); (try clear k2); (try clear k4); (try clear f5); (try clear f6); (try clear f7); (try clear f8); (try clear f9); (try clear g0); (try clear g1); (try clear g2); (try clear h0); (try clear h1); (try clear h2); (try clear h3); (try clear h4); (try clear h5); (try clear h6); (try clear l8); (try clear l9); (try clear m0); (try clear m4); (try clear m5); (try clear m6); (try clear n5); (try clear n6); (try clear n7); (try clear n8); (try clear n9); (try clear o0); (try clear o1); (try clear o2); (try clear o6); (try clear o7); (try clear o8); (try clear p9); (try clear q0); (try clear q2); (try clear q3); (try clear q5); (try clear q6); (try clear q7); (try clear q8); (try clear r2); (try clear r3); (try clear r4); (try clear t1); (try clear t2); (try clear t3); (try clear t4); (try clear t5); (try clear t6); (try clear t7); (try clear t8); (try clear i7); (try clear i8); (try clear i9); (try clear j0); (try clear j2); (try clear j3); (try clear j4); (try clear j5); (try clear k5); (try clear k6); (try clear k7); (try clear k8); (try clear k9); (try clear l2); (try clear l3); (try clear d6); (try clear d7); (try clear d8); (try clear p1); (try clear p10); (try clear p103); (try clear p2); (try clear q1); (try clear q10); (try clear q103); (try clear q45); obtain ⟨b7, rfl, HA, HK3, b3, b0, b4, HB⟩ := hrel
             cases gk with
             | zero => exact absurd HA.out (by simp [impl_filesOk.l1])
             | succ k3 =>
              have H := HA.out; clear HA
              simp only [impl_filesOk.l1] at H
              by_cases c46 : b7 < (y107.length : Int)
              ·
               rw [if_pos c46] at H
               have v6 : decide (b7 < (y107.length : Int)) = true := decide_eq_true c46; clear c46
               by_cases c47 : 0 ≤ b7
               ·
                rw [if_pos c47] at H
                have D0 : decide (0 ≤ b7) = true := decide_eq_true c47; clear c47
                by_cases c48 : b7 < (y107.length : Int)
                ·
                 rw [if_pos c48] at H
                 have D1 : decide (b7 < (y107.length : Int)) = true := decide_eq_true c48; clear c48
                 by_cases c49 : ((yae l1_5 b1).f0).toList = ((yae y107 b7).f0).toList
                 ·
                  rw [if_pos c49] at H
                  have v7 : (((yae l1_5 b1).f0).toList == ((yae y107 b7).f0).toList) = true := beq_iff_eq.mpr c49; have v8 : (((yae l1_5 b1).f0).toList != ((yae y107 b7).f0).toList) = false := bne_eq_false_iff_eq.mpr c49; clear c49; obtain rfl := Option.some.inj H
                  have p111 : 0 ≤ (b7 : Int) := of_decide_eq_true (by first | (with_reducible assumption) | assumption)
                  have q111 : b7 < (y107.length : Int) := of_decide_eq_true (by first | (with_reducible assumption) | assumption)
                  obtain ⟨ad111, u1, u2, u3, d2, d3, d4, hl111_2, hi111_2⟩ := at_T156 HR110.out b7 p111 q111; obtain rfl : ad103 = ad111 := (by injection u3); replace d2 := (HB.out.cell (World.block_lt_of_cell? w _ d2)).trans d2; replace d3 := (HB.out.cell (World.block_lt_of_cell? w _ d3)).trans d3; replace d4 := (HB.out.cell (World.block_lt_of_cell? w _ d4)).trans d4; have HR111_2 := yaa hi111_2; have HC111_2 := yaa hl111_2; clear hi111_2 hl111_2; replace p111 := eq_true p111; replace q111 := eq_true q111
                  go_wp2_with (first | ((with_reducible refine gate_dst (N := 8) rfl ?_); (try (refine gate_guard (by rfl) ?_; dsimp only)); refine bx_ 8 #[.string (⟨#[]⟩ : ByteArray), .int .i64 0, .slice none 0 0] 156 ?_; intro d9 hg w50 hbox hb; have h8 := yaa (hbox); have s0 := yaa ((by rw [hg]; exact (below_size (by repeat (with_reducible first | exact HB.out | apply yaf | apply yac | apply yag | refine yah ?_ (Aside0.out ‹_›)))) : w.heap.size ≤ d9)); replace HB := yaa (below_step (by repeat (with_reducible first | exact HB.out | apply yaf | apply yac | apply yag | refine yah ?_ (Aside0.out ‹_›))) hb); have v9 := s0; have c9 := yaa ((by rw [hg]; exact Nat.ne_of_lt (blk_lt (upB b3.out)) : d5 ≠ d9)); replace b3 := yaa (blk_below (upB b3.out) hb); have e0 := yaa c9.out.symm; have d0 := yaa ((by rw [hg]; exact Nat.ne_of_lt (blk_lt (upB b0.out)) : b2 ≠ d9)); replace b0 := yaa (blk_below (upB b0.out) hb); have e1 := yaa d0.out.symm; have d1 := yaa ((by rw [hg]; exact Nat.ne_of_lt (blk_lt (upB b4.out)) : e3 ≠ d9)); replace b4 := yaa (blk_below (upB b4.out) hb); have e2 := yaa d1.out.symm; clear hb hbox hg; have D2 := e0.out; have D3 := c9.out; have D4 := e1.out; have D5 := d0.out; have D6 := e2.out; have D7 := d1.out; obtain ⟨w0, w1, w2⟩ := cc3_ h8.out; obtain ⟨w3, w6, w7⟩ := cf3_ h8.out; have D8 := c5.out; have D9 := b6.out; have E0 := b9.out; have E1 := b5.out; obtain ⟨w8, x0, x1⟩ := cc3_ b4.out; obtain ⟨x2, x3⟩ := cf2_ b4.out; have x4 := yab b4.out 2))
                  go_ret
                  exact ⟨by first | rfl | (simp [*, errW_none, errW_some] <;> rfl), by repeat (with_reducible first | exact HB.out | apply yaf | apply yac | apply yag | refine yah ?_ (Aside0.out ‹_›))⟩
                 ·
                  rw [if_neg c49] at H
                  have v7 : (((yae l1_5 b1).f0).toList == ((yae y107 b7).f0).toList) = false := beq_eq_false_iff_ne.mpr c49; have v8 : (((yae l1_5 b1).f0).toList != ((yae y107 b7).f0).toList) = true := bne_iff_ne.mpr c49; have H' := yaa H; clear H
                  have p111 : 0 ≤ (b7 : Int) := of_decide_eq_true (by first | (with_reducible assumption) | assumption)
                  have q111 : b7 < (y107.length : Int) := of_decide_eq_true (by first | (with_reducible assumption) | assumption)
                  obtain ⟨ad111, u1, u2, u3, d2, d3, d4, hl111_2, hi111_2⟩ := at_T156 HR110.out b7 p111 q111; obtain rfl : ad103 = ad111 := (by injection u3); replace d2 := (HB.out.cell (World.block_lt_of_cell? w _ d2)).trans d2; replace d3 := (HB.out.cell (World.block_lt_of_cell? w _ d3)).trans d3; replace d4 := (HB.out.cell (World.block_lt_of_cell? w _ d4)).trans d4; have HR111_2 := yaa hi111_2; have HC111_2 := yaa hl111_2; clear hi111_2 hl111_2; replace p111 := eq_true p111; replace q111 := eq_true q111
                  go_wp2_with (first | ((with_reducible refine gate_dst (N := 8) rfl ?_); (try (refine gate_guard (by rfl) ?_; dsimp only)); refine bx_ 8 #[.string (⟨#[]⟩ : ByteArray), .int .i64 0, .slice none 0 0] 156 ?_; intro d9 hg w58 hbox hb; have h8 := yaa (hbox); have s0 := yaa ((by rw [hg]; exact (below_size (by repeat (with_reducible first | exact HB.out | apply yaf | apply yac | apply yag | refine yah ?_ (Aside0.out ‹_›)))) : w.heap.size ≤ d9)); replace HB := yaa (below_step (by repeat (with_reducible first | exact HB.out | apply yaf | apply yac | apply yag | refine yah ?_ (Aside0.out ‹_›))) hb); have v9 := s0; have c9 := yaa ((by rw [hg]; exact Nat.ne_of_lt (blk_lt (upB b3.out)) : d5 ≠ d9)); replace b3 := yaa (blk_below (upB b3.out) hb); have e0 := yaa c9.out.symm; have d0 := yaa ((by rw [hg]; exact Nat.ne_of_lt (blk_lt (upB b0.out)) : b2 ≠ d9)); replace b0 := yaa (blk_below (upB b0.out) hb); have e1 := yaa d0.out.symm; have d1 := yaa ((by rw [hg]; exact Nat.ne_of_lt (blk_lt (upB b4.out)) : e3 ≠ d9)); replace b4 := yaa (blk_below (upB b4.out) hb); have e2 := yaa d1.out.symm; clear hb hbox hg; have E2 := e0.out; have E3 := c9.out; have E4 := e1.out; have E5 := d0.out; have E6 := e2.out; have E7 := d1.out; obtain ⟨x6, x7, x8⟩ := cc3_ h8.out; obtain ⟨x9, z0, z1⟩ := cf3_ h8.out; have E8 := c5.out; have E9 := b6.out; have F0 := b9.out; have F1 := b5.out; obtain ⟨z2, z3, z4⟩ := cc3_ b4.out; obtain ⟨z5, z6⟩ := cf2_ b4.out; have z7 := yab b4.out 2))
                  go_roundg k3
                  case measure => have := HK1.out; have := HJ16.out; have := HK3.out; omega
                  case rel => exact ⟨(wrap64 (b7 + 1)), (by first | rfl | (simp; done) | (simp [*]; done)), H', ⟨by have := HK1.out; have := HJ16.out; have := HK3.out; omega⟩, ⟨by repeat (with_reducible first | exact b3.out | refine oneB ?_ | refine blk_far ?_ c9.out _)⟩, ⟨by repeat (with_reducible first | exact b0.out | refine oneB ?_ | refine blk_far ?_ d0.out _)⟩, ⟨by repeat (with_reducible first | exact b4.out | refine oneB ?_ | refine blk_far ?_ d1.out _)⟩, ⟨by repeat (with_reducible first | exact HB.out | apply yaf | apply yac | apply yag | refine yah ?_ (Aside0.out ‹_›))⟩⟩
                ·
                 rw [if_neg c48] at H
                 exact absurd H (by simp)
               ·
                rw [if_neg c47] at H
                exact absurd H (by simp)
              ·
               rw [if_neg c46] at H
               have v6 : decide (b7 < (y107.length : Int)) = false := decide_eq_false c46; clear c46; have H' := yaa H; clear H
               go_wp2
               go_roundg k3
               case measure => have := HK1.out; have := HJ16.out; have := HK3.out; omega
               case rel => exact ⟨(wrap64 (b1 + 1)), (by first | rfl | (simp; done) | (simp [*]; done)), H', ⟨by have := HK1.out; have := HJ16.out; have := HK3.out; omega⟩, ⟨by exact upB b3.out⟩, ⟨by exact upB b0.out⟩, ⟨by repeat (with_reducible first | exact HB.out | apply yaf | apply yac | apply yag | refine yah ?_ (Aside0.out ‹_›))⟩⟩
           ·
            rw [if_neg c41] at H
            exact absurd H (by simp)
          ·
           rw [if_neg c40] at H
           exact absurd H (by simp)
      ·
       rw [if_neg c16] at H
       exact absurd H (by simp)
     ·
      rw [if_neg c15] at H
      exact absurd H (by simp)
    ·
     rw [if_neg c14] at H
     have r7 : decide (b1 < (l1_5.length : Int)) = false := decide_eq_false c14; clear c14; obtain rfl := Option.some.inj H
     go_wp2
     go_ret
     exact ⟨by first | rfl | (simp [*, errW_none, errW_some] <;> rfl), by repeat (with_reducible first | exact HB.out | apply yaf | apply yac | apply yag | refine yah ?_ (Aside0.out ‹_›))⟩

end Go.Proofs.Ytgpkkkmapgnhkaa.X

namespace Go.Proofs.Ytgpkkkmapgnhkaa.X
open Go.RowKit Go.Proofs.YtgpkkkmapgnhkaaW.PrintWords Go.Proofs.YtgpkkkmapgnhkaaW.PrintLast Go.Proofs.YtgpkkkmapgnhkaaW.PrintMore
attribute [local go_sem] max2_int min2_int max_two min_two max_three min_three max_four min_four
set_option linter.unusedVariables false
set_option linter.unusedSimpArgs false

open Go.Proofs.YtgpkkkmapgnhkaaW.PrintWords renaming blk_frozen → yaa
open Go.Proofs.YtgpkkkmapgnhkaaW.PrintWords.Aside0 renaming mk → yab

/-! ### impl_askedOk: function 90 -/
def impl_askedOk.l0 : Nat → List ByteArray → Int → Int → Option (Bool)
 | 0, _, _, _ => none
 | k + 1, x10, x11, x12 => if x12 < x11 then (if 0 ≤ x12 then (if x12 < (x10.length : Int) then ((impl_nameOk.f k (rdOf ByteArray.empty x10 x12)).bind fun t103 => (if t103 = true then (impl_askedOk.l0 k x10 x11 (wrap64 (x12 + 1))) else (some false))) else (none)) else (none)) else (some true)
def impl_askedOk.f (k : Nat) (a0_0 : Int) (a0_1 : Int) (a0_2 : Int) (a0_3 : Int) (l0_4 : List (S124)) (l0_5 : List (S156)) (l0_6 : List ByteArray) (l0_7 : List (S158)) : Option (Bool) := if (l0_6.length : Int) > 60 then (some false) else (impl_askedOk.l0 k l0_6 (l0_6.length : Int) 0)
set_option maxHeartbeats 8000000 in
set_option maxRecDepth 100000 in
theorem impl_askedOk.calls (k : Nat) (a0_0 : Int) (a0_1 : Int) (a0_2 : Int) (a0_3 : Int) (A0_4 : Option Addr) (c0_4 : Nat) (l0_4 : List (S124)) (A0_5 : Option Addr) (c0_5 : Nat) (l0_5 : List (S156)) (A0_6 : Option Addr) (c0_6 : Nat) (l0_6 : List ByteArray) (A0_7 : Option Addr) (c0_7 : Nat) (l0_7 : List (S158)) (r : Bool) (w : World) (hr0_4 : Kd.C k124 w A0_4 l0_4.length l0_4) (hc0_4 : l0_4.length ≤ c0_4) (hr0_5 : Kd.C k156 w A0_5 l0_5.length l0_5) (hc0_5 : l0_5.length ≤ c0_5) (hr0_6 : Kd.C Kd.string w A0_6 l0_6.length l0_6) (hc0_6 : l0_6.length ≤ c0_6) (hr0_7 : Kd.C k158 w A0_7 l0_7.length l0_7) (hc0_7 : l0_7.length ≤ c0_7) (h : impl_askedOk.f k a0_0 a0_1 a0_2 a0_3 l0_4 l0_5 l0_6 l0_7 = some r) :
  Calls Try.prog 90 #[.agg #[.int .i64 a0_0, .int .i64 a0_1, .int .i64 a0_2, .int .i64 a0_3, .slice A0_4 l0_4.length c0_4, .slice A0_5 l0_5.length c0_5, .slice A0_6 l0_6.length c0_6, .slice A0_7 l0_7.length c0_7]] w fun e w' => e = .returned (.bool r) ∧ Below w.heap.size w w' := by
 have hu63 := Try.underlying63; have HR0_4 := yab hr0_4; have HC0_4 := yab hc0_4; clear hr0_4 hc0_4; have HR0_5 := yab hr0_5; have HC0_5 := yab hc0_5; clear hr0_5 hc0_5; have HR0_6 := yab hr0_6; have HC0_6 := yab hc0_6; clear hr0_6 hc0_6; have HR0_7 := yab hr0_7; have HC0_7 := yab hc0_7; clear hr0_7 hc0_7; have HB := yab (Below.refl w.heap.size w); have H : (if (l0_6.length : Int) > 60 then (some false) else (impl_askedOk.l0 k l0_6 (l0_6.length : Int) 0)) = some r := h; clear h
 by_cases c2 : (l0_6.length : Int) > 60
 ·
  rw [if_pos c2] at H
  have f0 : decide (60 < (l0_6.length : Int)) = true := decide_eq_true c2; have f1 : decide (60 < l0_6.length) = true := decide_eq_true (by omega); clear c2; obtain rfl := Option.some.inj H
  go_enter Try.func90, Try.ntmps90
  go_wp2_with (first | ((with_reducible refine gate_dst (N := 1) rfl ?_); refine bx_ 1 #[.int .i64 a0_0, .int .i64 a0_1, .int .i64 a0_2, .int .i64 a0_3, .slice A0_4 l0_4.length c0_4, .slice A0_5 l0_5.length c0_5, .slice A0_6 l0_6.length c0_6, .slice A0_7 l0_7.length c0_7] 63 ?_; intro b0 hg w3 hbox hb; have a8 := yab (hbox); have b2 := yab ((by rw [hg]; exact (below_size (upH HB.out)) : w.heap.size ≤ b0)); replace HB := yab (below_step (upH HB.out) hb); have f2 := b2; clear hb hbox hg; have b3 : w3.cell? ⟨b0, 0, none⟩ = some (.int .i64 a0_0) := (blk_cell a8.out 0).trans rfl; have b4 : w3.cell? ⟨b0, 1, none⟩ = some (.int .i64 a0_1) := (blk_cell a8.out 1).trans rfl; have b5 : w3.cell? ⟨b0, 2, none⟩ = some (.int .i64 a0_2) := (blk_cell a8.out 2).trans rfl; have b6 : w3.cell? ⟨b0, 3, none⟩ = some (.int .i64 a0_3) := (blk_cell a8.out 3).trans rfl; have b7 : w3.cell? ⟨b0, 4, none⟩ = some (.slice A0_4 l0_4.length c0_4) := (blk_cell a8.out 4).trans rfl; have b8 : w3.cell? ⟨b0, 5, none⟩ = some (.slice A0_5 l0_5.length c0_5) := (blk_cell a8.out 5).trans rfl; have b9 : w3.cell? ⟨b0, 6, none⟩ = some (.slice A0_6 l0_6.length c0_6) := (blk_cell a8.out 6).trans rfl; have c0 : w3.cell? ⟨b0, 7, none⟩ = some (.slice A0_7 l0_7.length c0_7) := (blk_cell a8.out 7).trans rfl; have c1 := yaa a8.out 0; have c3 := yaa a8.out 1; have c4 := yaa a8.out 2; have c5 := yaa a8.out 3; have c6 := yaa a8.out 4; have d0 := yaa a8.out 5; have d1 := yaa a8.out 6; have d2 := yaa a8.out 7))
  go_ret
  exact ⟨by first | rfl | (simp [*, errW_none, errW_some] <;> rfl), by repeat (with_reducible first | exact HB.out | apply below_alloc | apply pw_below_drewN | apply below_drew1 | refine below_set ?_ (Aside0.out ‹_›))⟩
 ·
  rw [if_neg c2] at H
  have f0 : decide (60 < (l0_6.length : Int)) = false := decide_eq_false c2; have f1 : decide (60 < l0_6.length) = false := decide_eq_false (by omega); clear c2; have H' := yab H; clear H
  go_enter Try.func90, Try.ntmps90
  go_wp2_with (first | ((with_reducible refine gate_dst (N := 1) rfl ?_); refine bx_ 1 #[.int .i64 a0_0, .int .i64 a0_1, .int .i64 a0_2, .int .i64 a0_3, .slice A0_4 l0_4.length c0_4, .slice A0_5 l0_5.length c0_5, .slice A0_6 l0_6.length c0_6, .slice A0_7 l0_7.length c0_7] 63 ?_; intro b0 hg w5 hbox hb; have a8 := yab (hbox); have b2 := yab ((by rw [hg]; exact (below_size (upH HB.out)) : w.heap.size ≤ b0)); replace HB := yab (below_step (upH HB.out) hb); have f2 := b2; clear hb hbox hg; have d3 : w5.cell? ⟨b0, 0, none⟩ = some (.int .i64 a0_0) := (blk_cell a8.out 0).trans rfl; have d4 : w5.cell? ⟨b0, 1, none⟩ = some (.int .i64 a0_1) := (blk_cell a8.out 1).trans rfl; have d5 : w5.cell? ⟨b0, 2, none⟩ = some (.int .i64 a0_2) := (blk_cell a8.out 2).trans rfl; have d6 : w5.cell? ⟨b0, 3, none⟩ = some (.int .i64 a0_3) := (blk_cell a8.out 3).trans rfl; have d7 : w5.cell? ⟨b0, 4, none⟩ = some (.slice A0_4 l0_4.length c0_4) := (blk_cell a8.out 4).trans rfl; have d8 : w5.cell? ⟨b0, 5, none⟩ = some (.slice A0_5 l0_5.length c0_5) := (blk_cell a8.out 5).trans rfl; have d9 : w5.cell? ⟨b0, 6, none⟩ = some (.slice A0_6 l0_6.length c0_6) := (blk_cell a8.out 6).trans rfl; have e0 : w5.cell? ⟨b0, 7, none⟩ = some (.slice A0_7 l0_7.length c0_7) := (blk_cell a8.out 7).trans rfl; have e1 := yaa a8.out 0; have e2 := yaa a8.out 1; have e3 := yaa a8.out 2; have e4 := yaa a8.out 3; have e5 := yaa a8.out 4; have e6 := yaa a8.out 5; have e7 := yaa a8.out 6; have e8 := yaa a8.out 7))
  (try simp only [Act.put, List.setIfInBounds_toArray, List.set_cons_zero, List.set_cons_succ])
  go_loopg [12] k (fun kq v12 w' => ∃ (a9 : Int), v12 = .int .i64 a9 ∧ Aside0 (impl_askedOk.l0 kq l0_6 (l0_6.length : Int) a9 = some r) ∧ Aside0 (kq ≤ k) ∧ Aside0 (w'.heap[b0]? = some (.cells #[.int .i64 a0_0, .int .i64 a0_1, .int .i64 a0_2, .int .i64 a0_3, (.slice A0_4 l0_4.length c0_4), (.slice A0_5 l0_5.length c0_5), (.slice A0_6 l0_6.length c0_6), (.slice A0_7 l0_7.length c0_7)] 63 (0, 0))) ∧ Aside0 (Below w.heap.size w w'))
  case atStart => exact ⟨(0), (by first | rfl | (simp; done) | (simp [*]; done)), H', ⟨Nat.le_refl _⟩, ⟨by exact upB a8.out⟩, ⟨by repeat (with_reducible first | exact HB.out | apply below_alloc | apply pw_below_drewN | apply below_drew1 | refine below_set ?_ (Aside0.out ‹_›))⟩⟩
  case round =>
   clear H'; (try clear c2); (try clear f0); (try clear f1); (try clear p2); (try clear b3); (try clear b4); (try clear b5); (try clear b6); (try clear b7); (try clear b8); (try clear b9); (try clear c0); (try clear d3); (try clear d4); (try clear d5); (try clear d6); (try clear d7); (try clear d8); (try clear d9); (try clear e0); (try clear c1); (try clear c3); (try clear c4); (try clear c5); (try clear c6); (try clear d0); (try clear d1); (try clear d2); (try clear e1); (try clear e2); (try clear e3); (try clear e4); (try clear e5); (try clear e6); (try clear e7); (try clear e8); obtain ⟨a9, rfl, HA, HK1, a8, HB⟩ := hrel
   cases gk with
   | zero => exact absurd HA.out (by simp [impl_askedOk.l0])
   | succ k1 =>
    have H := HA.out; clear HA
    simp only [impl_askedOk.l0] at H
    by_cases c7 : a9 < (l0_6.length : Int)
    ·
     rw [if_pos c7] at H
     have f4 : decide (a9 < (l0_6.length : Int)) = true := decide_eq_true c7; clear c7
     by_cases c8 : 0 ≤ a9
     ·
      rw [if_pos c8] at H
      have f6 : decide (0 ≤ a9) = true := decide_eq_true c8; clear c8
      by_cases c9 : a9 < (l0_6.length : Int)
      ·
       rw [if_pos c9] at H
       have f7 : decide (a9 < (l0_6.length : Int)) = true := decide_eq_true c9; clear c9; replace H := Option.bind_eq_some_iff.mp H; obtain ⟨f5, f3, H⟩ := H; (try dsimp only at H); have A10 := yab f3; clear f3
       by_cases c11 : f5 = true
       ·
        subst c11
        rw [if_pos rfl] at H
        have H' := yab H; clear H
        have p102 : 0 ≤ (a9 : Int) := of_decide_eq_true (by first | (with_reducible assumption) | assumption)
        have q102 : a9 < (l0_6.length : Int) := of_decide_eq_true (by first | (with_reducible assumption) | assumption)
        obtain ⟨ad102, e9, b1⟩ := Kd.at_string HR0_6.out a9 p102 q102
        cases e9
        replace b1 := (HB.out.cell (World.block_lt_of_cell? w _ b1)).trans b1; replace p102 := eq_true p102; replace q102 := eq_true q102
        go_wp2_with (first | ((with_reducible refine gate_callee (f := 73) rfl ?_); refine gl_ (some 17) rfl Try.func73 #[.string (rdOf ByteArray.empty l0_6 a9)] ?_; (with_reducible refine (impl_nameOk.calls k1 (rdOf ByteArray.empty l0_6 a9) true _ A10.out).mono ?_); rintro e w' ⟨rfl, ⟨nd, rfl⟩⟩; refine ⟨_, rfl, ?_⟩))
        go_roundg k1
        case measure => have := HK1.out; omega
        case rel => exact ⟨(wrap64 (a9 + 1)), (by first | rfl | (simp; done) | (simp [*]; done)), H', ⟨by have := HK1.out; omega⟩, ⟨by exact upB a8.out⟩, ⟨by repeat (with_reducible first | exact HB.out | apply below_alloc | apply pw_below_drewN | apply below_drew1 | refine below_set ?_ (Aside0.out ‹_›))⟩⟩
       ·
        replace c11 := Bool.eq_false_iff.mpr c11
        subst c11
        rw [if_neg (show ¬ (false = true) by decide)] at H
        obtain rfl := Option.some.inj H
        have p102 : 0 ≤ (a9 : Int) := of_decide_eq_true (by first | (with_reducible assumption) | assumption)
        have q102 : a9 < (l0_6.length : Int) := of_decide_eq_true (by first | (with_reducible assumption) | assumption)
        obtain ⟨ad102, e9, b1⟩ := Kd.at_string HR0_6.out a9 p102 q102
        cases e9
        replace b1 := (HB.out.cell (World.block_lt_of_cell? w _ b1)).trans b1; replace p102 := eq_true p102; replace q102 := eq_true q102
        go_wp2_with (first | ((with_reducible refine gate_callee (f := 73) rfl ?_); refine gl_ (some 17) rfl Try.func73 #[.string (rdOf ByteArray.empty l0_6 a9)] ?_; (with_reducible refine (impl_nameOk.calls k1 (rdOf ByteArray.empty l0_6 a9) false _ A10.out).mono ?_); rintro e w' ⟨rfl, ⟨nd, rfl⟩⟩; refine ⟨_, rfl, ?_⟩))
        go_ret
        exact ⟨by first | rfl | (simp [*, errW_none, errW_some] <;> rfl), by repeat (with_reducible first | exact HB.out | apply below_alloc | apply pw_below_drewN | apply below_drew1 | refine below_set ?_ (Aside0.out ‹_›))⟩
      ·
       rw [if_neg c9] at H
       exact absurd H (by simp)
     ·
      rw [if_neg c8] at H
      exact absurd H (by simp)
    ·
     rw [if_neg c7] at H
     have f4 : decide (a9 < (l0_6.length : Int)) = false := decide_eq_false c7; clear c7; obtain rfl := Option.some.inj H
     go_wp2
     go_ret
     exact ⟨by first | rfl | (simp [*, errW_none, errW_some] <;> rfl), by repeat (with_reducible first | exact HB.out | apply below_alloc | apply pw_below_drewN | apply below_drew1 | refine below_set ?_ (Aside0.out ‹_›))⟩

end Go.Proofs.Ytgpkkkmapgnhkaa.X

namespace Go.Proofs.Ytgpkkkmapgnhkaa.X
open Go.RowKit Go.Proofs.YtgpkkkmapgnhkaaW.PrintWords Go.Proofs.YtgpkkkmapgnhkaaW.PrintLast Go.Proofs.YtgpkkkmapgnhkaaW.PrintMore
attribute [local go_sem] max2_int min2_int max_two min_two max_three min_three max_four min_four
set_option linter.unusedVariables false
set_option linter.unusedSimpArgs false

/-! ### impl_codeOk: function 129 -/
def impl_codeOk.f (a0 : Int) : Option (Bool) := if a0 = 200 then (some true) else (if a0 = 400 then (some true) else (if a0 = 403 then (some true) else (if a0 = 413 then (some true) else (if a0 = 415 then (some true) else (if a0 = 422 then (some true) else (if a0 = 429 then (some true) else (if a0 = 502 then (some true) else (if a0 = 503 then (some true) else (if a0 = 504 then (some true) else (some false))))))))))
set_option maxHeartbeats 8000000 in
set_option maxRecDepth 100000 in
theorem impl_codeOk.calls (a0 : Int) (r : Bool) (w : World) (h : impl_codeOk.f a0 = some r) :
  Calls Try.prog 129 #[.int .i64 a0] w fun e w' => e = .returned (.bool r) ∧ Drawn0 w w' := by
 have H : (if a0 = 200 then (some true) else (if a0 = 400 then (some true) else (if a0 = 403 then (some true) else (if a0 = 413 then (some true) else (if a0 = 415 then (some true) else (if a0 = 422 then (some true) else (if a0 = 429 then (some true) else (if a0 = 502 then (some true) else (if a0 = 503 then (some true) else (if a0 = 504 then (some true) else (some false))))))))))) = some r := h; clear h
 by_cases c2 : a0 = 200
 ·
  rw [if_pos c2] at H
  have a5 : (a0 == 200) = true := beq_iff_eq.mpr c2; have a6 : (a0 != 200) = false := bne_eq_false_iff_eq.mpr c2; clear c2; obtain rfl := Option.some.inj H
  go_enter Try.func129, Try.ntmps129
  go_wp2
  go_ret
  exact ⟨by first | rfl | (simp; done) | (simp [*]; done), by repeat (first | exact Drawn0.refl _ | apply Drawn0.step)⟩
 ·
  rw [if_neg c2] at H
  have a5 : (a0 == 200) = false := beq_eq_false_iff_ne.mpr c2; have a6 : (a0 != 200) = true := bne_iff_ne.mpr c2
  by_cases c3 : a0 = 400
  ·
   rw [if_pos c3] at H
   have a7 : (a0 == 400) = true := beq_iff_eq.mpr c3; have a8 : (a0 != 400) = false := bne_eq_false_iff_eq.mpr c3; clear c3; obtain rfl := Option.some.inj H
   go_enter Try.func129, Try.ntmps129
   go_wp2
   go_ret
   exact ⟨by first | rfl | (simp; done) | (simp [*]; done), by repeat (first | exact Drawn0.refl _ | apply Drawn0.step)⟩
  ·
   rw [if_neg c3] at H
   have a7 : (a0 == 400) = false := beq_eq_false_iff_ne.mpr c3; have a8 : (a0 != 400) = true := bne_iff_ne.mpr c3
   by_cases c4 : a0 = 403
   ·
    rw [if_pos c4] at H
    have a9 : (a0 == 403) = true := beq_iff_eq.mpr c4; have b0 : (a0 != 403) = false := bne_eq_false_iff_eq.mpr c4; clear c4; obtain rfl := Option.some.inj H
    go_enter Try.func129, Try.ntmps129
    go_wp2
    go_ret
    exact ⟨by first | rfl | (simp; done) | (simp [*]; done), by repeat (first | exact Drawn0.refl _ | apply Drawn0.step)⟩
   ·
    rw [if_neg c4] at H
    have a9 : (a0 == 403) = false := beq_eq_false_iff_ne.mpr c4; have b0 : (a0 != 403) = true := bne_iff_ne.mpr c4
    by_cases c5 : a0 = 413
    ·
     rw [if_pos c5] at H
     have b1 : (a0 == 413) = true := beq_iff_eq.mpr c5; have b2 : (a0 != 413) = false := bne_eq_false_iff_eq.mpr c5; clear c5; obtain rfl := Option.some.inj H
     go_enter Try.func129, Try.ntmps129
     go_wp2
     go_ret
     exact ⟨by first | rfl | (simp; done) | (simp [*]; done), by repeat (first | exact Drawn0.refl _ | apply Drawn0.step)⟩
    ·
     rw [if_neg c5] at H
     have b1 : (a0 == 413) = false := beq_eq_false_iff_ne.mpr c5; have b2 : (a0 != 413) = true := bne_iff_ne.mpr c5
     by_cases c6 : a0 = 415
     ·
      rw [if_pos c6] at H
      have b3 : (a0 == 415) = true := beq_iff_eq.mpr c6; have b4 : (a0 != 415) = false := bne_eq_false_iff_eq.mpr c6; clear c6; obtain rfl := Option.some.inj H
      go_enter Try.func129, Try.ntmps129
      go_wp2
      go_ret
      exact ⟨by first | rfl | (simp; done) | (simp [*]; done), by repeat (first | exact Drawn0.refl _ | apply Drawn0.step)⟩
     ·
      rw [if_neg c6] at H
      have b3 : (a0 == 415) = false := beq_eq_false_iff_ne.mpr c6; have b4 : (a0 != 415) = true := bne_iff_ne.mpr c6
      by_cases c7 : a0 = 422
      ·
       rw [if_pos c7] at H
       have b5 : (a0 == 422) = true := beq_iff_eq.mpr c7; have b6 : (a0 != 422) = false := bne_eq_false_iff_eq.mpr c7; clear c7; obtain rfl := Option.some.inj H
       go_enter Try.func129, Try.ntmps129
       go_wp2
       go_ret
       exact ⟨by first | rfl | (simp; done) | (simp [*]; done), by repeat (first | exact Drawn0.refl _ | apply Drawn0.step)⟩
      ·
       rw [if_neg c7] at H
       have b5 : (a0 == 422) = false := beq_eq_false_iff_ne.mpr c7; have b6 : (a0 != 422) = true := bne_iff_ne.mpr c7
       by_cases c8 : a0 = 429
       ·
        rw [if_pos c8] at H
        have b7 : (a0 == 429) = true := beq_iff_eq.mpr c8; have b8 : (a0 != 429) = false := bne_eq_false_iff_eq.mpr c8; clear c8; obtain rfl := Option.some.inj H
        go_enter Try.func129, Try.ntmps129
        go_wp2
        go_ret
        exact ⟨by first | rfl | (simp; done) | (simp [*]; done), by repeat (first | exact Drawn0.refl _ | apply Drawn0.step)⟩
       ·
        rw [if_neg c8] at H
        have b7 : (a0 == 429) = false := beq_eq_false_iff_ne.mpr c8; have b8 : (a0 != 429) = true := bne_iff_ne.mpr c8
        by_cases c9 : a0 = 502
        ·
         rw [if_pos c9] at H
         have b9 : (a0 == 502) = true := beq_iff_eq.mpr c9; have c0 : (a0 != 502) = false := bne_eq_false_iff_eq.mpr c9; clear c9; obtain rfl := Option.some.inj H
         go_enter Try.func129, Try.ntmps129
         go_wp2
         go_ret
         exact ⟨by first | rfl | (simp; done) | (simp [*]; done), by repeat (first | exact Drawn0.refl _ | apply Drawn0.step)⟩
        ·
         rw [if_neg c9] at H
         have b9 : (a0 == 502) = false := beq_eq_false_iff_ne.mpr c9; have c0 : (a0 != 502) = true := bne_iff_ne.mpr c9
         by_cases c10 : a0 = 503
         ·
          rw [if_pos c10] at H
          have a1 : (a0 == 503) = true := beq_iff_eq.mpr c10; have a2 : (a0 != 503) = false := bne_eq_false_iff_eq.mpr c10; clear c10; obtain rfl := Option.some.inj H
          go_enter Try.func129, Try.ntmps129
          go_wp2
          go_ret
          exact ⟨by first | rfl | (simp; done) | (simp [*]; done), by repeat (first | exact Drawn0.refl _ | apply Drawn0.step)⟩
         ·
          rw [if_neg c10] at H
          have a1 : (a0 == 503) = false := beq_eq_false_iff_ne.mpr c10; have a2 : (a0 != 503) = true := bne_iff_ne.mpr c10
          by_cases c11 : a0 = 504
          ·
           rw [if_pos c11] at H
           have a3 : (a0 == 504) = true := beq_iff_eq.mpr c11; have a4 : (a0 != 504) = false := bne_eq_false_iff_eq.mpr c11; clear c11; obtain rfl := Option.some.inj H
           go_enter Try.func129, Try.ntmps129
           go_wp2
           go_ret
           exact ⟨by first | rfl | (simp; done) | (simp [*]; done), by repeat (first | exact Drawn0.refl _ | apply Drawn0.step)⟩
          ·
           rw [if_neg c11] at H
           have a3 : (a0 == 504) = false := beq_eq_false_iff_ne.mpr c11; have a4 : (a0 != 504) = true := bne_iff_ne.mpr c11; obtain rfl := Option.some.inj H
           go_enter Try.func129, Try.ntmps129
           go_wp2
           go_ret
           exact ⟨by first | rfl | (simp; done) | (simp [*]; done), by repeat (first | exact Drawn0.refl _ | apply Drawn0.step)⟩

end Go.Proofs.Ytgpkkkmapgnhkaa.X

namespace Go.Proofs.Ytgpkkkmapgnhkaa.X
open Go.RowKit Go.Proofs.YtgpkkkmapgnhkaaW.PrintWords Go.Proofs.YtgpkkkmapgnhkaaW.PrintLast Go.Proofs.YtgpkkkmapgnhkaaW.PrintMore
attribute [local go_sem] max2_int min2_int max_two min_two max_three min_three max_four min_four
set_option linter.unusedVariables false
set_option linter.unusedSimpArgs false

open Go.Proofs.YtgpkkkmapgnhkaaW.PrintWords renaming blk_frozen → yaa, blk_cell → yab, pw_below_drewN → yae
open Go.Proofs.YtgpkkkmapgnhkaaW.PrintWords.Aside0 renaming mk → yac
open Go.Proofs.Ytgpkkkmapgnhkaa.X renaming rd_T158 → yad

/-! ### impl_outsOk: function 91 -/
mutual
def impl_outsOk.l0 : Nat → List (S158) → Int → Int → Int → Int → Int → Int → List (S124) → List (S156) → List ByteArray → List (S158) → Option (Bool)
 | 0, _, _, _, _, _, _, _, _, _, _, _ => none
 | k + 1, x10, x11, x12, x102000, x102001, x102002, x102003, x102004, x102005, x102006, x102007 => if x12 < x11 then (if 0 ≤ x12 then (if x12 < (x10.length : Int) then ((impl_within.f ((rd_T158 x10 x12).f0) 0 (wrap64 (x102003 - 1))).bind fun t104 => (if t104 = true then ((impl_codeOk.f ((rd_T158 x10 x12).f1)).bind fun t105 => (if t105 = true then (impl_outsOk.j1 k x10 x11 x12 (decide ((((rd_T158 x10 x12).f2).length : Int) > 220)) x102000 x102001 x102002 x102003 x102004 x102005 x102006 x102007 ((rd_T158 x10 x12).f0) ((rd_T158 x10 x12).f1) ((rd_T158 x10 x12).f2)) else (impl_outsOk.j1 k x10 x11 x12 true x102000 x102001 x102002 x102003 x102004 x102005 x102006 x102007 ((rd_T158 x10 x12).f0) ((rd_T158 x10 x12).f1) ((rd_T158 x10 x12).f2)))) else (impl_outsOk.j1 k x10 x11 x12 true x102000 x102001 x102002 x102003 x102004 x102005 x102006 x102007 ((rd_T158 x10 x12).f0) ((rd_T158 x10 x12).f1) ((rd_T158 x10 x12).f2)))) else (none)) else (none)) else (some true)
def impl_outsOk.j1 : Nat → List (S158) → Int → Int → Bool → Int → Int → Int → Int → List (S124) → List (S156) → List ByteArray → List (S158) → Int → Int → List Int → Option (Bool)
 | 0, _, _, _, _, _, _, _, _, _, _, _, _, _, _, _ => none
 | k + 1, x10, x11, x12, x34, x102000, x102001, x102002, x102003, x102004, x102005, x102006, x102007, x104000, x104001, x104002 => if x34 = true then (some false) else (if ((decide ((x104002.length : Int) > 0)) != (x104001 == 200)) = true then (some false) else (impl_outsOk.l0 k x10 x11 (wrap64 (x12 + 1)) x102000 x102001 x102002 x102003 x102004 x102005 x102006 x102007))
end
def impl_outsOk.f (k : Nat) (a0_0 : Int) (a0_1 : Int) (a0_2 : Int) (a0_3 : Int) (l0_4 : List (S124)) (l0_5 : List (S156)) (l0_6 : List ByteArray) (l0_7 : List (S158)) : Option (Bool) := if (l0_7.length : Int) > 60 then (some false) else (impl_outsOk.l0 k l0_7 (l0_7.length : Int) 0 a0_0 a0_1 a0_2 a0_3 l0_4 l0_5 l0_6 l0_7)
set_option maxHeartbeats 8000000 in
set_option maxRecDepth 100000 in
theorem impl_outsOk.calls (k : Nat) (a0_0 : Int) (a0_1 : Int) (a0_2 : Int) (a0_3 : Int) (A0_4 : Option Addr) (c0_4 : Nat) (l0_4 : List (S124)) (A0_5 : Option Addr) (c0_5 : Nat) (l0_5 : List (S156)) (A0_6 : Option Addr) (c0_6 : Nat) (l0_6 : List ByteArray) (A0_7 : Option Addr) (c0_7 : Nat) (l0_7 : List (S158)) (r : Bool) (w : World) (hr0_4 : Kd.C k124 w A0_4 l0_4.length l0_4) (hc0_4 : l0_4.length ≤ c0_4) (hr0_5 : Kd.C k156 w A0_5 l0_5.length l0_5) (hc0_5 : l0_5.length ≤ c0_5) (hr0_6 : Kd.C Kd.string w A0_6 l0_6.length l0_6) (hc0_6 : l0_6.length ≤ c0_6) (hr0_7 : Kd.C k158 w A0_7 l0_7.length l0_7) (hc0_7 : l0_7.length ≤ c0_7) (h : impl_outsOk.f k a0_0 a0_1 a0_2 a0_3 l0_4 l0_5 l0_6 l0_7 = some r) :
  Calls Try.prog 91 #[.agg #[.int .i64 a0_0, .int .i64 a0_1, .int .i64 a0_2, .int .i64 a0_3, .slice A0_4 l0_4.length c0_4, .slice A0_5 l0_5.length c0_5, .slice A0_6 l0_6.length c0_6, .slice A0_7 l0_7.length c0_7]] w fun e w' => e = .returned (.bool r) ∧ Below w.heap.size w w' := by
 have hu63 := Try.underlying63; have hu158 := Try.underlying158; have HR0_4 := yac hr0_4; have HC0_4 := yac hc0_4; clear hr0_4 hc0_4; have HR0_5 := yac hr0_5; have HC0_5 := yac hc0_5; clear hr0_5 hc0_5; have HR0_6 := yac hr0_6; have HC0_6 := yac hc0_6; clear hr0_6 hc0_6; have HR0_7 := yac hr0_7; have HC0_7 := yac hc0_7; clear hr0_7 hc0_7; have HB := yac (Below.refl w.heap.size w); have H : (if (l0_7.length : Int) > 60 then (some false) else (impl_outsOk.l0 k l0_7 (l0_7.length : Int) 0 a0_0 a0_1 a0_2 a0_3 l0_4 l0_5 l0_6 l0_7)) = some r := h; clear h
 by_cases c2 : (l0_7.length : Int) > 60
 ·
  rw [if_pos c2] at H
  have n8 : decide (60 < (l0_7.length : Int)) = true := decide_eq_true c2; have n9 : decide (60 < l0_7.length) = true := decide_eq_true (by omega); clear c2; obtain rfl := Option.some.inj H
  go_enter Try.func91, Try.ntmps91
  go_wp2_with (first | ((with_reducible refine gate_dst (N := 1) rfl ?_); (try (refine gate_guard (by rfl) ?_; dsimp only)); refine bx_ 1 #[.int .i64 a0_0, .int .i64 a0_1, .int .i64 a0_2, .int .i64 a0_3, .slice A0_4 l0_4.length c0_4, .slice A0_5 l0_5.length c0_5, .slice A0_6 l0_6.length c0_6, .slice A0_7 l0_7.length c0_7] 63 ?_; intro b0 hg w3 hbox hb; have a8 := yac (hbox); have b8 := yac ((by rw [hg]; exact (below_size (upH HB.out)) : w.heap.size ≤ b0)); replace HB := yac (below_step (upH HB.out) hb); have o2 := b8; clear hb hbox hg; have b9 : w3.cell? ⟨b0, 0, none⟩ = some (.int .i64 a0_0) := (yab a8.out 0).trans rfl; have c0 : w3.cell? ⟨b0, 1, none⟩ = some (.int .i64 a0_1) := (yab a8.out 1).trans rfl; have c3 : w3.cell? ⟨b0, 2, none⟩ = some (.int .i64 a0_2) := (yab a8.out 2).trans rfl; have c4 : w3.cell? ⟨b0, 3, none⟩ = some (.int .i64 a0_3) := (yab a8.out 3).trans rfl; have c5 : w3.cell? ⟨b0, 4, none⟩ = some (.slice A0_4 l0_4.length c0_4) := (yab a8.out 4).trans rfl; have d0 : w3.cell? ⟨b0, 5, none⟩ = some (.slice A0_5 l0_5.length c0_5) := (yab a8.out 5).trans rfl; have d1 : w3.cell? ⟨b0, 6, none⟩ = some (.slice A0_6 l0_6.length c0_6) := (yab a8.out 6).trans rfl; have d2 : w3.cell? ⟨b0, 7, none⟩ = some (.slice A0_7 l0_7.length c0_7) := (yab a8.out 7).trans rfl; have d3 := yaa a8.out 0; have d4 := yaa a8.out 1; have d5 := yaa a8.out 2; have d6 := yaa a8.out 3; have d7 := yaa a8.out 4; have d8 := yaa a8.out 5; have d9 := yaa a8.out 6; have e0 := yaa a8.out 7))
  go_ret
  exact ⟨by first | rfl | (simp [*, errW_none, errW_some] <;> rfl), by repeat (with_reducible first | exact HB.out | apply below_alloc | apply yae | apply below_drew1 | refine below_set ?_ (Aside0.out ‹_›))⟩
 ·
  rw [if_neg c2] at H
  have n8 : decide (60 < (l0_7.length : Int)) = false := decide_eq_false c2; have n9 : decide (60 < l0_7.length) = false := decide_eq_false (by omega); clear c2; have H' := yac H; clear H
  go_enter Try.func91, Try.ntmps91
  go_wp2_with (first | ((with_reducible refine gate_dst (N := 1) rfl ?_); (try (refine gate_guard (by rfl) ?_; dsimp only)); refine bx_ 1 #[.int .i64 a0_0, .int .i64 a0_1, .int .i64 a0_2, .int .i64 a0_3, .slice A0_4 l0_4.length c0_4, .slice A0_5 l0_5.length c0_5, .slice A0_6 l0_6.length c0_6, .slice A0_7 l0_7.length c0_7] 63 ?_; intro b0 hg w5 hbox hb; have a8 := yac (hbox); have b8 := yac ((by rw [hg]; exact (below_size (upH HB.out)) : w.heap.size ≤ b0)); replace HB := yac (below_step (upH HB.out) hb); have o2 := b8; clear hb hbox hg; have e1 : w5.cell? ⟨b0, 0, none⟩ = some (.int .i64 a0_0) := (yab a8.out 0).trans rfl; have e2 : w5.cell? ⟨b0, 1, none⟩ = some (.int .i64 a0_1) := (yab a8.out 1).trans rfl; have e3 : w5.cell? ⟨b0, 2, none⟩ = some (.int .i64 a0_2) := (yab a8.out 2).trans rfl; have e4 : w5.cell? ⟨b0, 3, none⟩ = some (.int .i64 a0_3) := (yab a8.out 3).trans rfl; have e5 : w5.cell? ⟨b0, 4, none⟩ = some (.slice A0_4 l0_4.length c0_4) := (yab a8.out 4).trans rfl; have e6 : w5.cell? ⟨b0, 5, none⟩ = some (.slice A0_5 l0_5.length c0_5) := (yab a8.out 5).trans rfl; have e7 : w5.cell? ⟨b0, 6, none⟩ = some (.slice A0_6 l0_6.length c0_6) := (yab a8.out 6).trans rfl; have e8 : w5.cell? ⟨b0, 7, none⟩ = some (.slice A0_7 l0_7.length c0_7) := (yab a8.out 7).trans rfl; have e9 := yaa a8.out 0; have f3 := yaa a8.out 1; have f4 := yaa a8.out 2; have f5 := yaa a8.out 3; have f6 := yaa a8.out 4; have f7 := yaa a8.out 5; have f8 := yaa a8.out 6; have f9 := yaa a8.out 7))
  (try simp only [Act.put, List.setIfInBounds_toArray, List.set_cons_zero, List.set_cons_succ])
  go_loopg [12] k (fun kq v12 w' => ∃ (a9 : Int), v12 = .int .i64 a9 ∧ Aside0 (impl_outsOk.l0 kq l0_7 (l0_7.length : Int) a9 a0_0 a0_1 a0_2 a0_3 l0_4 l0_5 l0_6 l0_7 = some r) ∧ Aside0 (kq ≤ k) ∧ Aside0 (w'.heap[b0]? = some (.cells #[.int .i64 a0_0, .int .i64 a0_1, .int .i64 a0_2, .int .i64 a0_3, (.slice A0_4 l0_4.length c0_4), (.slice A0_5 l0_5.length c0_5), (.slice A0_6 l0_6.length c0_6), (.slice A0_7 l0_7.length c0_7)] 63 (0, 0))) ∧ Aside0 (Below w.heap.size w w'))
  case atStart => exact ⟨(0), (by first | rfl | (simp; done) | (simp [*]; done)), H', ⟨Nat.le_refl _⟩, ⟨by exact upB a8.out⟩, ⟨by repeat (with_reducible first | exact HB.out | apply below_alloc | apply yae | apply below_drew1 | refine below_set ?_ (Aside0.out ‹_›))⟩⟩
  case round =>
   clear H'; (try clear c2); (try clear n8); (try clear n9); (try clear p2); (try clear b9); (try clear c0); (try clear c3); (try clear c4); (try clear c5); (try clear d0); (try clear d1); (try clear d2); (try clear e1); (try clear e2); (try clear e3); (try clear e4); (try clear e5); (try clear e6); (try clear e7); (try clear e8); (try clear d3); (try clear d4); (try clear d5); (try clear d6); (try clear d7); (try clear d8); (try clear d9); (try clear e0); (try clear e9); (try clear f3); (try clear f4); (try clear f5); (try clear f6); (try clear f7); (try clear f8); (try clear f9); obtain ⟨a9, rfl, HA, HK1, a8, HB⟩ := hrel
   cases gk with
   | zero => exact absurd HA.out (by simp [impl_outsOk.l0])
   | succ k1 =>
    have H := HA.out; clear HA
    simp only [impl_outsOk.l0] at H
    by_cases c7 : a9 < (l0_7.length : Int)
    ·
     rw [if_pos c7] at H
     have o3 : decide (a9 < (l0_7.length : Int)) = true := decide_eq_true c7; clear c7
     by_cases c8 : 0 ≤ a9
     ·
      rw [if_pos c8] at H
      have q7 : decide (0 ≤ a9) = true := decide_eq_true c8; clear c8
      by_cases c9 : a9 < (l0_7.length : Int)
      ·
       rw [if_pos c9] at H
       have q8 : decide (a9 < (l0_7.length : Int)) = true := decide_eq_true c9; clear c9; have HC10 := yac H; clear H
       have p102 : 0 ≤ (a9 : Int) := of_decide_eq_true (by first | (with_reducible assumption) | assumption)
       have q102 : a9 < (l0_7.length : Int) := of_decide_eq_true (by first | (with_reducible assumption) | assumption)
       obtain ⟨ad102, o0, o1, q9, b4, b5, b6, hl102_2, hi102_2⟩ := at_T158 HR0_7.out a9 p102 q102
       cases q9
       replace b4 := (HB.out.cell (World.block_lt_of_cell? w _ b4)).trans b4; replace b5 := (HB.out.cell (World.block_lt_of_cell? w _ b5)).trans b5; replace b6 := (HB.out.cell (World.block_lt_of_cell? w _ b6)).trans b6; have HR102_2 := yac hi102_2; have HC102_2 := yac hl102_2; clear hi102_2 hl102_2; replace p102 := eq_true p102; replace q102 := eq_true q102
       go_upto_region 6 with (first | ((with_reducible refine gate_dst (N := 4) rfl ?_); (try (refine gate_guard (by rfl) ?_; dsimp only)); refine bx_ 4 #[.int .i64 0, .int .i64 0, .slice none 0 0] 158 ?_; intro g0 hg w11 hbox hb; have b2 := yac (hbox); have o4 := yac ((by rw [hg]; exact (below_size (by repeat (with_reducible first | exact HB.out | apply below_alloc | apply yae | apply below_drew1 | refine below_set ?_ (Aside0.out ‹_›)))) : w.heap.size ≤ g0)); replace HB := yac (below_step (by repeat (with_reducible first | exact HB.out | apply below_alloc | apply yae | apply below_drew1 | refine below_set ?_ (Aside0.out ‹_›))) hb); have r2 := o4; have b1 := yac ((by rw [hg]; exact Nat.ne_of_lt (blk_lt (upB a8.out)) : b0 ≠ g0)); replace a8 := yac (blk_below (upB a8.out) hb); have b3 := yac b1.out.symm; clear hb hbox hg; have r3 := b3.out; have r4 := b1.out; obtain ⟨g2, g3, g4⟩ := cc3_ b2.out; obtain ⟨g5, g6⟩ := cf2_ b2.out; have g7 := yaa b2.out 2))
       (try simp only [Act.put, List.setIfInBounds_toArray, List.set_cons_zero, List.set_cons_succ])
       go_cut [34] (fun v34 wc => ∃ (kq : Nat) (b7 : Bool), v34 = .bool b7 ∧ Aside0 (impl_outsOk.j1 kq l0_7 (l0_7.length : Int) a9 b7 a0_0 a0_1 a0_2 a0_3 l0_4 l0_5 l0_6 l0_7 ((yad l0_7 a9).f0) ((yad l0_7 a9).f1) ((yad l0_7 a9).f2) = some r) ∧ Aside0 (kq ≤ k1) ∧ Aside0 (wc.heap[b0]? = some (.cells #[.int .i64 a0_0, .int .i64 a0_1, .int .i64 a0_2, .int .i64 a0_3, (.slice A0_4 l0_4.length c0_4), (.slice A0_5 l0_5.length c0_5), (.slice A0_6 l0_6.length c0_6), (.slice (some ad102) l0_7.length c0_7)] 63 (0, 0))) ∧ Aside0 (wc.heap[g0]? = some (.cells #[.int .i64 ((yad l0_7 a9).f0), .int .i64 ((yad l0_7 a9).f1), (.slice o0 ((yad l0_7 a9).f2).length o1)] 158 (0, 0))) ∧ Aside0 (Below w.heap.size w wc))
       case first =>
        have H := HC10.out; clear HC10; replace H := Option.bind_eq_some_iff.mp H; obtain ⟨r0, o5, H⟩ := H; (try dsimp only at H); have A14 := yac o5; clear o5
        by_cases c15 : r0 = true
        ·
         subst c15
         rw [if_pos rfl] at H
         replace H := Option.bind_eq_some_iff.mp H; obtain ⟨r1, o6, H⟩ := H; (try dsimp only at H); have A16 := yac o6; clear o6
         by_cases c17 : r1 = true
         ·
          subst c17
          rw [if_pos rfl] at H
          have H' := yac H; clear H; have r5 := b3.out; have r6 := b1.out; obtain ⟨g8, g9, h0⟩ := cc3_ b2.out; obtain ⟨h1, h2, h3⟩ := cf3_ b2.out; have h5 : w11.cell? ⟨b0, 0, none⟩ = some (.int .i64 a0_0) := (yab a8.out 0).trans rfl; have h6 : w11.cell? ⟨b0, 1, none⟩ = some (.int .i64 a0_1) := (yab a8.out 1).trans rfl; have h7 : w11.cell? ⟨b0, 2, none⟩ = some (.int .i64 a0_2) := (yab a8.out 2).trans rfl; have h8 : w11.cell? ⟨b0, 3, none⟩ = some (.int .i64 a0_3) := (yab a8.out 3).trans rfl; have h9 : w11.cell? ⟨b0, 4, none⟩ = some (.slice A0_4 l0_4.length c0_4) := (yab a8.out 4).trans rfl; have i0 : w11.cell? ⟨b0, 5, none⟩ = some (.slice A0_5 l0_5.length c0_5) := (yab a8.out 5).trans rfl; have i1 : w11.cell? ⟨b0, 6, none⟩ = some (.slice A0_6 l0_6.length c0_6) := (yab a8.out 6).trans rfl; have i2 : w11.cell? ⟨b0, 7, none⟩ = some (.slice (some ad102) l0_7.length c0_7) := (yab a8.out 7).trans rfl; have i3 := yaa a8.out 0; have i4 := yaa a8.out 1; have i5 := yaa a8.out 2; have i6 := yaa a8.out 3; have i7 := yaa a8.out 4; have i8 := yaa a8.out 5; have i9 := yaa a8.out 6; have j0 := yaa a8.out 7
          go_wp2_with (first | ((with_reducible refine gate_callee (f := 62) rfl ?_); refine gl_ (some 21) rfl Try.func62 #[.int .i64 ((yad l0_7 a9).f0), .int .i64 0, .int .i64 (wrap64 (a0_3 - 1))] ?_; (with_reducible refine (impl_within.calls ((yad l0_7 a9).f0) 0 (wrap64 (a0_3 - 1)) true _ A14.out).mono ?_); rintro e w' ⟨rfl, ⟨nd, rfl⟩⟩; refine ⟨_, rfl, ?_⟩) | (go_at_call 129; (with_reducible refine (impl_codeOk.calls ((yad l0_7 a9).f1) true _ A16.out).mono ?_); rintro e w' ⟨rfl, ⟨nd, rfl⟩⟩))
          go_meet
          case rel => exact ⟨_, (decide ((((yad l0_7 a9).f2).length : Int) > 220)), (by first | rfl | (simp; done) | (simp [*]; done)), H', ⟨by have := HK1.out; first | omega | exact Nat.le_refl _⟩, ⟨by repeat (with_reducible first | exact a8.out | refine oneB ?_ | refine blk_far ?_ b1.out _)⟩, ⟨by (repeat refine oneB ?_); refine blk_put (cs := #[.int .i64 ((yad l0_7 a9).f0), .int .i64 ((yad l0_7 a9).f1), .slice none 0 0]) ?_ 2 _ rfl; refine blk_put (cs := #[.int .i64 ((yad l0_7 a9).f0), .int .i64 0, .slice none 0 0]) ?_ 1 _ rfl; refine blk_put (cs := #[.int .i64 0, .int .i64 0, .slice none 0 0]) ?_ 0 _ rfl; exact upB b2.out⟩, ⟨by repeat (with_reducible first | exact HB.out | apply below_alloc | apply yae | apply below_drew1 | refine below_set ?_ (Aside0.out ‹_›))⟩⟩
         ·
          replace c17 := Bool.eq_false_iff.mpr c17
          subst c17
          rw [if_neg (show ¬ (false = true) by decide)] at H
          have H' := yac H; clear H; have r7 := b3.out; have r8 := b1.out; obtain ⟨j2, j3, j4⟩ := cc3_ b2.out; obtain ⟨j5, j6, j7⟩ := cf3_ b2.out; have j8 : w11.cell? ⟨b0, 0, none⟩ = some (.int .i64 a0_0) := (yab a8.out 0).trans rfl; have j9 : w11.cell? ⟨b0, 1, none⟩ = some (.int .i64 a0_1) := (yab a8.out 1).trans rfl; have k0 : w11.cell? ⟨b0, 2, none⟩ = some (.int .i64 a0_2) := (yab a8.out 2).trans rfl; have k2 : w11.cell? ⟨b0, 3, none⟩ = some (.int .i64 a0_3) := (yab a8.out 3).trans rfl; have k3 : w11.cell? ⟨b0, 4, none⟩ = some (.slice A0_4 l0_4.length c0_4) := (yab a8.out 4).trans rfl; have k4 : w11.cell? ⟨b0, 5, none⟩ = some (.slice A0_5 l0_5.length c0_5) := (yab a8.out 5).trans rfl; have k5 : w11.cell? ⟨b0, 6, none⟩ = some (.slice A0_6 l0_6.length c0_6) := (yab a8.out 6).trans rfl; have k6 : w11.cell? ⟨b0, 7, none⟩ = some (.slice (some ad102) l0_7.length c0_7) := (yab a8.out 7).trans rfl; have k7 := yaa a8.out 0; have k8 := yaa a8.out 1; have k9 := yaa a8.out 2; have l1 := yaa a8.out 3; have l2 := yaa a8.out 4; have l3 := yaa a8.out 5; have l4 := yaa a8.out 6; have l5 := yaa a8.out 7
          go_wp2_with (first | ((with_reducible refine gate_callee (f := 62) rfl ?_); refine gl_ (some 21) rfl Try.func62 #[.int .i64 ((yad l0_7 a9).f0), .int .i64 0, .int .i64 (wrap64 (a0_3 - 1))] ?_; (with_reducible refine (impl_within.calls ((yad l0_7 a9).f0) 0 (wrap64 (a0_3 - 1)) true _ A14.out).mono ?_); rintro e w' ⟨rfl, ⟨nd, rfl⟩⟩; refine ⟨_, rfl, ?_⟩) | (go_at_call 129; (with_reducible refine (impl_codeOk.calls ((yad l0_7 a9).f1) false _ A16.out).mono ?_); rintro e w' ⟨rfl, ⟨nd, rfl⟩⟩))
          go_meet
          case rel => exact ⟨_, (true), (by first | rfl | (simp; done) | (simp [*]; done)), H', ⟨by have := HK1.out; first | omega | exact Nat.le_refl _⟩, ⟨by repeat (with_reducible first | exact a8.out | refine oneB ?_ | refine blk_far ?_ b1.out _)⟩, ⟨by (repeat refine oneB ?_); refine blk_put (cs := #[.int .i64 ((yad l0_7 a9).f0), .int .i64 ((yad l0_7 a9).f1), .slice none 0 0]) ?_ 2 _ rfl; refine blk_put (cs := #[.int .i64 ((yad l0_7 a9).f0), .int .i64 0, .slice none 0 0]) ?_ 1 _ rfl; refine blk_put (cs := #[.int .i64 0, .int .i64 0, .slice none 0 0]) ?_ 0 _ rfl; exact upB b2.out⟩, ⟨by repeat (with_reducible first | exact HB.out | apply below_alloc | apply yae | apply below_drew1 | refine below_set ?_ (Aside0.out ‹_›))⟩⟩
        ·
         replace c15 := Bool.eq_false_iff.mpr c15
         subst c15
         rw [if_neg (show ¬ (false = true) by decide)] at H
         have H' := yac H; clear H; have r9 := b3.out; have s0 := b1.out; obtain ⟨l6, l7, l8⟩ := cc3_ b2.out; obtain ⟨l9, m0, m1⟩ := cf3_ b2.out; have m2 : w11.cell? ⟨b0, 0, none⟩ = some (.int .i64 a0_0) := (yab a8.out 0).trans rfl; have m3 : w11.cell? ⟨b0, 1, none⟩ = some (.int .i64 a0_1) := (yab a8.out 1).trans rfl; have m4 : w11.cell? ⟨b0, 2, none⟩ = some (.int .i64 a0_2) := (yab a8.out 2).trans rfl; have m5 : w11.cell? ⟨b0, 3, none⟩ = some (.int .i64 a0_3) := (yab a8.out 3).trans rfl; have m6 : w11.cell? ⟨b0, 4, none⟩ = some (.slice A0_4 l0_4.length c0_4) := (yab a8.out 4).trans rfl; have m7 : w11.cell? ⟨b0, 5, none⟩ = some (.slice A0_5 l0_5.length c0_5) := (yab a8.out 5).trans rfl; have m8 : w11.cell? ⟨b0, 6, none⟩ = some (.slice A0_6 l0_6.length c0_6) := (yab a8.out 6).trans rfl; have m9 : w11.cell? ⟨b0, 7, none⟩ = some (.slice (some ad102) l0_7.length c0_7) := (yab a8.out 7).trans rfl; have n0 := yaa a8.out 0; have n1 := yaa a8.out 1; have n2 := yaa a8.out 2; have n3 := yaa a8.out 3; have n4 := yaa a8.out 4; have n5 := yaa a8.out 5; have n6 := yaa a8.out 6; have n7 := yaa a8.out 7
         go_wp2_with (first | ((with_reducible refine gate_callee (f := 62) rfl ?_); refine gl_ (some 21) rfl Try.func62 #[.int .i64 ((yad l0_7 a9).f0), .int .i64 0, .int .i64 (wrap64 (a0_3 - 1))] ?_; (with_reducible refine (impl_within.calls ((yad l0_7 a9).f0) 0 (wrap64 (a0_3 - 1)) false _ A14.out).mono ?_); rintro e w' ⟨rfl, ⟨nd, rfl⟩⟩; refine ⟨_, rfl, ?_⟩))
         go_meet
         case rel => exact ⟨_, (true), (by first | rfl | (simp; done) | (simp [*]; done)), H', ⟨by have := HK1.out; first | omega | exact Nat.le_refl _⟩, ⟨by repeat (with_reducible first | exact a8.out | refine oneB ?_ | refine blk_far ?_ b1.out _)⟩, ⟨by (repeat refine oneB ?_); refine blk_put (cs := #[.int .i64 ((yad l0_7 a9).f0), .int .i64 ((yad l0_7 a9).f1), .slice none 0 0]) ?_ 2 _ rfl; refine blk_put (cs := #[.int .i64 ((yad l0_7 a9).f0), .int .i64 0, .slice none 0 0]) ?_ 1 _ rfl; refine blk_put (cs := #[.int .i64 0, .int .i64 0, .slice none 0 0]) ?_ 0 _ rfl; exact upB b2.out⟩, ⟨by repeat (with_reducible first | exact HB.out | apply below_alloc | apply yae | apply below_drew1 | refine below_set ?_ (Aside0.out ‹_›))⟩⟩
       case rest =>
        clear HC10; (try clear c1); (try clear p1); (try clear q1); (try clear hx1); (try clear c2); (try clear n8); (try clear n9); (try clear p2); (try clear c6); (try clear p6); (try clear c7); (try clear o3); (try clear c8); (try clear q7); (try clear c9); (try clear q8); (try clear c10); (try clear p10); (try clear q10); (try clear hx10); (try clear c12); (try clear c15); (try clear c17); (try clear c18); (try clear c21); (try clear c24); (try clear g2); (try clear g3); (try clear g4); (try clear g8); (try clear g9); (try clear h0); (try clear h5); (try clear h6); (try clear h7); (try clear h8); (try clear h9); (try clear i0); (try clear i1); (try clear i2); (try clear j2); (try clear j3); (try clear j4); (try clear j8); (try clear j9); (try clear k0); (try clear k2); (try clear k3); (try clear k4); (try clear k5); (try clear k6); (try clear l6); (try clear l7); (try clear l8); (try clear m2); (try clear m3); (try clear m4); (try clear m5); (try clear m6); (try clear m7); (try clear m8); (try clear m9); (try clear b9); (try clear c0); (try clear c3); (try clear c4); (try clear c5); (try clear d0); (try clear d1); (try clear d2); (try clear e1); (try clear e2); (try clear e3); (try clear e4); (try clear e5); (try clear e6); (try clear e7); (try clear e8); (try clear g5); (try clear g6); (try clear g7); (try clear h1); (try clear h2); (try clear h3); (try clear i3); (try clear i4); (try clear i5); (try clear i6); (try clear i7); (try clear i8); (try clear i9); (try clear j0); (try clear j5); (try clear j6); (try clear j7); (try clear k7); (try clear k8); (try clear k9); (try clear l1); (try clear l2); (try clear l3); (try clear l4); (try clear l5); (try clear l9); (try clear m0); (try clear m1); (try clear n0); (try clear n1); (try clear n2); (try clear n3); (try clear n4); (try clear n5); (try clear n6); (try clear n7); (try clear d3); (try clear d4); (try clear d5); (try clear d6); (try clear d7); (try clear d8); (try clear d9); (try clear e0); (try clear e9); (try clear f3); (try clear f4); (try clear f5); (try clear f6); (try clear f7); (try clear f8); (try clear f9); (try clear b4); (try clear b5); (try clear b6); (try clear p102); (try clear p2); (try clear q102); obtain ⟨kq, b7, rfl, HA, HJ9, a8, b2, HB⟩ := hcut
        cases kq with
        | zero => exact absurd HA.out (by simp [impl_outsOk.j1])
        | succ kj9 =>
         have H := HA.out; clear HA
         simp only [impl_outsOk.j1] at H
         by_cases c27 : b7 = true
         ·
          subst c27
          rw [if_pos rfl] at H
          obtain rfl := Option.some.inj H
          go_wp2
          go_ret
          exact ⟨by first | rfl | (simp [*, errW_none, errW_some] <;> rfl), by repeat (with_reducible first | exact HB.out | apply below_alloc | apply yae | apply below_drew1 | refine below_set ?_ (Aside0.out ‹_›))⟩
         ·
          replace c27 := Bool.eq_false_iff.mpr c27
          subst c27
          rw [if_neg (show ¬ (false = true) by decide)] at H
          by_cases c28 : ((decide ((((yad l0_7 a9).f2).length : Int) > 0)) != (((yad l0_7 a9).f1) == 200)) = true
          ·
           rw [if_pos c28] at H
           have o7 : ((decide ((((yad l0_7 a9).f2).length : Int) > 0)) != (((yad l0_7 a9).f1) == 200)) = true := c28
           (try (have o8 : (decide (0 < (((yad l0_7 a9).f2)).length) == (((yad l0_7 a9).f1) == 200)) = false := by simpa using c28))
           (try (have o9 : decide ((decide ((((yad l0_7 a9).f2).length : Int) > 0)) = (((yad l0_7 a9).f1) == 200)) = false := by simpa using c28))
           (try (have p0 : ((decide ((((yad l0_7 a9).f2).length : Int) > 0)) == (((yad l0_7 a9).f1) == 200)) = false := by simpa using c28))
           (try (have s1 : ¬ ((decide ((((yad l0_7 a9).f2).length : Int) > 0)) = (((yad l0_7 a9).f1) == 200)) := by simpa using c28))
           clear c28; obtain rfl := Option.some.inj H; have s2 := b3.out; have s3 := b1.out; obtain ⟨p3, p4, p5⟩ := cc3_ b2.out; obtain ⟨p7, p8, p9⟩ := cf3_ b2.out
           go_wp2
           go_ret
           exact ⟨by first | rfl | (simp [*, errW_none, errW_some] <;> rfl), by repeat (with_reducible first | exact HB.out | apply below_alloc | apply yae | apply below_drew1 | refine below_set ?_ (Aside0.out ‹_›))⟩
          ·
           rw [if_neg c28] at H
           have o7 : ((decide ((((yad l0_7 a9).f2).length : Int) > 0)) != (((yad l0_7 a9).f1) == 200)) = false := (by simpa using c28)
           (try (have o8 : (decide (0 < (((yad l0_7 a9).f2)).length) == (((yad l0_7 a9).f1) == 200)) = true := by simpa using c28))
           (try (have o9 : decide ((decide ((((yad l0_7 a9).f2).length : Int) > 0)) = (((yad l0_7 a9).f1) == 200)) = true := by simpa using c28))
           (try (have p0 : ((decide ((((yad l0_7 a9).f2).length : Int) > 0)) == (((yad l0_7 a9).f1) == 200)) = true := by simpa using c28))
           clear c28; have H' := yac H; clear H; have s4 := b3.out; have s5 := b1.out; obtain ⟨q0, q2, q3⟩ := cc3_ b2.out; obtain ⟨q4, q5, q6⟩ := cf3_ b2.out
           go_wp2
           go_roundg kj9
           case measure => have := HK1.out; have := HJ9.out; omega
           case rel => exact ⟨(wrap64 (a9 + 1)), (by first | rfl | (simp; done) | (simp [*]; done)), H', ⟨by have := HK1.out; have := HJ9.out; omega⟩, ⟨by exact upB a8.out⟩, ⟨by repeat (with_reducible first | exact HB.out | apply below_alloc | apply yae | apply below_drew1 | refine below_set ?_ (Aside0.out ‹_›))⟩⟩
      ·
       rw [if_neg c9] at H
       exact absurd H (by simp)
     ·
      rw [if_neg c8] at H
      exact absurd H (by simp)
    ·
     rw [if_neg c7] at H
     have o3 : decide (a9 < (l0_7.length : Int)) = false := decide_eq_false c7; clear c7; obtain rfl := Option.some.inj H
     go_wp2
     go_ret
     exact ⟨by first | rfl | (simp [*, errW_none, errW_some] <;> rfl), by repeat (with_reducible first | exact HB.out | apply below_alloc | apply yae | apply below_drew1 | refine below_set ?_ (Aside0.out ‹_›))⟩

end Go.Proofs.Ytgpkkkmapgnhkaa.X

namespace Go.Proofs.Ytgpkkkmapgnhkaa.X
open Go.RowKit Go.Proofs.YtgpkkkmapgnhkaaW.PrintWords Go.Proofs.YtgpkkkmapgnhkaaW.PrintLast Go.Proofs.YtgpkkkmapgnhkaaW.PrintMore
attribute [local go_sem] max2_int min2_int max_two min_two max_three min_three max_four min_four
set_option linter.unusedVariables false
set_option linter.unusedSimpArgs false

open Go.Proofs.YtgpkkkmapgnhkaaW.PrintWords renaming blk_frozen → yaa, blk_cell → yab, pw_below_drewN → yah, below_alloc → yai, below_drew1 → yaj, blk_below → yak, below_set → yal, below_step → yam
open Go.Proofs.YtgpkkkmapgnhkaaW.PrintWords.Aside0 renaming mk → yac
open Go.Proofs.YtgpkkkmapgnhkaaW.PrintWords.Kd renaming C_below → yad, C_alloc → yae, C_drewN → yaf, C_drew → yag

/-! ### impl_TenOk: function 39 -/
mutual
def impl_TenOk.j0 : Nat → Bool → List Int → Int → Int → Int → Int → Int → Int → Int → Int → Int → Int → List (S124) → List (S156) → List ByteArray → List (S158) → Option (Bool)
 | 0, _, _, _, _, _, _, _, _, _, _, _, _, _, _, _, _ => none
 | k + 1, x21, x102000, x102001, x102002, x102003, x102004, x102005, x102006, x103000, x103001, x103002, x103003, x103004, x103005, x103006, x103007 => if x21 = true then (some false) else ((impl_within.f x103002 0 x103000).bind fun t106 => (if t106 = true then ((impl_within.f x103003 0 9999).bind fun t107 => (impl_TenOk.j1 k (!t107) x102000 x102001 x102002 x102003 x102004 x102005 x102006 x103000 x103001 x103002 x103003 x103004 x103005 x103006 x103007)) else (impl_TenOk.j1 k true x102000 x102001 x102002 x102003 x102004 x102005 x102006 x103000 x103001 x103002 x103003 x103004 x103005 x103006 x103007)))
def impl_TenOk.j1 : Nat → Bool → List Int → Int → Int → Int → Int → Int → Int → Int → Int → Int → Int → List (S124) → List (S156) → List ByteArray → List (S158) → Option (Bool)
 | 0, _, _, _, _, _, _, _, _, _, _, _, _, _, _, _, _ => none
 | k + 1, x33, x102000, x102001, x102002, x102003, x102004, x102005, x102006, x103000, x103001, x103002, x103003, x103004, x103005, x103006, x103007 => if x33 = true then (some false) else ((impl_jobsOk.f k x102000 x102001 x102002 x102003 x102004 x102005 x102006 x103000 x103001 x103002 x103003 x103004 x103005 x103006 x103007).bind fun t108 => (if t108 = true then ((impl_filesOk.f k x102000 x102001 x102002 x102003 x102004 x102005 x102006 x103000 x103001 x103002 x103003 x103004 x103005 x103006 x103007).bind fun t109 => (if t109 = true then ((impl_askedOk.f k x103000 x103001 x103002 x103003 x103004 x103005 x103006 x103007).bind fun t110 => (if t110 = true then ((impl_outsOk.f k x103000 x103001 x103002 x103003 x103004 x103005 x103006 x103007).bind fun t111 => (some t111)) else (some false))) else (some false))) else (some false)))
end
def impl_TenOk.f (k : Nat) (l0_0 : List Int) (a0_1 : Int) (a0_2 : Int) (a0_3 : Int) (a0_4 : Int) (a0_5 : Int) (a0_6 : Int) (a1_0 : Int) (a1_1 : Int) (a1_2 : Int) (a1_3 : Int) (l1_4 : List (S124)) (l1_5 : List (S156)) (l1_6 : List ByteArray) (l1_7 : List (S158)) : Option (Bool) := (impl_CfgOk.f l0_0 a0_1 a0_2 a0_3 a0_4 a0_5 a0_6).bind fun t103 => (if t103 = true then ((impl_within.f a1_0 0 9999).bind fun t104 => (if t104 = true then ((impl_within.f a1_1 0 a0_1).bind fun t105 => (impl_TenOk.j0 k (!t105) l0_0 a0_1 a0_2 a0_3 a0_4 a0_5 a0_6 a1_0 a1_1 a1_2 a1_3 l1_4 l1_5 l1_6 l1_7)) else (impl_TenOk.j0 k true l0_0 a0_1 a0_2 a0_3 a0_4 a0_5 a0_6 a1_0 a1_1 a1_2 a1_3 l1_4 l1_5 l1_6 l1_7))) else (impl_TenOk.j0 k true l0_0 a0_1 a0_2 a0_3 a0_4 a0_5 a0_6 a1_0 a1_1 a1_2 a1_3 l1_4 l1_5 l1_6 l1_7))
set_option maxHeartbeats 8000000 in
set_option maxRecDepth 100000 in
theorem impl_TenOk.calls (k : Nat) (A0_0 : Option Addr) (c0_0 : Nat) (l0_0 : List Int) (a0_1 : Int) (a0_2 : Int) (a0_3 : Int) (a0_4 : Int) (a0_5 : Int) (a0_6 : Int) (a1_0 : Int) (a1_1 : Int) (a1_2 : Int) (a1_3 : Int) (A1_4 : Option Addr) (c1_4 : Nat) (l1_4 : List (S124)) (A1_5 : Option Addr) (c1_5 : Nat) (l1_5 : List (S156)) (A1_6 : Option Addr) (c1_6 : Nat) (l1_6 : List ByteArray) (A1_7 : Option Addr) (c1_7 : Nat) (l1_7 : List (S158)) (r : Bool) (w : World) (hr0_0 : Kd.C (Kd.int .u8) w A0_0 l0_0.length l0_0) (hc0_0 : l0_0.length ≤ c0_0) (hr1_4 : Kd.C k124 w A1_4 l1_4.length l1_4) (hc1_4 : l1_4.length ≤ c1_4) (hr1_5 : Kd.C k156 w A1_5 l1_5.length l1_5) (hc1_5 : l1_5.length ≤ c1_5) (hr1_6 : Kd.C Kd.string w A1_6 l1_6.length l1_6) (hc1_6 : l1_6.length ≤ c1_6) (hr1_7 : Kd.C k158 w A1_7 l1_7.length l1_7) (hc1_7 : l1_7.length ≤ c1_7) (h : impl_TenOk.f k l0_0 a0_1 a0_2 a0_3 a0_4 a0_5 a0_6 a1_0 a1_1 a1_2 a1_3 l1_4 l1_5 l1_6 l1_7 = some r) :
  Calls Try.prog 39 #[.agg #[.slice A0_0 l0_0.length c0_0, .int .i64 a0_1, .int .i64 a0_2, .int .i64 a0_3, .int .i64 a0_4, .int .i64 a0_5, .int .i64 a0_6], .agg #[.int .i64 a1_0, .int .i64 a1_1, .int .i64 a1_2, .int .i64 a1_3, .slice A1_4 l1_4.length c1_4, .slice A1_5 l1_5.length c1_5, .slice A1_6 l1_6.length c1_6, .slice A1_7 l1_7.length c1_7]] w fun e w' => e = .returned (.bool r) ∧ Below w.heap.size w w' := by
 have hu24 := Try.underlying24; have hu63 := Try.underlying63; have HR0_0 := yac hr0_0; have HC0_0 := yac hc0_0; clear hr0_0 hc0_0; have HR1_4 := yac hr1_4; have HC1_4 := yac hc1_4; clear hr1_4 hc1_4; have HR1_5 := yac hr1_5; have HC1_5 := yac hc1_5; clear hr1_5 hc1_5; have HR1_6 := yac hr1_6; have HC1_6 := yac hc1_6; clear hr1_6 hc1_6; have HR1_7 := yac hr1_7; have HC1_7 := yac hc1_7; clear hr1_7 hc1_7; have HB := yac (Below.refl w.heap.size w); have H : ((impl_CfgOk.f l0_0 a0_1 a0_2 a0_3 a0_4 a0_5 a0_6).bind fun o8 => (if o8 = true then ((impl_within.f a1_0 0 9999).bind fun o9 => (if o9 = true then ((impl_within.f a1_1 0 a0_1).bind fun l5 => (impl_TenOk.j0 k (!l5) l0_0 a0_1 a0_2 a0_3 a0_4 a0_5 a0_6 a1_0 a1_1 a1_2 a1_3 l1_4 l1_5 l1_6 l1_7)) else (impl_TenOk.j0 k true l0_0 a0_1 a0_2 a0_3 a0_4 a0_5 a0_6 a1_0 a1_1 a1_2 a1_3 l1_4 l1_5 l1_6 l1_7))) else (impl_TenOk.j0 k true l0_0 a0_1 a0_2 a0_3 a0_4 a0_5 a0_6 a1_0 a1_1 a1_2 a1_3 l1_4 l1_5 l1_6 l1_7))) = some r := h; clear h; have HC3 := yac H; clear H
 go_enter Try.func39, Try.ntmps39
 go_upto_region 1 with (first | ((with_reducible refine gate_dst (N := 2) rfl ?_); refine bx_ 2 #[.slice A0_0 l0_0.length c0_0, .int .i64 a0_1, .int .i64 a0_2, .int .i64 a0_3, .int .i64 a0_4, .int .i64 a0_5, .int .i64 a0_6] 24 ?_; intro b7 hg w4 hbox hb; have b1 := yac (hbox); have p0 := yac ((by rw [hg]; exact (below_size (upH HB.out)) : w.heap.size ≤ b7)); replace HB := yac (yam (upH HB.out) hb); have S0 := p0; clear hb hbox hg) | ((with_reducible refine gate_dst (N := 3) rfl ?_); refine bx_ 3 #[.int .i64 a1_0, .int .i64 a1_1, .int .i64 a1_2, .int .i64 a1_3, .slice A1_4 l1_4.length c1_4, .slice A1_5 l1_5.length c1_5, .slice A1_6 l1_6.length c1_6, .slice A1_7 l1_7.length c1_7] 63 ?_; intro b2 hg w5 hbox hb; have b0 := yac (hbox); have p1 := yac ((by rw [hg]; exact (below_size (by repeat (with_reducible first | exact HB.out | apply yai | apply yah | apply yaj | refine yal ?_ (Aside0.out ‹_›)))) : w.heap.size ≤ b2)); replace HB := yac (yam (by repeat (with_reducible first | exact HB.out | apply yai | apply yah | apply yaj | refine yal ?_ (Aside0.out ‹_›))) hb); have S1 := p1; have b3 := yac ((by rw [hg]; exact Nat.ne_of_lt (blk_lt (upB b1.out)) : b7 ≠ b2)); replace b1 := yac (yak (upB b1.out) hb); have b4 := yac b3.out.symm; clear hb hbox hg))
 (try simp only [Act.put, List.setIfInBounds_toArray, List.set_cons_zero, List.set_cons_succ])
 go_cut [21] (fun v21 wc => ∃ (kq : Nat) (b8 : Bool), v21 = .bool b8 ∧ Aside0 (impl_TenOk.j0 kq b8 l0_0 a0_1 a0_2 a0_3 a0_4 a0_5 a0_6 a1_0 a1_1 a1_2 a1_3 l1_4 l1_5 l1_6 l1_7 = some r) ∧ Aside0 (kq ≤ k) ∧ Aside0 (wc.heap[b7]? = some (.cells #[(.slice A0_0 l0_0.length c0_0), .int .i64 a0_1, .int .i64 a0_2, .int .i64 a0_3, .int .i64 a0_4, .int .i64 a0_5, .int .i64 a0_6] 24 (0, 0))) ∧ Aside0 (wc.heap[b2]? = some (.cells #[.int .i64 a1_0, .int .i64 a1_1, .int .i64 a1_2, .int .i64 a1_3, (.slice A1_4 l1_4.length c1_4), (.slice A1_5 l1_5.length c1_5), (.slice A1_6 l1_6.length c1_6), (.slice A1_7 l1_7.length c1_7)] 63 (0, 0))) ∧ Aside0 (Below w.heap.size w wc))
 case first =>
  have H := HC3.out; clear HC3; replace H := Option.bind_eq_some_iff.mp H; obtain ⟨o8, A60, H⟩ := H; (try dsimp only at H); have A6 := yac A60; clear A60
  by_cases c7 : o8 = true
  ·
   subst c7
   rw [if_pos rfl] at H
   replace H := Option.bind_eq_some_iff.mp H; obtain ⟨o9, A80, H⟩ := H; (try dsimp only at H); have A8 := yac A80; clear A80
   by_cases c9 : o9 = true
   ·
    subst c9
    rw [if_pos rfl] at H
    replace H := Option.bind_eq_some_iff.mp H; obtain ⟨l5, p3, H⟩ := H; (try dsimp only at H); have A10 := yac p3; clear p3; have H' := yac H; clear H; have S2 := b3.out; have S3 := b4.out; obtain ⟨b9, c0, c4, c5, c8, d0, d1⟩ := cc7_ b1.out; have d2 := yaa b1.out 0; have d3 := yaa b1.out 1; have d4 := yaa b1.out 2; have d5 := yaa b1.out 3; have d6 := yaa b1.out 4; have d7 := yaa b1.out 5; have d8 := yaa b1.out 6
    go_wp2_with (first | ((with_reducible refine gate_callee (f := 14) rfl ?_); refine gl_ (some 6) rfl Try.func14 #[.agg #[.slice A0_0 l0_0.length c0_0, .int .i64 a0_1, .int .i64 a0_2, .int .i64 a0_3, .int .i64 a0_4, .int .i64 a0_5, .int .i64 a0_6]] ?_; (with_reducible refine (impl_CfgOk.calls _ _ l0_0 a0_1 a0_2 a0_3 a0_4 a0_5 a0_6 true _ ?side1 ?side2 A6.out).mono ?_); (case side1 => repeat (first | exact (yad HR0_0.out HB.out) | (with_reducible refine yae ?_ _) | (with_reducible refine yaf ?_ _) | (with_reducible refine yag ?_))); (case side2 => exact HC0_0.out); rintro e w13 ⟨rfl, hb⟩; refine ⟨_, rfl, ?_⟩; replace b1 := yac (yak (upB b1.out) hb); replace b0 := yac (yak (upB b0.out) hb); replace HB := yac (yam (by repeat (with_reducible first | exact HB.out | apply yai | apply yah | apply yaj | refine yal ?_ (Aside0.out ‹_›))) hb); (try clear hb); (try clear hb2); (try clear hk); (try clear hi); have d9 : w13.cell? ⟨b2, 0, none⟩ = some (.int .i64 a1_0) := (yab b0.out 0).trans rfl; have e0 : w13.cell? ⟨b2, 1, none⟩ = some (.int .i64 a1_1) := (yab b0.out 1).trans rfl; have e1 : w13.cell? ⟨b2, 2, none⟩ = some (.int .i64 a1_2) := (yab b0.out 2).trans rfl; have e2 : w13.cell? ⟨b2, 3, none⟩ = some (.int .i64 a1_3) := (yab b0.out 3).trans rfl; have e3 : w13.cell? ⟨b2, 4, none⟩ = some (.slice A1_4 l1_4.length c1_4) := (yab b0.out 4).trans rfl; have e4 : w13.cell? ⟨b2, 5, none⟩ = some (.slice A1_5 l1_5.length c1_5) := (yab b0.out 5).trans rfl; have e5 : w13.cell? ⟨b2, 6, none⟩ = some (.slice A1_6 l1_6.length c1_6) := (yab b0.out 6).trans rfl; have e6 : w13.cell? ⟨b2, 7, none⟩ = some (.slice A1_7 l1_7.length c1_7) := (yab b0.out 7).trans rfl; have e7 := yaa b0.out 0; have e8 := yaa b0.out 1; have e9 := yaa b0.out 2; have f0 := yaa b0.out 3; have f1 := yaa b0.out 4; have f2 := yaa b0.out 5; have f3 := yaa b0.out 6; have f4 := yaa b0.out 7) | (go_at_call 62; (with_reducible refine (impl_within.calls a1_0 0 9999 true _ A8.out).mono ?_); rintro e w' ⟨rfl, ⟨nd, rfl⟩⟩; obtain ⟨f5, f6, f7, f8, f9, g0, g1⟩ := cc7_ b1.out; have g2 := yaa b1.out 0; have g3 := yaa b1.out 1; have g4 := yaa b1.out 2; have g5 := yaa b1.out 3; have g6 := yaa b1.out 4; have g7 := yaa b1.out 5; have g8 := yaa b1.out 6) | (go_at_call 62; (with_reducible refine (impl_within.calls a1_1 0 a0_1 l5 _ A10.out).mono ?_); rintro e w' ⟨rfl, ⟨nd, rfl⟩⟩))
    go_meet
    case rel => exact ⟨_, (!l5), (by first | rfl | (simp; done) | (simp [*]; done)), H', ⟨by first | omega | exact Nat.le_refl _⟩, ⟨by exact upB b1.out⟩, ⟨by exact upB b0.out⟩, ⟨by repeat (with_reducible first | exact HB.out | apply yai | apply yah | apply yaj | refine yal ?_ (Aside0.out ‹_›))⟩⟩
   ·
    replace c9 := Bool.eq_false_iff.mpr c9
    subst c9
    rw [if_neg (show ¬ (false = true) by decide)] at H
    have H' := yac H; clear H; have S4 := b3.out; have S5 := b4.out; obtain ⟨g9, h0, h1, h2, h3, h4, h5⟩ := cc7_ b1.out; have h6 := yaa b1.out 0; have h7 := yaa b1.out 1; have h8 := yaa b1.out 2; have h9 := yaa b1.out 3; have i0 := yaa b1.out 4; have i1 := yaa b1.out 5; have i2 := yaa b1.out 6
    go_wp2_with (first | ((with_reducible refine gate_callee (f := 14) rfl ?_); refine gl_ (some 6) rfl Try.func14 #[.agg #[.slice A0_0 l0_0.length c0_0, .int .i64 a0_1, .int .i64 a0_2, .int .i64 a0_3, .int .i64 a0_4, .int .i64 a0_5, .int .i64 a0_6]] ?_; (with_reducible refine (impl_CfgOk.calls _ _ l0_0 a0_1 a0_2 a0_3 a0_4 a0_5 a0_6 true _ ?side1 ?side2 A6.out).mono ?_); (case side1 => repeat (first | exact (yad HR0_0.out HB.out) | (with_reducible refine yae ?_ _) | (with_reducible refine yaf ?_ _) | (with_reducible refine yag ?_))); (case side2 => exact HC0_0.out); rintro e w18 ⟨rfl, hb⟩; refine ⟨_, rfl, ?_⟩; replace b1 := yac (yak (upB b1.out) hb); replace b0 := yac (yak (upB b0.out) hb); replace HB := yac (yam (by repeat (with_reducible first | exact HB.out | apply yai | apply yah | apply yaj | refine yal ?_ (Aside0.out ‹_›))) hb); (try clear hb); (try clear hb2); (try clear hk); (try clear hi); have i3 : w18.cell? ⟨b2, 0, none⟩ = some (.int .i64 a1_0) := (yab b0.out 0).trans rfl; have i4 : w18.cell? ⟨b2, 1, none⟩ = some (.int .i64 a1_1) := (yab b0.out 1).trans rfl; have i5 : w18.cell? ⟨b2, 2, none⟩ = some (.int .i64 a1_2) := (yab b0.out 2).trans rfl; have i6 : w18.cell? ⟨b2, 3, none⟩ = some (.int .i64 a1_3) := (yab b0.out 3).trans rfl; have i7 : w18.cell? ⟨b2, 4, none⟩ = some (.slice A1_4 l1_4.length c1_4) := (yab b0.out 4).trans rfl; have i8 : w18.cell? ⟨b2, 5, none⟩ = some (.slice A1_5 l1_5.length c1_5) := (yab b0.out 5).trans rfl; have i9 : w18.cell? ⟨b2, 6, none⟩ = some (.slice A1_6 l1_6.length c1_6) := (yab b0.out 6).trans rfl; have j2 : w18.cell? ⟨b2, 7, none⟩ = some (.slice A1_7 l1_7.length c1_7) := (yab b0.out 7).trans rfl; have j3 := yaa b0.out 0; have j4 := yaa b0.out 1; have j5 := yaa b0.out 2; have j6 := yaa b0.out 3; have j7 := yaa b0.out 4; have j8 := yaa b0.out 5; have j9 := yaa b0.out 6; have k0 := yaa b0.out 7) | (go_at_call 62; (with_reducible refine (impl_within.calls a1_0 0 9999 false _ A8.out).mono ?_); rintro e w' ⟨rfl, ⟨nd, rfl⟩⟩))
    go_meet
    case rel => exact ⟨_, (true), (by first | rfl | (simp; done) | (simp [*]; done)), H', ⟨by first | omega | exact Nat.le_refl _⟩, ⟨by exact upB b1.out⟩, ⟨by exact upB b0.out⟩, ⟨by repeat (with_reducible first | exact HB.out | apply yai | apply yah | apply yaj | refine yal ?_ (Aside0.out ‹_›))⟩⟩
  ·
   replace c7 := Bool.eq_false_iff.mpr c7
   subst c7
   rw [if_neg (show ¬ (false = true) by decide)] at H
   have H' := yac H; clear H; have S6 := b3.out; have S7 := b4.out; obtain ⟨k1, k2, k3, k4, k5, k6, k7⟩ := cc7_ b1.out; have k8 := yaa b1.out 0; have k9 := yaa b1.out 1; have l0 := yaa b1.out 2; have l1 := yaa b1.out 3; have l2 := yaa b1.out 4; have l3 := yaa b1.out 5; have l4 := yaa b1.out 6
   go_wp2_with (first | ((with_reducible refine gate_callee (f := 14) rfl ?_); refine gl_ (some 6) rfl Try.func14 #[.agg #[.slice A0_0 l0_0.length c0_0, .int .i64 a0_1, .int .i64 a0_2, .int .i64 a0_3, .int .i64 a0_4, .int .i64 a0_5, .int .i64 a0_6]] ?_; (with_reducible refine (impl_CfgOk.calls _ _ l0_0 a0_1 a0_2 a0_3 a0_4 a0_5 a0_6 false _ ?side1 ?side2 A6.out).mono ?_); (case side1 => repeat (first | exact (yad HR0_0.out HB.out) | (with_reducible refine yae ?_ _) | (with_reducible refine yaf ?_ _) | (with_reducible refine yag ?_))); (case side2 => exact HC0_0.out); rintro e w22 ⟨rfl, hb⟩; refine ⟨_, rfl, ?_⟩; replace b1 := yac (yak (upB b1.out) hb); replace b0 := yac (yak (upB b0.out) hb); replace HB := yac (yam (by repeat (with_reducible first | exact HB.out | apply yai | apply yah | apply yaj | refine yal ?_ (Aside0.out ‹_›))) hb); (try clear hb); (try clear hb2); (try clear hk); (try clear hi)))
   go_meet
   case rel => exact ⟨_, (true), (by first | rfl | (simp; done) | (simp [*]; done)), H', ⟨by first | omega | exact Nat.le_refl _⟩, ⟨by exact upB b1.out⟩, ⟨by exact upB b0.out⟩, ⟨by repeat (with_reducible first | exact HB.out | apply yai | apply yah | apply yaj | refine yal ?_ (Aside0.out ‹_›))⟩⟩
 case rest =>
  clear HC3; (try clear c1); (try clear c2); (try clear p2); (try clear c3); (try clear c7); (try clear c9); (try clear c11); (try clear c14); (try clear c16); (try clear c20); (try clear b9); (try clear c0); (try clear c4); (try clear c5); (try clear c8); (try clear d0); (try clear d1); (try clear d9); (try clear e0); (try clear e1); (try clear e2); (try clear e3); (try clear e4); (try clear e5); (try clear e6); (try clear f5); (try clear f6); (try clear f7); (try clear f8); (try clear f9); (try clear g0); (try clear g1); (try clear g9); (try clear h0); (try clear h1); (try clear h2); (try clear h3); (try clear h4); (try clear h5); (try clear i3); (try clear i4); (try clear i5); (try clear i6); (try clear i7); (try clear i8); (try clear i9); (try clear j2); (try clear k1); (try clear k2); (try clear k3); (try clear k4); (try clear k5); (try clear k6); (try clear k7); (try clear d2); (try clear d3); (try clear d4); (try clear d5); (try clear d6); (try clear d7); (try clear d8); (try clear e7); (try clear e8); (try clear e9); (try clear f0); (try clear f1); (try clear f2); (try clear f3); (try clear f4); (try clear g2); (try clear g3); (try clear g4); (try clear g5); (try clear g6); (try clear g7); (try clear g8); (try clear h6); (try clear h7); (try clear h8); (try clear h9); (try clear i0); (try clear i1); (try clear i2); (try clear j3); (try clear j4); (try clear j5); (try clear j6); (try clear j7); (try clear j8); (try clear j9); (try clear k0); (try clear k8); (try clear k9); (try clear l0); (try clear l1); (try clear l2); (try clear l3); (try clear l4); obtain ⟨kq, b8, rfl, HA, HJ2, b1, b0, HB⟩ := hcut
  cases kq with
  | zero => exact absurd HA.out (by simp [impl_TenOk.j0])
  | succ kj2 =>
   have H := HA.out; clear HA
   simp only [impl_TenOk.j0] at H
   by_cases c23 : b8 = true
   ·
    subst c23
    rw [if_pos rfl] at H
    obtain rfl := Option.some.inj H
    go_wp2
    go_ret
    exact ⟨by first | rfl | (simp [*, errW_none, errW_some] <;> rfl), by repeat (with_reducible first | exact HB.out | apply yai | apply yah | apply yaj | refine yal ?_ (Aside0.out ‹_›))⟩
   ·
    replace c23 := Bool.eq_false_iff.mpr c23
    subst c23
    rw [if_neg (show ¬ (false = true) by decide)] at H
    have HC24 := yac H; clear H
    go_upto_region 3 with (fail)
    go_cut [33] (fun v33 wc => ∃ (kq : Nat) (b6 : Bool), v33 = .bool b6 ∧ Aside0 (impl_TenOk.j1 kq b6 l0_0 a0_1 a0_2 a0_3 a0_4 a0_5 a0_6 a1_0 a1_1 a1_2 a1_3 l1_4 l1_5 l1_6 l1_7 = some r) ∧ Aside0 (kq ≤ kj2) ∧ Aside0 (wc.heap[b7]? = some (.cells #[(.slice A0_0 l0_0.length c0_0), .int .i64 a0_1, .int .i64 a0_2, .int .i64 a0_3, .int .i64 a0_4, .int .i64 a0_5, .int .i64 a0_6] 24 (0, 0))) ∧ Aside0 (wc.heap[b2]? = some (.cells #[.int .i64 a1_0, .int .i64 a1_1, .int .i64 a1_2, .int .i64 a1_3, (.slice A1_4 l1_4.length c1_4), (.slice A1_5 l1_5.length c1_5), (.slice A1_6 l1_6.length c1_6), (.slice A1_7 l1_7.length c1_7)] 63 (0, 0))) ∧ Aside0 (Below w.heap.size w wc))
    case first =>
     have H := HC24.out; clear HC24; replace H := Option.bind_eq_some_iff.mp H; obtain ⟨R5, p4, H⟩ := H; (try dsimp only at H); have A25 := yac p4; clear p4
     by_cases c26 : R5 = true
     ·
      subst c26
      rw [if_pos rfl] at H
      replace H := Option.bind_eq_some_iff.mp H; obtain ⟨p5, p6, H⟩ := H; (try dsimp only at H); have A27 := yac p6; clear p6; have H' := yac H; clear H; have S8 := b4.out; have S9 := b3.out; have l6 : wc.cell? ⟨b2, 0, none⟩ = some (.int .i64 a1_0) := (yab b0.out 0).trans rfl; have l7 : wc.cell? ⟨b2, 1, none⟩ = some (.int .i64 a1_1) := (yab b0.out 1).trans rfl; have l8 : wc.cell? ⟨b2, 2, none⟩ = some (.int .i64 a1_2) := (yab b0.out 2).trans rfl; have l9 : wc.cell? ⟨b2, 3, none⟩ = some (.int .i64 a1_3) := (yab b0.out 3).trans rfl; have m0 : wc.cell? ⟨b2, 4, none⟩ = some (.slice A1_4 l1_4.length c1_4) := (yab b0.out 4).trans rfl; have m1 : wc.cell? ⟨b2, 5, none⟩ = some (.slice A1_5 l1_5.length c1_5) := (yab b0.out 5).trans rfl; have m2 : wc.cell? ⟨b2, 6, none⟩ = some (.slice A1_6 l1_6.length c1_6) := (yab b0.out 6).trans rfl; have m3 : wc.cell? ⟨b2, 7, none⟩ = some (.slice A1_7 l1_7.length c1_7) := (yab b0.out 7).trans rfl; have m4 := yaa b0.out 0; have m5 := yaa b0.out 1; have m6 := yaa b0.out 2; have m7 := yaa b0.out 3; have m8 := yaa b0.out 4; have m9 := yaa b0.out 5; have n0 := yaa b0.out 6; have n1 := yaa b0.out 7
      go_wp2_with (first | ((with_reducible refine gate_callee (f := 62) rfl ?_); refine gl_ (some 26) rfl Try.func62 #[.int .i64 a1_2, .int .i64 0, .int .i64 a1_0] ?_; (with_reducible refine (impl_within.calls a1_2 0 a1_0 true _ A25.out).mono ?_); rintro e w' ⟨rfl, ⟨nd, rfl⟩⟩; refine ⟨_, rfl, ?_⟩) | (go_at_call 62; (with_reducible refine (impl_within.calls a1_3 0 9999 p5 _ A27.out).mono ?_); rintro e w' ⟨rfl, ⟨nd, rfl⟩⟩))
      go_meet
      case rel => exact ⟨_, (!p5), (by first | rfl | (simp; done) | (simp [*]; done)), H', ⟨by have := HJ2.out; first | omega | exact Nat.le_refl _⟩, ⟨by exact upB b1.out⟩, ⟨by exact upB b0.out⟩, ⟨by repeat (with_reducible first | exact HB.out | apply yai | apply yah | apply yaj | refine yal ?_ (Aside0.out ‹_›))⟩⟩
     ·
      replace c26 := Bool.eq_false_iff.mpr c26
      subst c26
      rw [if_neg (show ¬ (false = true) by decide)] at H
      have H' := yac H; clear H; have T0 := b4.out; have T1 := b3.out; have n2 : wc.cell? ⟨b2, 0, none⟩ = some (.int .i64 a1_0) := (yab b0.out 0).trans rfl; have n3 : wc.cell? ⟨b2, 1, none⟩ = some (.int .i64 a1_1) := (yab b0.out 1).trans rfl; have n4 : wc.cell? ⟨b2, 2, none⟩ = some (.int .i64 a1_2) := (yab b0.out 2).trans rfl; have n5 : wc.cell? ⟨b2, 3, none⟩ = some (.int .i64 a1_3) := (yab b0.out 3).trans rfl; have n6 : wc.cell? ⟨b2, 4, none⟩ = some (.slice A1_4 l1_4.length c1_4) := (yab b0.out 4).trans rfl; have n7 : wc.cell? ⟨b2, 5, none⟩ = some (.slice A1_5 l1_5.length c1_5) := (yab b0.out 5).trans rfl; have n8 : wc.cell? ⟨b2, 6, none⟩ = some (.slice A1_6 l1_6.length c1_6) := (yab b0.out 6).trans rfl; have n9 : wc.cell? ⟨b2, 7, none⟩ = some (.slice A1_7 l1_7.length c1_7) := (yab b0.out 7).trans rfl; have o0 := yaa b0.out 0; have o1 := yaa b0.out 1; have o2 := yaa b0.out 2; have o3 := yaa b0.out 3; have o4 := yaa b0.out 4; have o5 := yaa b0.out 5; have o6 := yaa b0.out 6; have o7 := yaa b0.out 7
      go_wp2_with (first | ((with_reducible refine gate_callee (f := 62) rfl ?_); refine gl_ (some 26) rfl Try.func62 #[.int .i64 a1_2, .int .i64 0, .int .i64 a1_0] ?_; (with_reducible refine (impl_within.calls a1_2 0 a1_0 false _ A25.out).mono ?_); rintro e w' ⟨rfl, ⟨nd, rfl⟩⟩; refine ⟨_, rfl, ?_⟩))
      go_meet
      case rel => exact ⟨_, (true), (by first | rfl | (simp; done) | (simp [*]; done)), H', ⟨by have := HJ2.out; first | omega | exact Nat.le_refl _⟩, ⟨by exact upB b1.out⟩, ⟨by exact upB b0.out⟩, ⟨by repeat (with_reducible first | exact HB.out | apply yai | apply yah | apply yaj | refine yal ?_ (Aside0.out ‹_›))⟩⟩
    case rest =>
     clear HC24; (try clear c1); (try clear c2); (try clear p2); (try clear c3); (try clear c6); (try clear c7); (try clear c9); (try clear c11); (try clear c14); (try clear c16); (try clear c20); (try clear c23); (try clear c26); (try clear c28); (try clear c30); (try clear b9); (try clear c0); (try clear c4); (try clear c5); (try clear c8); (try clear d0); (try clear d1); (try clear d9); (try clear e0); (try clear e1); (try clear e2); (try clear e3); (try clear e4); (try clear e5); (try clear e6); (try clear f5); (try clear f6); (try clear f7); (try clear f8); (try clear f9); (try clear g0); (try clear g1); (try clear g9); (try clear h0); (try clear h1); (try clear h2); (try clear h3); (try clear h4); (try clear h5); (try clear i3); (try clear i4); (try clear i5); (try clear i6); (try clear i7); (try clear i8); (try clear i9); (try clear j2); (try clear k1); (try clear k2); (try clear k3); (try clear k4); (try clear k5); (try clear k6); (try clear k7); (try clear l6); (try clear l7); (try clear l8); (try clear l9); (try clear m0); (try clear m1); (try clear m2); (try clear m3); (try clear n2); (try clear n3); (try clear n4); (try clear n5); (try clear n6); (try clear n7); (try clear n8); (try clear n9); (try clear d2); (try clear d3); (try clear d4); (try clear d5); (try clear d6); (try clear d7); (try clear d8); (try clear e7); (try clear e8); (try clear e9); (try clear f0); (try clear f1); (try clear f2); (try clear f3); (try clear f4); (try clear g2); (try clear g3); (try clear g4); (try clear g5); (try clear g6); (try clear g7); (try clear g8); (try clear h6); (try clear h7); (try clear h8); (try clear h9); (try clear i0); (try clear i1); (try clear i2); (try clear j3); (try clear j4); (try clear j5); (try clear j6); (try clear j7); (try clear j8); (try clear j9); (try clear k0); (try clear k8); (try clear k9); (try clear l0); (try clear l1); (try clear l2); (try clear l3); (try clear l4); (try clear m4); (try clear m5); (try clear m6); (try clear m7); (try clear m8); (try clear m9); (try clear n0); (try clear n1); (try clear o0); (try clear o1); (try clear o2); (try clear o3); (try clear o4); (try clear o5); (try clear o6); (try clear o7); (try clear p2); obtain ⟨kq, b6, rfl, HA, HJ23, b1, b0, HB⟩ := hcut
     cases kq with
     | zero => exact absurd HA.out (by simp [impl_TenOk.j1])
     | succ kj23 =>
      have H := HA.out; clear HA
      simp only [impl_TenOk.j1] at H
      by_cases c32 : b6 = true
      ·
       subst c32
       rw [if_pos rfl] at H
       obtain rfl := Option.some.inj H
       go_wp2
       go_ret
       exact ⟨by first | rfl | (simp [*, errW_none, errW_some] <;> rfl), by repeat (with_reducible first | exact HB.out | apply yai | apply yah | apply yaj | refine yal ?_ (Aside0.out ‹_›))⟩
      ·
       replace c32 := Bool.eq_false_iff.mpr c32
       subst c32
       rw [if_neg (show ¬ (false = true) by decide)] at H
       replace H := Option.bind_eq_some_iff.mp H; obtain ⟨R6, p7, H⟩ := H; (try dsimp only at H); have A33 := yac p7; clear p7
       by_cases c34 : R6 = true
       ·
        subst c34
        rw [if_pos rfl] at H
        replace H := Option.bind_eq_some_iff.mp H; obtain ⟨R7, p8, H⟩ := H; (try dsimp only at H); have A35 := yac p8; clear p8
        by_cases c36 : R7 = true
        ·
         subst c36
         rw [if_pos rfl] at H
         replace H := Option.bind_eq_some_iff.mp H; obtain ⟨R8, p9, H⟩ := H; (try dsimp only at H); have A37 := yac p9; clear p9
         by_cases c38 : R8 = true
         ·
          subst c38
          rw [if_pos rfl] at H
          replace H := Option.bind_eq_some_iff.mp H; obtain ⟨R9, q0, H⟩ := H; (try dsimp only at H); have A39 := yac q0; clear q0; obtain rfl := Option.some.inj H; have T2 := b3.out; have T3 := b4.out; obtain ⟨q1, q2, q3, q4, q5, q6, q7⟩ := cc7_ b1.out; have q8 := yaa b1.out 0; have q9 := yaa b1.out 1; have r0 := yaa b1.out 2; have r1 := yaa b1.out 3; have r2 := yaa b1.out 4; have r3 := yaa b1.out 5; have r4 := yaa b1.out 6; have r5 : wc.cell? ⟨b2, 0, none⟩ = some (.int .i64 a1_0) := (yab b0.out 0).trans rfl; have r6 : wc.cell? ⟨b2, 1, none⟩ = some (.int .i64 a1_1) := (yab b0.out 1).trans rfl; have r7 : wc.cell? ⟨b2, 2, none⟩ = some (.int .i64 a1_2) := (yab b0.out 2).trans rfl; have r8 : wc.cell? ⟨b2, 3, none⟩ = some (.int .i64 a1_3) := (yab b0.out 3).trans rfl; have r9 : wc.cell? ⟨b2, 4, none⟩ = some (.slice A1_4 l1_4.length c1_4) := (yab b0.out 4).trans rfl; have s0 : wc.cell? ⟨b2, 5, none⟩ = some (.slice A1_5 l1_5.length c1_5) := (yab b0.out 5).trans rfl; have s1 : wc.cell? ⟨b2, 6, none⟩ = some (.slice A1_6 l1_6.length c1_6) := (yab b0.out 6).trans rfl; have s2 : wc.cell? ⟨b2, 7, none⟩ = some (.slice A1_7 l1_7.length c1_7) := (yab b0.out 7).trans rfl; have s3 := yaa b0.out 0; have s4 := yaa b0.out 1; have s5 := yaa b0.out 2; have s6 := yaa b0.out 3; have s7 := yaa b0.out 4; have s8 := yaa b0.out 5; have s9 := yaa b0.out 6; have t0 := yaa b0.out 7
          go_wp2_with (first | ((with_reducible refine gate_callee (f := 88) rfl ?_); refine gl_ (some 36) rfl Try.func88 #[.agg #[.slice A0_0 l0_0.length c0_0, .int .i64 a0_1, .int .i64 a0_2, .int .i64 a0_3, .int .i64 a0_4, .int .i64 a0_5, .int .i64 a0_6], .agg #[.int .i64 a1_0, .int .i64 a1_1, .int .i64 a1_2, .int .i64 a1_3, .slice A1_4 l1_4.length c1_4, .slice A1_5 l1_5.length c1_5, .slice A1_6 l1_6.length c1_6, .slice A1_7 l1_7.length c1_7]] ?_; (with_reducible refine (impl_jobsOk.calls kj23 _ _ l0_0 a0_1 a0_2 a0_3 a0_4 a0_5 a0_6 a1_0 a1_1 a1_2 a1_3 _ _ l1_4 _ _ l1_5 _ _ l1_6 _ _ l1_7 true _ ?side1 ?side2 ?side3 ?side4 ?side5 ?side6 ?side7 ?side8 ?side9 ?side10 A33.out).mono ?_); (case side1 => repeat (first | exact (yad HR0_0.out HB.out) | (with_reducible refine yae ?_ _) | (with_reducible refine yaf ?_ _) | (with_reducible refine yag ?_))); (case side2 => exact HC0_0.out); (case side3 => repeat (first | exact (yad HR1_4.out HB.out) | (with_reducible refine yae ?_ _) | (with_reducible refine yaf ?_ _) | (with_reducible refine yag ?_))); (case side4 => exact HC1_4.out); (case side5 => repeat (first | exact (yad HR1_5.out HB.out) | (with_reducible refine yae ?_ _) | (with_reducible refine yaf ?_ _) | (with_reducible refine yag ?_))); (case side6 => exact HC1_5.out); (case side7 => repeat (first | exact (yad HR1_6.out HB.out) | (with_reducible refine yae ?_ _) | (with_reducible refine yaf ?_ _) | (with_reducible refine yag ?_))); (case side8 => exact HC1_6.out); (case side9 => repeat (first | exact (yad HR1_7.out HB.out) | (with_reducible refine yae ?_ _) | (with_reducible refine yaf ?_ _) | (with_reducible refine yag ?_))); (case side10 => exact HC1_7.out); rintro e w43 ⟨rfl, hb⟩; refine ⟨_, rfl, ?_⟩; replace b1 := yac (yak (upB b1.out) hb); replace b0 := yac (yak (upB b0.out) hb); replace HB := yac (yam (by repeat (with_reducible first | exact HB.out | apply yai | apply yah | apply yaj | refine yal ?_ (Aside0.out ‹_›))) hb); (try clear hb); (try clear hb2); (try clear hk); (try clear hi); obtain ⟨t1, t2, t3, t4, t5, t6, t7⟩ := cc7_ b1.out; have t8 := yaa b1.out 0; have t9 := yaa b1.out 1; have u0 := yaa b1.out 2; have u1 := yaa b1.out 3; have u2 := yaa b1.out 4; have u3 := yaa b1.out 5; have u4 := yaa b1.out 6; have u5 : w43.cell? ⟨b2, 0, none⟩ = some (.int .i64 a1_0) := (yab b0.out 0).trans rfl; have u6 : w43.cell? ⟨b2, 1, none⟩ = some (.int .i64 a1_1) := (yab b0.out 1).trans rfl; have u7 : w43.cell? ⟨b2, 2, none⟩ = some (.int .i64 a1_2) := (yab b0.out 2).trans rfl; have u9 : w43.cell? ⟨b2, 3, none⟩ = some (.int .i64 a1_3) := (yab b0.out 3).trans rfl; have v0 : w43.cell? ⟨b2, 4, none⟩ = some (.slice A1_4 l1_4.length c1_4) := (yab b0.out 4).trans rfl; have v1 : w43.cell? ⟨b2, 5, none⟩ = some (.slice A1_5 l1_5.length c1_5) := (yab b0.out 5).trans rfl; have v2 : w43.cell? ⟨b2, 6, none⟩ = some (.slice A1_6 l1_6.length c1_6) := (yab b0.out 6).trans rfl; have v3 : w43.cell? ⟨b2, 7, none⟩ = some (.slice A1_7 l1_7.length c1_7) := (yab b0.out 7).trans rfl; have v4 := yaa b0.out 0; have v5 := yaa b0.out 1; have v6 := yaa b0.out 2; have v7 := yaa b0.out 3; have v8 := yaa b0.out 4; have v9 := yaa b0.out 5; have w0 := yaa b0.out 6; have w1 := yaa b0.out 7) | (go_at_call 89; (with_reducible refine (impl_filesOk.calls kj23 _ _ l0_0 a0_1 a0_2 a0_3 a0_4 a0_5 a0_6 a1_0 a1_1 a1_2 a1_3 _ _ l1_4 _ _ l1_5 _ _ l1_6 _ _ l1_7 true _ ?side1 ?side2 ?side3 ?side4 ?side5 ?side6 ?side7 ?side8 ?side9 ?side10 A35.out).mono ?_); (case side1 => repeat (first | exact (yad HR0_0.out HB.out) | (with_reducible refine yae ?_ _) | (with_reducible refine yaf ?_ _) | (with_reducible refine yag ?_))); (case side2 => exact HC0_0.out); (case side3 => repeat (first | exact (yad HR1_4.out HB.out) | (with_reducible refine yae ?_ _) | (with_reducible refine yaf ?_ _) | (with_reducible refine yag ?_))); (case side4 => exact HC1_4.out); (case side5 => repeat (first | exact (yad HR1_5.out HB.out) | (with_reducible refine yae ?_ _) | (with_reducible refine yaf ?_ _) | (with_reducible refine yag ?_))); (case side6 => exact HC1_5.out); (case side7 => repeat (first | exact (yad HR1_6.out HB.out) | (with_reducible refine yae ?_ _) | (with_reducible refine yaf ?_ _) | (with_reducible refine yag ?_))); (case side8 => exact HC1_6.out); (case side9 => repeat (first | exact (yad HR1_7.out HB.out) | (with_reducible refine yae ?_ _) | (with_reducible refine yaf ?_ _) | (with_reducible refine yag ?_))); (case side10 => exact HC1_7.out); rintro e w46 ⟨rfl, hb⟩; replace b1 := yac (yak (upB b1.out) hb); replace b0 := yac (yak (upB b0.out) hb); replace HB := yac (yam (by repeat (with_reducible first | exact HB.out | apply yai | apply yah | apply yaj | refine yal ?_ (Aside0.out ‹_›))) hb); (try clear hb); (try clear hb2); (try clear hk); (try clear hi); have w2 : w46.cell? ⟨b2, 0, none⟩ = some (.int .i64 a1_0) := (yab b0.out 0).trans rfl; have w3 : w46.cell? ⟨b2, 1, none⟩ = some (.int .i64 a1_1) := (yab b0.out 1).trans rfl; have w6 : w46.cell? ⟨b2, 2, none⟩ = some (.int .i64 a1_2) := (yab b0.out 2).trans rfl; have w7 : w46.cell? ⟨b2, 3, none⟩ = some (.int .i64 a1_3) := (yab b0.out 3).trans rfl; have w8 : w46.cell? ⟨b2, 4, none⟩ = some (.slice A1_4 l1_4.length c1_4) := (yab b0.out 4).trans rfl; have w9 : w46.cell? ⟨b2, 5, none⟩ = some (.slice A1_5 l1_5.length c1_5) := (yab b0.out 5).trans rfl; have x0 : w46.cell? ⟨b2, 6, none⟩ = some (.slice A1_6 l1_6.length c1_6) := (yab b0.out 6).trans rfl; have x1 : w46.cell? ⟨b2, 7, none⟩ = some (.slice A1_7 l1_7.length c1_7) := (yab b0.out 7).trans rfl; have x2 := yaa b0.out 0; have x3 := yaa b0.out 1; have x4 := yaa b0.out 2; have x5 := yaa b0.out 3; have x6 := yaa b0.out 4; have x7 := yaa b0.out 5; have x8 := yaa b0.out 6; have x9 := yaa b0.out 7) | (go_at_call 90; (with_reducible refine (impl_askedOk.calls kj23 a1_0 a1_1 a1_2 a1_3 _ _ l1_4 _ _ l1_5 _ _ l1_6 _ _ l1_7 true _ ?side1 ?side2 ?side3 ?side4 ?side5 ?side6 ?side7 ?side8 A37.out).mono ?_); (case side1 => repeat (first | exact (yad HR1_4.out HB.out) | (with_reducible refine yae ?_ _) | (with_reducible refine yaf ?_ _) | (with_reducible refine yag ?_))); (case side2 => exact HC1_4.out); (case side3 => repeat (first | exact (yad HR1_5.out HB.out) | (with_reducible refine yae ?_ _) | (with_reducible refine yaf ?_ _) | (with_reducible refine yag ?_))); (case side4 => exact HC1_5.out); (case side5 => repeat (first | exact (yad HR1_6.out HB.out) | (with_reducible refine yae ?_ _) | (with_reducible refine yaf ?_ _) | (with_reducible refine yag ?_))); (case side6 => exact HC1_6.out); (case side7 => repeat (first | exact (yad HR1_7.out HB.out) | (with_reducible refine yae ?_ _) | (with_reducible refine yaf ?_ _) | (with_reducible refine yag ?_))); (case side8 => exact HC1_7.out); rintro e w48 ⟨rfl, hb⟩; replace b1 := yac (yak (upB b1.out) hb); replace b0 := yac (yak (upB b0.out) hb); replace HB := yac (yam (by repeat (with_reducible first | exact HB.out | apply yai | apply yah | apply yaj | refine yal ?_ (Aside0.out ‹_›))) hb); (try clear hb); (try clear hb2); (try clear hk); (try clear hi); have z0 : w48.cell? ⟨b2, 0, none⟩ = some (.int .i64 a1_0) := (yab b0.out 0).trans rfl; have z1 : w48.cell? ⟨b2, 1, none⟩ = some (.int .i64 a1_1) := (yab b0.out 1).trans rfl; have z2 : w48.cell? ⟨b2, 2, none⟩ = some (.int .i64 a1_2) := (yab b0.out 2).trans rfl; have z3 : w48.cell? ⟨b2, 3, none⟩ = some (.int .i64 a1_3) := (yab b0.out 3).trans rfl; have z4 : w48.cell? ⟨b2, 4, none⟩ = some (.slice A1_4 l1_4.length c1_4) := (yab b0.out 4).trans rfl; have z5 : w48.cell? ⟨b2, 5, none⟩ = some (.slice A1_5 l1_5.length c1_5) := (yab b0.out 5).trans rfl; have z6 : w48.cell? ⟨b2, 6, none⟩ = some (.slice A1_6 l1_6.length c1_6) := (yab b0.out 6).trans rfl; have z7 : w48.cell? ⟨b2, 7, none⟩ = some (.slice A1_7 l1_7.length c1_7) := (yab b0.out 7).trans rfl; have z8 := yaa b0.out 0; have z9 := yaa b0.out 1; have A0 := yaa b0.out 2; have A1 := yaa b0.out 3; have A2 := yaa b0.out 4; have A3 := yaa b0.out 5; have A4 := yaa b0.out 6; have A5 := yaa b0.out 7) | (go_at_call 91; (with_reducible refine (impl_outsOk.calls kj23 a1_0 a1_1 a1_2 a1_3 _ _ l1_4 _ _ l1_5 _ _ l1_6 _ _ l1_7 R9 _ ?side1 ?side2 ?side3 ?side4 ?side5 ?side6 ?side7 ?side8 A39.out).mono ?_); (case side1 => repeat (first | exact (yad HR1_4.out HB.out) | (with_reducible refine yae ?_ _) | (with_reducible refine yaf ?_ _) | (with_reducible refine yag ?_))); (case side2 => exact HC1_4.out); (case side3 => repeat (first | exact (yad HR1_5.out HB.out) | (with_reducible refine yae ?_ _) | (with_reducible refine yaf ?_ _) | (with_reducible refine yag ?_))); (case side4 => exact HC1_5.out); (case side5 => repeat (first | exact (yad HR1_6.out HB.out) | (with_reducible refine yae ?_ _) | (with_reducible refine yaf ?_ _) | (with_reducible refine yag ?_))); (case side6 => exact HC1_6.out); (case side7 => repeat (first | exact (yad HR1_7.out HB.out) | (with_reducible refine yae ?_ _) | (with_reducible refine yaf ?_ _) | (with_reducible refine yag ?_))); (case side8 => exact HC1_7.out); rintro e w50 ⟨rfl, hb⟩; replace b1 := yac (yak (upB b1.out) hb); replace b0 := yac (yak (upB b0.out) hb); replace HB := yac (yam (by repeat (with_reducible first | exact HB.out | apply yai | apply yah | apply yaj | refine yal ?_ (Aside0.out ‹_›))) hb); (try clear hb); (try clear hb2); (try clear hk); (try clear hi)))
          go_ret
          exact ⟨by first | rfl | (simp [*, errW_none, errW_some] <;> rfl), by repeat (with_reducible first | exact HB.out | apply yai | apply yah | apply yaj | refine yal ?_ (Aside0.out ‹_›))⟩
         ·
          replace c38 := Bool.eq_false_iff.mpr c38
          subst c38
          rw [if_neg (show ¬ (false = true) by decide)] at H
          obtain rfl := Option.some.inj H; have T4 := b3.out; have T5 := b4.out; obtain ⟨A7, A9, B0, B1, B2, B3, B4⟩ := cc7_ b1.out; have B5 := yaa b1.out 0; have B6 := yaa b1.out 1; have B7 := yaa b1.out 2; have B8 := yaa b1.out 3; have B9 := yaa b1.out 4; have C0 := yaa b1.out 5; have C1 := yaa b1.out 6; have C2 : wc.cell? ⟨b2, 0, none⟩ = some (.int .i64 a1_0) := (yab b0.out 0).trans rfl; have C3 : wc.cell? ⟨b2, 1, none⟩ = some (.int .i64 a1_1) := (yab b0.out 1).trans rfl; have C4 : wc.cell? ⟨b2, 2, none⟩ = some (.int .i64 a1_2) := (yab b0.out 2).trans rfl; have C5 : wc.cell? ⟨b2, 3, none⟩ = some (.int .i64 a1_3) := (yab b0.out 3).trans rfl; have C6 : wc.cell? ⟨b2, 4, none⟩ = some (.slice A1_4 l1_4.length c1_4) := (yab b0.out 4).trans rfl; have C7 : wc.cell? ⟨b2, 5, none⟩ = some (.slice A1_5 l1_5.length c1_5) := (yab b0.out 5).trans rfl; have C8 : wc.cell? ⟨b2, 6, none⟩ = some (.slice A1_6 l1_6.length c1_6) := (yab b0.out 6).trans rfl; have C9 : wc.cell? ⟨b2, 7, none⟩ = some (.slice A1_7 l1_7.length c1_7) := (yab b0.out 7).trans rfl; have D0 := yaa b0.out 0; have D1 := yaa b0.out 1; have D2 := yaa b0.out 2; have D3 := yaa b0.out 3; have D4 := yaa b0.out 4; have D5 := yaa b0.out 5; have D6 := yaa b0.out 6; have D7 := yaa b0.out 7
          go_wp2_with (first | ((with_reducible refine gate_callee (f := 88) rfl ?_); refine gl_ (some 36) rfl Try.func88 #[.agg #[.slice A0_0 l0_0.length c0_0, .int .i64 a0_1, .int .i64 a0_2, .int .i64 a0_3, .int .i64 a0_4, .int .i64 a0_5, .int .i64 a0_6], .agg #[.int .i64 a1_0, .int .i64 a1_1, .int .i64 a1_2, .int .i64 a1_3, .slice A1_4 l1_4.length c1_4, .slice A1_5 l1_5.length c1_5, .slice A1_6 l1_6.length c1_6, .slice A1_7 l1_7.length c1_7]] ?_; (with_reducible refine (impl_jobsOk.calls kj23 _ _ l0_0 a0_1 a0_2 a0_3 a0_4 a0_5 a0_6 a1_0 a1_1 a1_2 a1_3 _ _ l1_4 _ _ l1_5 _ _ l1_6 _ _ l1_7 true _ ?side1 ?side2 ?side3 ?side4 ?side5 ?side6 ?side7 ?side8 ?side9 ?side10 A33.out).mono ?_); (case side1 => repeat (first | exact (yad HR0_0.out HB.out) | (with_reducible refine yae ?_ _) | (with_reducible refine yaf ?_ _) | (with_reducible refine yag ?_))); (case side2 => exact HC0_0.out); (case side3 => repeat (first | exact (yad HR1_4.out HB.out) | (with_reducible refine yae ?_ _) | (with_reducible refine yaf ?_ _) | (with_reducible refine yag ?_))); (case side4 => exact HC1_4.out); (case side5 => repeat (first | exact (yad HR1_5.out HB.out) | (with_reducible refine yae ?_ _) | (with_reducible refine yaf ?_ _) | (with_reducible refine yag ?_))); (case side6 => exact HC1_5.out); (case side7 => repeat (first | exact (yad HR1_6.out HB.out) | (with_reducible refine yae ?_ _) | (with_reducible refine yaf ?_ _) | (with_reducible refine yag ?_))); (case side8 => exact HC1_6.out); (case side9 => repeat (first | exact (yad HR1_7.out HB.out) | (with_reducible refine yae ?_ _) | (with_reducible refine yaf ?_ _) | (with_reducible refine yag ?_))); (case side10 => exact HC1_7.out); rintro e w54 ⟨rfl, hb⟩; refine ⟨_, rfl, ?_⟩; replace b1 := yac (yak (upB b1.out) hb); replace b0 := yac (yak (upB b0.out) hb); replace HB := yac (yam (by repeat (with_reducible first | exact HB.out | apply yai | apply yah | apply yaj | refine yal ?_ (Aside0.out ‹_›))) hb); (try clear hb); (try clear hb2); (try clear hk); (try clear hi); obtain ⟨D8, D9, E0, E1, E2, E3, E4⟩ := cc7_ b1.out; have E5 := yaa b1.out 0; have E6 := yaa b1.out 1; have E7 := yaa b1.out 2; have E8 := yaa b1.out 3; have E9 := yaa b1.out 4; have F0 := yaa b1.out 5; have F1 := yaa b1.out 6; have F2 : w54.cell? ⟨b2, 0, none⟩ = some (.int .i64 a1_0) := (yab b0.out 0).trans rfl; have F3 : w54.cell? ⟨b2, 1, none⟩ = some (.int .i64 a1_1) := (yab b0.out 1).trans rfl; have F4 : w54.cell? ⟨b2, 2, none⟩ = some (.int .i64 a1_2) := (yab b0.out 2).trans rfl; have F5 : w54.cell? ⟨b2, 3, none⟩ = some (.int .i64 a1_3) := (yab b0.out 3).trans rfl; have F6 : w54.cell? ⟨b2, 4, none⟩ = some (.slice A1_4 l1_4.length c1_4) := (yab b0.out 4).trans rfl; have F7 : w54.cell? ⟨b2, 5, none⟩ = some (.slice A1_5 l1_5.length c1_5) := (yab b0.out 5).trans rfl; have F8 : w54.cell? ⟨b2, 6, none⟩ = some (.slice A1_6 l1_6.length c1_6) := (yab b0.out 6).trans rfl; have F9 : w54.cell? ⟨b2, 7, none⟩ = some (.slice A1_7 l1_7.length c1_7) := (yab b0.out 7).trans rfl; have G0 := yaa b0.out 0; have G1 := yaa b0.out 1; have G2 := yaa b0.out 2; have G3 := yaa b0.out 3; have G4 := yaa b0.out 4; have G5 := yaa b0.out 5; have G6 := yaa b0.out 6; have G7 := yaa b0.out 7) | (go_at_call 89; (with_reducible refine (impl_filesOk.calls kj23 _ _ l0_0 a0_1 a0_2 a0_3 a0_4 a0_5 a0_6 a1_0 a1_1 a1_2 a1_3 _ _ l1_4 _ _ l1_5 _ _ l1_6 _ _ l1_7 true _ ?side1 ?side2 ?side3 ?side4 ?side5 ?side6 ?side7 ?side8 ?side9 ?side10 A35.out).mono ?_); (case side1 => repeat (first | exact (yad HR0_0.out HB.out) | (with_reducible refine yae ?_ _) | (with_reducible refine yaf ?_ _) | (with_reducible refine yag ?_))); (case side2 => exact HC0_0.out); (case side3 => repeat (first | exact (yad HR1_4.out HB.out) | (with_reducible refine yae ?_ _) | (with_reducible refine yaf ?_ _) | (with_reducible refine yag ?_))); (case side4 => exact HC1_4.out); (case side5 => repeat (first | exact (yad HR1_5.out HB.out) | (with_reducible refine yae ?_ _) | (with_reducible refine yaf ?_ _) | (with_reducible refine yag ?_))); (case side6 => exact HC1_5.out); (case side7 => repeat (first | exact (yad HR1_6.out HB.out) | (with_reducible refine yae ?_ _) | (with_reducible refine yaf ?_ _) | (with_reducible refine yag ?_))); (case side8 => exact HC1_6.out); (case side9 => repeat (first | exact (yad HR1_7.out HB.out) | (with_reducible refine yae ?_ _) | (with_reducible refine yaf ?_ _) | (with_reducible refine yag ?_))); (case side10 => exact HC1_7.out); rintro e w57 ⟨rfl, hb⟩; replace b1 := yac (yak (upB b1.out) hb); replace b0 := yac (yak (upB b0.out) hb); replace HB := yac (yam (by repeat (with_reducible first | exact HB.out | apply yai | apply yah | apply yaj | refine yal ?_ (Aside0.out ‹_›))) hb); (try clear hb); (try clear hb2); (try clear hk); (try clear hi); have G8 : w57.cell? ⟨b2, 0, none⟩ = some (.int .i64 a1_0) := (yab b0.out 0).trans rfl; have G9 : w57.cell? ⟨b2, 1, none⟩ = some (.int .i64 a1_1) := (yab b0.out 1).trans rfl; have H0 : w57.cell? ⟨b2, 2, none⟩ = some (.int .i64 a1_2) := (yab b0.out 2).trans rfl; have H1 : w57.cell? ⟨b2, 3, none⟩ = some (.int .i64 a1_3) := (yab b0.out 3).trans rfl; have H2 : w57.cell? ⟨b2, 4, none⟩ = some (.slice A1_4 l1_4.length c1_4) := (yab b0.out 4).trans rfl; have H3 : w57.cell? ⟨b2, 5, none⟩ = some (.slice A1_5 l1_5.length c1_5) := (yab b0.out 5).trans rfl; have H4 : w57.cell? ⟨b2, 6, none⟩ = some (.slice A1_6 l1_6.length c1_6) := (yab b0.out 6).trans rfl; have H5 : w57.cell? ⟨b2, 7, none⟩ = some (.slice A1_7 l1_7.length c1_7) := (yab b0.out 7).trans rfl; have H6 := yaa b0.out 0; have H7 := yaa b0.out 1; have H8 := yaa b0.out 2; have H9 := yaa b0.out 3; have I0 := yaa b0.out 4; have I1 := yaa b0.out 5; have I2 := yaa b0.out 6; have I3 := yaa b0.out 7) | (go_at_call 90; (with_reducible refine (impl_askedOk.calls kj23 a1_0 a1_1 a1_2 a1_3 _ _ l1_4 _ _ l1_5 _ _ l1_6 _ _ l1_7 false _ ?side1 ?side2 ?side3 ?side4 ?side5 ?side6 ?side7 ?side8 A37.out).mono ?_); (case side1 => repeat (first | exact (yad HR1_4.out HB.out) | (with_reducible refine yae ?_ _) | (with_reducible refine yaf ?_ _) | (with_reducible refine yag ?_))); (case side2 => exact HC1_4.out); (case side3 => repeat (first | exact (yad HR1_5.out HB.out) | (with_reducible refine yae ?_ _) | (with_reducible refine yaf ?_ _) | (with_reducible refine yag ?_))); (case side4 => exact HC1_5.out); (case side5 => repeat (first | exact (yad HR1_6.out HB.out) | (with_reducible refine yae ?_ _) | (with_reducible refine yaf ?_ _) | (with_reducible refine yag ?_))); (case side6 => exact HC1_6.out); (case side7 => repeat (first | exact (yad HR1_7.out HB.out) | (with_reducible refine yae ?_ _) | (with_reducible refine yaf ?_ _) | (with_reducible refine yag ?_))); (case side8 => exact HC1_7.out); rintro e w59 ⟨rfl, hb⟩; replace b1 := yac (yak (upB b1.out) hb); replace b0 := yac (yak (upB b0.out) hb); replace HB := yac (yam (by repeat (with_reducible first | exact HB.out | apply yai | apply yah | apply yaj | refine yal ?_ (Aside0.out ‹_›))) hb); (try clear hb); (try clear hb2); (try clear hk); (try clear hi)))
          go_ret
          exact ⟨by first | rfl | (simp [*, errW_none, errW_some] <;> rfl), by repeat (with_reducible first | exact HB.out | apply yai | apply yah | apply yaj | refine yal ?_ (Aside0.out ‹_›))⟩
        ·
         replace c36 := Bool.eq_false_iff.mpr c36
         subst c36
         rw [if_neg (show ¬ (false = true) by decide)] at H
         obtain rfl := Option.some.inj H; have T6 := b3.out; have T7 := b4.out; obtain ⟨I4, I5, I6, I7, I8, I9, J0⟩ := cc7_ b1.out; have J1 := yaa b1.out 0; have J2 := yaa b1.out 1; have J3 := yaa b1.out 2; have J4 := yaa b1.out 3; have J5 := yaa b1.out 4; have J6 := yaa b1.out 5; have J7 := yaa b1.out 6; have J8 : wc.cell? ⟨b2, 0, none⟩ = some (.int .i64 a1_0) := (yab b0.out 0).trans rfl; have J9 : wc.cell? ⟨b2, 1, none⟩ = some (.int .i64 a1_1) := (yab b0.out 1).trans rfl; have K0 : wc.cell? ⟨b2, 2, none⟩ = some (.int .i64 a1_2) := (yab b0.out 2).trans rfl; have K1 : wc.cell? ⟨b2, 3, none⟩ = some (.int .i64 a1_3) := (yab b0.out 3).trans rfl; have K2 : wc.cell? ⟨b2, 4, none⟩ = some (.slice A1_4 l1_4.length c1_4) := (yab b0.out 4).trans rfl; have K3 : wc.cell? ⟨b2, 5, none⟩ = some (.slice A1_5 l1_5.length c1_5) := (yab b0.out 5).trans rfl; have K4 : wc.cell? ⟨b2, 6, none⟩ = some (.slice A1_6 l1_6.length c1_6) := (yab b0.out 6).trans rfl; have K5 : wc.cell? ⟨b2, 7, none⟩ = some (.slice A1_7 l1_7.length c1_7) := (yab b0.out 7).trans rfl; have K6 := yaa b0.out 0; have K7 := yaa b0.out 1; have K8 := yaa b0.out 2; have K9 := yaa b0.out 3; have L0 := yaa b0.out 4; have L1 := yaa b0.out 5; have L2 := yaa b0.out 6; have L3 := yaa b0.out 7
         go_wp2_with (first | ((with_reducible refine gate_callee (f := 88) rfl ?_); refine gl_ (some 36) rfl Try.func88 #[.agg #[.slice A0_0 l0_0.length c0_0, .int .i64 a0_1, .int .i64 a0_2, .int .i64 a0_3, .int .i64 a0_4, .int .i64 a0_5, .int .i64 a0_6], .agg #[.int .i64 a1_0, .int .i64 a1_1, .int .i64 a1_2, .int .i64 a1_3, .slice A1_4 l1_4.length c1_4, .slice A1_5 l1_5.length c1_5, .slice A1_6 l1_6.length c1_6, .slice A1_7 l1_7.length c1_7]] ?_; (with_reducible refine (impl_jobsOk.calls kj23 _ _ l0_0 a0_1 a0_2 a0_3 a0_4 a0_5 a0_6 a1_0 a1_1 a1_2 a1_3 _ _ l1_4 _ _ l1_5 _ _ l1_6 _ _ l1_7 true _ ?side1 ?side2 ?side3 ?side4 ?side5 ?side6 ?side7 ?side8 ?side9 ?side10 A33.out).mono ?_); (case side1 => repeat (first | exact (yad HR0_0.out HB.out) | (with_reducible refine yae ?_ _) | (with_reducible refine yaf ?_ _) | (with_reducible refine yag ?_))); (case side2 => exact HC0_0.out); (case side3 => repeat (first | exact (yad HR1_4.out HB.out) | (with_reducible refine yae ?_ _) | (with_reducible refine yaf ?_ _) | (with_reducible refine yag ?_))); (case side4 => exact HC1_4.out); (case side5 => repeat (first | exact (yad HR1_5.out HB.out) | (with_reducible refine yae ?_ _) | (with_reducible refine yaf ?_ _) | (with_reducible refine yag ?_))); (case side6 => exact HC1_5.out); (case side7 => repeat (first | exact (yad HR1_6.out HB.out) | (with_reducible refine yae ?_ _) | (with_reducible refine yaf ?_ _) | (with_reducible refine yag ?_))); (case side8 => exact HC1_6.out); (case side9 => repeat (first | exact (yad HR1_7.out HB.out) | (with_reducible refine yae ?_ _) | (with_reducible refine yaf ?_ _) | (with_reducible refine yag ?_))); (case side10 => exact HC1_7.out); rintro e w63 ⟨rfl, hb⟩; refine ⟨_, rfl, ?_⟩; replace b1 := yac (yak (upB b1.out) hb); replace b0 := yac (yak (upB b0.out) hb); replace HB := yac (yam (by repeat (with_reducible first | exact HB.out | apply yai | apply yah | apply yaj | refine yal ?_ (Aside0.out ‹_›))) hb); (try clear hb); (try clear hb2); (try clear hk); (try clear hi); obtain ⟨L4, L5, L6, L7, L8, L9, M0⟩ := cc7_ b1.out; have M1 := yaa b1.out 0; have M2 := yaa b1.out 1; have M3 := yaa b1.out 2; have M4 := yaa b1.out 3; have M5 := yaa b1.out 4; have M6 := yaa b1.out 5; have M7 := yaa b1.out 6; have M8 : w63.cell? ⟨b2, 0, none⟩ = some (.int .i64 a1_0) := (yab b0.out 0).trans rfl; have M9 : w63.cell? ⟨b2, 1, none⟩ = some (.int .i64 a1_1) := (yab b0.out 1).trans rfl; have N0 : w63.cell? ⟨b2, 2, none⟩ = some (.int .i64 a1_2) := (yab b0.out 2).trans rfl; have N1 : w63.cell? ⟨b2, 3, none⟩ = some (.int .i64 a1_3) := (yab b0.out 3).trans rfl; have N2 : w63.cell? ⟨b2, 4, none⟩ = some (.slice A1_4 l1_4.length c1_4) := (yab b0.out 4).trans rfl; have N3 : w63.cell? ⟨b2, 5, none⟩ = some (.slice A1_5 l1_5.length c1_5) := (yab b0.out 5).trans rfl; have N4 : w63.cell? ⟨b2, 6, none⟩ = some (.slice A1_6 l1_6.length c1_6) := (yab b0.out 6).trans rfl; have N5 : w63.cell? ⟨b2, 7, none⟩ = some (.slice A1_7 l1_7.length c1_7) := (yab b0.out 7).trans rfl; have N6 := yaa b0.out 0; have N7 := yaa b0.out 1; have N8 := yaa b0.out 2; have N9 := yaa b0.out 3; have O0 := yaa b0.out 4; have O1 := yaa b0.out 5; have O2 := yaa b0.out 6; have O3 := yaa b0.out 7) | (go_at_call 89; (with_reducible refine (impl_filesOk.calls kj23 _ _ l0_0 a0_1 a0_2 a0_3 a0_4 a0_5 a0_6 a1_0 a1_1 a1_2 a1_3 _ _ l1_4 _ _ l1_5 _ _ l1_6 _ _ l1_7 false _ ?side1 ?side2 ?side3 ?side4 ?side5 ?side6 ?side7 ?side8 ?side9 ?side10 A35.out).mono ?_); (case side1 => repeat (first | exact (yad HR0_0.out HB.out) | (with_reducible refine yae ?_ _) | (with_reducible refine yaf ?_ _) | (with_reducible refine yag ?_))); (case side2 => exact HC0_0.out); (case side3 => repeat (first | exact (yad HR1_4.out HB.out) | (with_reducible refine yae ?_ _) | (with_reducible refine yaf ?_ _) | (with_reducible refine yag ?_))); (case side4 => exact HC1_4.out); (case side5 => repeat (first | exact (yad HR1_5.out HB.out) | (with_reducible refine yae ?_ _) | (with_reducible refine yaf ?_ _) | (with_reducible refine yag ?_))); (case side6 => exact HC1_5.out); (case side7 => repeat (first | exact (yad HR1_6.out HB.out) | (with_reducible refine yae ?_ _) | (with_reducible refine yaf ?_ _) | (with_reducible refine yag ?_))); (case side8 => exact HC1_6.out); (case side9 => repeat (first | exact (yad HR1_7.out HB.out) | (with_reducible refine yae ?_ _) | (with_reducible refine yaf ?_ _) | (with_reducible refine yag ?_))); (case side10 => exact HC1_7.out); rintro e w66 ⟨rfl, hb⟩; replace b1 := yac (yak (upB b1.out) hb); replace b0 := yac (yak (upB b0.out) hb); replace HB := yac (yam (by repeat (with_reducible first | exact HB.out | apply yai | apply yah | apply yaj | refine yal ?_ (Aside0.out ‹_›))) hb); (try clear hb); (try clear hb2); (try clear hk); (try clear hi)))
         go_ret
         exact ⟨by first | rfl | (simp [*, errW_none, errW_some] <;> rfl), by repeat (with_reducible first | exact HB.out | apply yai | apply yah | apply yaj | refine yal ?_ (Aside0.out ‹_›))⟩
       ·
        replace c34 := Bool.eq_false_iff.mpr c34
        subst c34
        rw [if_neg (show ¬ (false = true) by decide)] at H
        obtain rfl := Option.some.inj H; have T8 := b3.out; have T9 := b4.out; obtain ⟨O4, O5, O6, O7, O8, O9, P0⟩ := cc7_ b1.out; have P1 := yaa b1.out 0; have P2 := yaa b1.out 1; have P3 := yaa b1.out 2; have P4 := yaa b1.out 3; have P5 := yaa b1.out 4; have P6 := yaa b1.out 5; have P7 := yaa b1.out 6; have P8 : wc.cell? ⟨b2, 0, none⟩ = some (.int .i64 a1_0) := (yab b0.out 0).trans rfl; have P9 : wc.cell? ⟨b2, 1, none⟩ = some (.int .i64 a1_1) := (yab b0.out 1).trans rfl; have Q0 : wc.cell? ⟨b2, 2, none⟩ = some (.int .i64 a1_2) := (yab b0.out 2).trans rfl; have Q1 : wc.cell? ⟨b2, 3, none⟩ = some (.int .i64 a1_3) := (yab b0.out 3).trans rfl; have Q3 : wc.cell? ⟨b2, 4, none⟩ = some (.slice A1_4 l1_4.length c1_4) := (yab b0.out 4).trans rfl; have Q4 : wc.cell? ⟨b2, 5, none⟩ = some (.slice A1_5 l1_5.length c1_5) := (yab b0.out 5).trans rfl; have Q5 : wc.cell? ⟨b2, 6, none⟩ = some (.slice A1_6 l1_6.length c1_6) := (yab b0.out 6).trans rfl; have Q6 : wc.cell? ⟨b2, 7, none⟩ = some (.slice A1_7 l1_7.length c1_7) := (yab b0.out 7).trans rfl; have Q7 := yaa b0.out 0; have Q8 := yaa b0.out 1; have Q9 := yaa b0.out 2; have R0 := yaa b0.out 3; have R1 := yaa b0.out 4; have R2 := yaa b0.out 5; have R3 := yaa b0.out 6; have R4 := yaa b0.out 7
        go_wp2_with (first | ((with_reducible refine gate_callee (f := 88) rfl ?_); refine gl_ (some 36) rfl Try.func88 #[.agg #[.slice A0_0 l0_0.length c0_0, .int .i64 a0_1, .int .i64 a0_2, .int .i64 a0_3, .int .i64 a0_4, .int .i64 a0_5, .int .i64 a0_6], .agg #[.int .i64 a1_0, .int .i64 a1_1, .int .i64 a1_2, .int .i64 a1_3, .slice A1_4 l1_4.length c1_4, .slice A1_5 l1_5.length c1_5, .slice A1_6 l1_6.length c1_6, .slice A1_7 l1_7.length c1_7]] ?_; (with_reducible refine (impl_jobsOk.calls kj23 _ _ l0_0 a0_1 a0_2 a0_3 a0_4 a0_5 a0_6 a1_0 a1_1 a1_2 a1_3 _ _ l1_4 _ _ l1_5 _ _ l1_6 _ _ l1_7 false _ ?side1 ?side2 ?side3 ?side4 ?side5 ?side6 ?side7 ?side8 ?side9 ?side10 A33.out).mono ?_); (case side1 => repeat (first | exact (yad HR0_0.out HB.out) | (with_reducible refine yae ?_ _) | (with_reducible refine yaf ?_ _) | (with_reducible refine yag ?_))); (case side2 => exact HC0_0.out); (case side3 => repeat (first | exact (yad HR1_4.out HB.out) | (with_reducible refine yae ?_ _) | (with_reducible refine yaf ?_ _) | (with_reducible refine yag ?_))); (case side4 => exact HC1_4.out); (case side5 => repeat (first | exact (yad HR1_5.out HB.out) | (with_reducible refine yae ?_ _) | (with_reducible refine yaf ?_ _) | (with_reducible refine yag ?_))); (case side6 => exact HC1_5.out); (case side7 => repeat (first | exact (yad HR1_6.out HB.out) | (with_reducible refine yae ?_ _) | (with_reducible refine yaf ?_ _) | (with_reducible refine yag ?_))); (case side8 => exact HC1_6.out); (case side9 => repeat (first | exact (yad HR1_7.out HB.out) | (with_reducible refine yae ?_ _) | (with_reducible refine yaf ?_ _) | (with_reducible refine yag ?_))); (case side10 => exact HC1_7.out); rintro e w70 ⟨rfl, hb⟩; refine ⟨_, rfl, ?_⟩; replace b1 := yac (yak (upB b1.out) hb); replace b0 := yac (yak (upB b0.out) hb); replace HB := yac (yam (by repeat (with_reducible first | exact HB.out | apply yai | apply yah | apply yaj | refine yal ?_ (Aside0.out ‹_›))) hb); (try clear hb); (try clear hb2); (try clear hk); (try clear hi)))
        go_ret
        exact ⟨by first | rfl | (simp [*, errW_none, errW_some] <;> rfl), by repeat (with_reducible first | exact HB.out | apply yai | apply yah | apply yaj | refine yal ?_ (Aside0.out ‹_›))⟩

end Go.Proofs.Ytgpkkkmapgnhkaa.X
