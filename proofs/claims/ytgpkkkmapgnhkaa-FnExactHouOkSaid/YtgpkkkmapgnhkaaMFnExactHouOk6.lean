/- Lemmas and contracts for the law FnExactHouOk, part 6: of the program's functions, and over data alone. No condition. -/
import Derived.Test.YtgpkkkmapgnhkaaMFnExactHouOk2
import Derived.Test.YtgpkkkmapgnhkaaMFnExactHouOk5
import Derived.Test.YtgpkkkmapgnhkaaMFnExactHouOk3
import Derived.Test.YtgpkkkmapgnhkaaMFnExactHouOk1
import Derived.ChangeArms
import Derived.WideShapes
import Derived.DataElems
import Derived.DataReads
import Derived.KernelRfl
namespace Go.Proofs.Ytgpkkkmapgnhkaa.X
open Go.RowKit Go.Proofs.YtgpkkkmapgnhkaaW.PrintWords Go.Proofs.YtgpkkkmapgnhkaaW.PrintLast Go.Proofs.YtgpkkkmapgnhkaaW.PrintMore
attribute [local go_sem] max2_int min2_int max_two min_two max_three min_three max_four min_four
set_option linter.unusedVariables false
set_option linter.unusedSimpArgs false
section
open Go.Proofs.YtgpkkkmapgnhkaaW.PrintWords.Drawn0 renaming refl → yaa, step → yab
mutual
def impl_nameOk.j0 : Nat → ByteArray → Bool → Option (Bool)
 | 0, _, _ => none
 | k + 1, x0, x13 => if x13 = true then (some false) else (impl_nameOk.l0 k x0 (x0.size : Int) 0)
def impl_nameOk.l0 : Nat → ByteArray → Int → Int → Option (Bool)
 | 0, _, _, _ => none
 | k + 1, x0, x15, x16 => if x16 < x15 then (if 0 ≤ x16 then (if x16 < (x0.size : Int) then (if (bt x0 x16) ≥ 97 then (if (bt x0 x16) ≥ 48 then (if ((bt x0 x16) ≤ 122) then (impl_nameOk.l0 k x0 x15 (wrap64 (x16 + 1))) else (if ((bt x0 x16) ≤ 57) then (impl_nameOk.l0 k x0 x15 (wrap64 (x16 + 1))) else (some false))) else (if ((bt x0 x16) ≤ 122) then (impl_nameOk.l0 k x0 x15 (wrap64 (x16 + 1))) else (some false))) else (if (bt x0 x16) ≥ 48 then (if ((bt x0 x16) ≤ 57) then (impl_nameOk.l0 k x0 x15 (wrap64 (x16 + 1))) else (some false)) else (some false))) else (none)) else (none)) else (some true)
end
def impl_nameOk.f (k : Nat) (a0 : ByteArray) : Option (Bool) := if (a0.size : Int) < 1 then (impl_nameOk.j0 k a0 true) else (impl_nameOk.j0 k a0 (decide ((a0.size : Int) > 6)))
set_option maxHeartbeats 8000000 in
set_option maxRecDepth 100000 in
theorem impl_nameOk.calls (k : Nat) (a0 : ByteArray) (r : Bool) (w : World) (h : impl_nameOk.f k a0 = some r) :
  Calls Try.prog 73 #[.string a0] w fun e w' => e = .returned (.bool r) ∧ Drawn0 w w' := by
 have H : (if (a0.size : Int) < 1 then (impl_nameOk.j0 k a0 true) else (impl_nameOk.j0 k a0 (decide ((a0.size : Int) > 6)))) = some r := h; clear h; have HC2 := Aside0.mk H; clear H
 go_enter Try.func73, Try.ntmps73
 go_upto_region 1 with (fail)
 go_cut [13] (fun v13 wc => ∃ (kq : Nat) (a3 : Bool), v13 = .bool a3 ∧ Aside0 (impl_nameOk.j0 kq a0 a3 = some r) ∧ Aside0 (kq ≤ k) ∧ Drawn0 w wc)
 case first =>
  have H := HC2.out; clear HC2
  by_cases c3 : (a0.size : Int) < 1
  ·
   rw [if_pos c3] at H
   have a2 : decide ((a0.size : Int) < 1) = true := decide_eq_true c3; have a6 : decide (a0.size < 1) = true := decide_eq_true (by omega); clear c3
   (first | rw [a2] | (simp only [i64_w, i32_w]; rw [a2]) | skip)
   have H' := Aside0.mk H; clear H
   go_wp2
   go_meet
   case rel => exact ⟨_, (true), (by first | rfl | (simp; done) | (simp [*]; done)), H', ⟨by first | omega | exact Nat.le_refl _⟩, by repeat (first | exact yaa _ | apply yab)⟩
  rw [if_neg c3] at H
  have a2 : decide ((a0.size : Int) < 1) = false := decide_eq_false c3; have a6 : decide (a0.size < 1) = false := decide_eq_false (by omega); clear c3
  (first | rw [a2] | (simp only [i64_w, i32_w]; rw [a2]) | skip)
  have H' := Aside0.mk H; clear H
  go_wp2
  go_meet
  case rel => exact ⟨_, (decide ((a0.size : Int) > 6)), (by first | rfl | (simp; done) | (simp [*]; done)), H', ⟨by first | omega | exact Nat.le_refl _⟩, by repeat (first | exact yaa _ | apply yab)⟩
 case rest =>
  clear HC2; (try clear p2); (try clear c3); (try clear a2); (try clear a6); obtain ⟨kq, a3, rfl, HA, HJ1, ⟨mc1, rfl⟩⟩ := hcut
  cases kq with
  | zero => exact absurd HA.out (by simp [impl_nameOk.j0])
  | succ kj1 =>
   have H := HA.out; clear HA
   simp only [impl_nameOk.j0] at H
   by_cases c4 : a3 = true
   ·
    subst c4
    rw [if_pos rfl] at H
    obtain rfl := Option.some.inj H
    go_wp2
    go_ret
    exact ⟨by first | rfl | (simp; done) | (simp [*]; done), by repeat (first | exact yaa _ | apply yab)⟩
   replace c4 := Bool.eq_false_iff.mpr c4
   subst c4
   rw [if_neg (show ¬ (false = true) by decide)] at H
   have H' := Aside0.mk H; clear H
   go_wp2
   (try simp only [Act.put, List.setIfInBounds_toArray, List.set_cons_zero, List.set_cons_succ])
   go_loopg [16] kj1 (fun kq v16 w' => ∃ (a1 : Int), v16 = .int .i64 a1 ∧ Aside0 (impl_nameOk.l0 kq a0 (a0.size : Int) a1 = some r) ∧ Aside0 (kq ≤ kj1) ∧ Drawn0 w w')
   case atStart => exact ⟨(0), (by first | rfl | (simp; done) | (simp [*]; done)), H', ⟨Nat.le_refl _⟩, by repeat (first | exact yaa _ | apply yab)⟩
   case round =>
    clear H'; (try clear c1); (try clear p2); (try clear c3); (try clear a2); (try clear a6); (try clear c4); (try clear p2); obtain ⟨a1, rfl, HA, HK2, ⟨m2, rfl⟩⟩ := hrel
    cases gk with
    | zero => exact absurd HA.out (by simp [impl_nameOk.l0])
    | succ k2 =>
     have H := HA.out; clear HA
     simp only [impl_nameOk.l0] at H
     by_cases c5 : a1 < (a0.size : Int)
     rotate_left
     ·
      rw [if_neg c5] at H
      have b5 : decide (a1 < (a0.size : Int)) = false := decide_eq_false c5; clear c5; obtain rfl := Option.some.inj H
      go_wp2
      go_ret
      exact ⟨by first | rfl | (simp; done) | (simp [*]; done), by repeat (first | exact yaa _ | apply yab)⟩
     rw [if_pos c5] at H
     have b5 : decide (a1 < (a0.size : Int)) = true := decide_eq_true c5; clear c5
     by_cases c6 : 0 ≤ a1
     rotate_left
     ·
      rw [if_neg c6] at H
      exact absurd H (by simp)
     rw [if_pos c6] at H
     replace c6 := decide_eq_true c6
     by_cases c7 : a1 < (a0.size : Int)
     rotate_left
     ·
      rw [if_neg c7] at H
      exact absurd H (by simp)
     rw [if_pos c7] at H
     replace c7 := decide_eq_true c7
     by_cases c9 : (bt a0 a1) ≥ 97
     ·
      rw [if_pos c9] at H
      have b6 : decide (97 ≤ (bt a0 a1)) = true := decide_eq_true c9; clear c9
      by_cases c12 : (bt a0 a1) ≥ 48
      ·
       rw [if_pos c12] at H
       have a7 : decide (48 ≤ (bt a0 a1)) = true := decide_eq_true c12; clear c12
       by_cases c14 : ((bt a0 a1) ≤ 122)
       ·
        rw [if_pos c14] at H
        have a8 : decide ((bt a0 a1) ≤ 122) = true := decide_eq_true c14; clear c14; have H' := Aside0.mk H; clear H; have p8 : 0 ≤ (a1 : Int) := of_decide_eq_true (by assumption); have q8 : a1 < (a0.size : Int) := of_decide_eq_true (by assumption); have hx8 := bt_at a0 a1; replace p8 := eq_true p8; replace q8 := eq_true q8; have p10 : 0 ≤ (a1 : Int) := of_decide_eq_true (by assumption); have q10 : a1 < (a0.size : Int) := of_decide_eq_true (by assumption); have a4 := bt_at a0 a1; replace p10 := eq_true p10; replace q10 := eq_true q10; have p11 : 0 ≤ (a1 : Int) := of_decide_eq_true (by assumption); have q11 : a1 < (a0.size : Int) := of_decide_eq_true (by assumption); have a5 := bt_at a0 a1; replace p11 := eq_true p11; replace q11 := eq_true q11; have p13 : 0 ≤ (a1 : Int) := of_decide_eq_true (by assumption); have q13 : a1 < (a0.size : Int) := of_decide_eq_true (by assumption); have a9 := bt_at a0 a1; replace p13 := eq_true p13; replace q13 := eq_true q13
        go_wp2
        go_roundg k2
        case measure => have := HJ1.out; have := HK2.out; omega
        case rel => exact ⟨(wrap64 (a1 + 1)), (by first | rfl | (simp; done) | (simp [*]; done)), H', ⟨by have := HJ1.out; have := HK2.out; omega⟩, by repeat (first | exact yaa _ | apply yab)⟩
       rw [if_neg c14] at H
       have a8 : decide ((bt a0 a1) ≤ 122) = false := decide_eq_false c14; clear c14
       by_cases c15 : ((bt a0 a1) ≤ 57)
       ·
        rw [if_pos c15] at H
        have b0 : decide ((bt a0 a1) ≤ 57) = true := decide_eq_true c15; clear c15; have H' := Aside0.mk H; clear H; have p8 : 0 ≤ (a1 : Int) := of_decide_eq_true (by assumption); have q8 : a1 < (a0.size : Int) := of_decide_eq_true (by assumption); have hx8 := bt_at a0 a1; replace p8 := eq_true p8; replace q8 := eq_true q8; have p10 : 0 ≤ (a1 : Int) := of_decide_eq_true (by assumption); have q10 : a1 < (a0.size : Int) := of_decide_eq_true (by assumption); have a4 := bt_at a0 a1; replace p10 := eq_true p10; replace q10 := eq_true q10; have p11 : 0 ≤ (a1 : Int) := of_decide_eq_true (by assumption); have q11 : a1 < (a0.size : Int) := of_decide_eq_true (by assumption); have a5 := bt_at a0 a1; replace p11 := eq_true p11; replace q11 := eq_true q11; have p13 : 0 ≤ (a1 : Int) := of_decide_eq_true (by assumption); have q13 : a1 < (a0.size : Int) := of_decide_eq_true (by assumption); have a9 := bt_at a0 a1; replace p13 := eq_true p13; replace q13 := eq_true q13
        go_wp2
        go_roundg k2
        case measure => have := HJ1.out; have := HK2.out; omega
        case rel => exact ⟨(wrap64 (a1 + 1)), (by first | rfl | (simp; done) | (simp [*]; done)), H', ⟨by have := HJ1.out; have := HK2.out; omega⟩, by repeat (first | exact yaa _ | apply yab)⟩
       rw [if_neg c15] at H
       have b0 : decide ((bt a0 a1) ≤ 57) = false := decide_eq_false c15; clear c15; obtain rfl := Option.some.inj H; have p8 : 0 ≤ (a1 : Int) := of_decide_eq_true (by assumption); have q8 : a1 < (a0.size : Int) := of_decide_eq_true (by assumption); have hx8 := bt_at a0 a1; replace p8 := eq_true p8; replace q8 := eq_true q8; have p10 : 0 ≤ (a1 : Int) := of_decide_eq_true (by assumption); have q10 : a1 < (a0.size : Int) := of_decide_eq_true (by assumption); have a4 := bt_at a0 a1; replace p10 := eq_true p10; replace q10 := eq_true q10; have p11 : 0 ≤ (a1 : Int) := of_decide_eq_true (by assumption); have q11 : a1 < (a0.size : Int) := of_decide_eq_true (by assumption); have a5 := bt_at a0 a1; replace p11 := eq_true p11; replace q11 := eq_true q11; have p13 : 0 ≤ (a1 : Int) := of_decide_eq_true (by assumption); have q13 : a1 < (a0.size : Int) := of_decide_eq_true (by assumption); have a9 := bt_at a0 a1; replace p13 := eq_true p13; replace q13 := eq_true q13
       go_wp2
       go_ret
       exact ⟨by first | rfl | (simp; done) | (simp [*]; done), by repeat (first | exact yaa _ | apply yab)⟩
      rw [if_neg c12] at H
      have a7 : decide (48 ≤ (bt a0 a1)) = false := decide_eq_false c12; clear c12
      by_cases c16 : ((bt a0 a1) ≤ 122)
      ·
       rw [if_pos c16] at H
       have b1 : decide ((bt a0 a1) ≤ 122) = true := decide_eq_true c16; clear c16; have H' := Aside0.mk H; clear H; have p8 : 0 ≤ (a1 : Int) := of_decide_eq_true (by assumption); have q8 : a1 < (a0.size : Int) := of_decide_eq_true (by assumption); have hx8 := bt_at a0 a1; replace p8 := eq_true p8; replace q8 := eq_true q8; have p10 : 0 ≤ (a1 : Int) := of_decide_eq_true (by assumption); have q10 : a1 < (a0.size : Int) := of_decide_eq_true (by assumption); have a4 := bt_at a0 a1; replace p10 := eq_true p10; replace q10 := eq_true q10; have p11 : 0 ≤ (a1 : Int) := of_decide_eq_true (by assumption); have q11 : a1 < (a0.size : Int) := of_decide_eq_true (by assumption); have a5 := bt_at a0 a1; replace p11 := eq_true p11; replace q11 := eq_true q11
       go_wp2
       go_roundg k2
       case measure => have := HJ1.out; have := HK2.out; omega
       case rel => exact ⟨(wrap64 (a1 + 1)), (by first | rfl | (simp; done) | (simp [*]; done)), H', ⟨by have := HJ1.out; have := HK2.out; omega⟩, by repeat (first | exact yaa _ | apply yab)⟩
      rw [if_neg c16] at H
      have b1 : decide ((bt a0 a1) ≤ 122) = false := decide_eq_false c16; clear c16; obtain rfl := Option.some.inj H; have p8 : 0 ≤ (a1 : Int) := of_decide_eq_true (by assumption); have q8 : a1 < (a0.size : Int) := of_decide_eq_true (by assumption); have hx8 := bt_at a0 a1; replace p8 := eq_true p8; replace q8 := eq_true q8; have p10 : 0 ≤ (a1 : Int) := of_decide_eq_true (by assumption); have q10 : a1 < (a0.size : Int) := of_decide_eq_true (by assumption); have a4 := bt_at a0 a1; replace p10 := eq_true p10; replace q10 := eq_true q10; have p11 : 0 ≤ (a1 : Int) := of_decide_eq_true (by assumption); have q11 : a1 < (a0.size : Int) := of_decide_eq_true (by assumption); have a5 := bt_at a0 a1; replace p11 := eq_true p11; replace q11 := eq_true q11
      go_wp2
      go_ret
      exact ⟨by first | rfl | (simp; done) | (simp [*]; done), by repeat (first | exact yaa _ | apply yab)⟩
     rw [if_neg c9] at H
     have b6 : decide (97 ≤ (bt a0 a1)) = false := decide_eq_false c9; clear c9
     by_cases c18 : (bt a0 a1) ≥ 48
     ·
      rw [if_pos c18] at H
      have b2 : decide (48 ≤ (bt a0 a1)) = true := decide_eq_true c18; clear c18
      by_cases c20 : ((bt a0 a1) ≤ 57)
      ·
       rw [if_pos c20] at H
       have b3 : decide ((bt a0 a1) ≤ 57) = true := decide_eq_true c20; clear c20; have H' := Aside0.mk H; clear H; have p8 : 0 ≤ (a1 : Int) := of_decide_eq_true (by assumption); have q8 : a1 < (a0.size : Int) := of_decide_eq_true (by assumption); have hx8 := bt_at a0 a1; replace p8 := eq_true p8; replace q8 := eq_true q8; have p17 : 0 ≤ (a1 : Int) := of_decide_eq_true (by assumption); have q17 : a1 < (a0.size : Int) := of_decide_eq_true (by assumption); have b4 := bt_at a0 a1; replace p17 := eq_true p17; replace q17 := eq_true q17; have p19 : 0 ≤ (a1 : Int) := of_decide_eq_true (by assumption); have q19 : a1 < (a0.size : Int) := of_decide_eq_true (by assumption); have b7 := bt_at a0 a1; replace p19 := eq_true p19; replace q19 := eq_true q19
       go_wp2
       go_roundg k2
       case measure => have := HJ1.out; have := HK2.out; omega
       case rel => exact ⟨(wrap64 (a1 + 1)), (by first | rfl | (simp; done) | (simp [*]; done)), H', ⟨by have := HJ1.out; have := HK2.out; omega⟩, by repeat (first | exact yaa _ | apply yab)⟩
      rw [if_neg c20] at H
      have b3 : decide ((bt a0 a1) ≤ 57) = false := decide_eq_false c20; clear c20; obtain rfl := Option.some.inj H; have p8 : 0 ≤ (a1 : Int) := of_decide_eq_true (by assumption); have q8 : a1 < (a0.size : Int) := of_decide_eq_true (by assumption); have hx8 := bt_at a0 a1; replace p8 := eq_true p8; replace q8 := eq_true q8; have p17 : 0 ≤ (a1 : Int) := of_decide_eq_true (by assumption); have q17 : a1 < (a0.size : Int) := of_decide_eq_true (by assumption); have b4 := bt_at a0 a1; replace p17 := eq_true p17; replace q17 := eq_true q17; have p19 : 0 ≤ (a1 : Int) := of_decide_eq_true (by assumption); have q19 : a1 < (a0.size : Int) := of_decide_eq_true (by assumption); have b7 := bt_at a0 a1; replace p19 := eq_true p19; replace q19 := eq_true q19
      go_wp2
      go_ret
      exact ⟨by first | rfl | (simp; done) | (simp [*]; done), by repeat (first | exact yaa _ | apply yab)⟩
     rw [if_neg c18] at H
     have b2 : decide (48 ≤ (bt a0 a1)) = false := decide_eq_false c18; clear c18; obtain rfl := Option.some.inj H; have p8 : 0 ≤ (a1 : Int) := of_decide_eq_true (by assumption); have q8 : a1 < (a0.size : Int) := of_decide_eq_true (by assumption); have hx8 := bt_at a0 a1; replace p8 := eq_true p8; replace q8 := eq_true q8; have p17 : 0 ≤ (a1 : Int) := of_decide_eq_true (by assumption); have q17 : a1 < (a0.size : Int) := of_decide_eq_true (by assumption); have b4 := bt_at a0 a1; replace p17 := eq_true p17; replace q17 := eq_true q17
     go_wp2
     go_ret
     exact ⟨by first | rfl | (simp; done) | (simp [*]; done), by repeat (first | exact yaa _ | apply yab)⟩
end
section
open Go.Proofs.YtgpkkkmapgnhkaaW.PrintWords.Aside0 renaming mk → yaa
open Go.Proofs.YtgpkkkmapgnhkaaW.PrintWords renaming pw_below_drewN → yab, below_alloc → yac, below_drew1 → yad, below_set → yaf, blk_below → yag
open Go.Proofs.Ytgpkkkmapgnhkaa.X renaming rd_T124 → yae
def impl_jobsOk.l0 : Nat → Int → List (S124) → Int → Int → Int → Int → Int → Int → List (S124) → List (S156) → List ByteArray → List (S158) → Option (Bool)
 | 0, _, _, _, _, _, _, _, _, _, _, _, _ => none
 | k + 1, x5, x15, x16, x17, x103000, x103001, x103002, x103003, x103004, x103005, x103006, x103007 => if x17 < x16 then (if 0 ≤ x17 then (if x17 < (x15.length : Int) then ((impl_within.f ((rd_T124 x15 x17).f0) (wrap64 (x5 + 1)) (wrap64 (x103003 - 1))).bind fun t105 => (if t105 = true then ((impl_nameOk.f k ((rd_T124 x15 x17).f1)).bind fun t106 => (if t106 = true then ((impl_opsOk.f k ((rd_T124 x15 x17).f2)).bind fun t107 => (if t107 = true then ((impl_within.f ((rd_T124 x15 x17).f3) 0 x103000).bind fun t108 => (if t108 = true then (impl_jobsOk.l0 k ((rd_T124 x15 x17).f0) x15 x16 (wrap64 (x17 + 1)) x103000 x103001 x103002 x103003 x103004 x103005 x103006 x103007) else (some false))) else (some false))) else (some false))) else (some false))) else (none)) else (none)) else (some true)
def impl_jobsOk.f (k : Nat) (l0_0 : List Int) (a0_1 : Int) (a0_2 : Int) (a0_3 : Int) (a0_4 : Int) (a0_5 : Int) (a0_6 : Int) (a1_0 : Int) (a1_1 : Int) (a1_2 : Int) (a1_3 : Int) (l1_4 : List (S124)) (l1_5 : List (S156)) (l1_6 : List ByteArray) (l1_7 : List (S158)) : Option (Bool) := if (l1_4.length : Int) > a0_3 then (some false) else (impl_jobsOk.l0 k (-1) l1_4 (l1_4.length : Int) 0 a1_0 a1_1 a1_2 a1_3 l1_4 l1_5 l1_6 l1_7)
set_option maxHeartbeats 8000000 in
set_option maxRecDepth 100000 in
theorem impl_jobsOk.calls (k : Nat) (A0_0 : Option Addr) (c0_0 : Nat) (l0_0 : List Int) (a0_1 : Int) (a0_2 : Int) (a0_3 : Int) (a0_4 : Int) (a0_5 : Int) (a0_6 : Int) (a1_0 : Int) (a1_1 : Int) (a1_2 : Int) (a1_3 : Int) (A1_4 : Option Addr) (c1_4 : Nat) (l1_4 : List (S124)) (A1_5 : Option Addr) (c1_5 : Nat) (l1_5 : List (S156)) (A1_6 : Option Addr) (c1_6 : Nat) (l1_6 : List ByteArray) (A1_7 : Option Addr) (c1_7 : Nat) (l1_7 : List (S158)) (r : Bool) (w : World) (hr0_0 : Kd.C (Kd.int .u8) w A0_0 l0_0.length l0_0) (hc0_0 : l0_0.length ≤ c0_0) (hr1_4 : Kd.C k124 w A1_4 l1_4.length l1_4) (hc1_4 : l1_4.length ≤ c1_4) (hr1_5 : Kd.C k156 w A1_5 l1_5.length l1_5) (hc1_5 : l1_5.length ≤ c1_5) (hr1_6 : Kd.C Kd.string w A1_6 l1_6.length l1_6) (hc1_6 : l1_6.length ≤ c1_6) (hr1_7 : Kd.C k158 w A1_7 l1_7.length l1_7) (hc1_7 : l1_7.length ≤ c1_7) (h : impl_jobsOk.f k l0_0 a0_1 a0_2 a0_3 a0_4 a0_5 a0_6 a1_0 a1_1 a1_2 a1_3 l1_4 l1_5 l1_6 l1_7 = some r) :
  Calls Try.prog 88 #[.agg #[.slice A0_0 l0_0.length c0_0, .int .i64 a0_1, .int .i64 a0_2, .int .i64 a0_3, .int .i64 a0_4, .int .i64 a0_5, .int .i64 a0_6], .agg #[.int .i64 a1_0, .int .i64 a1_1, .int .i64 a1_2, .int .i64 a1_3, .slice A1_4 l1_4.length c1_4, .slice A1_5 l1_5.length c1_5, .slice A1_6 l1_6.length c1_6, .slice A1_7 l1_7.length c1_7]] w fun e w' => e = .returned (.bool r) ∧ Below w.heap.size w w' := by
 have hu24 := Try.underlying24; have hu63 := Try.underlying63; have hu124 := Try.underlying124; have HR0_0 := yaa hr0_0; have HC0_0 := yaa hc0_0; clear hr0_0 hc0_0; have HR1_4 := yaa hr1_4; have HC1_4 := yaa hc1_4; clear hr1_4 hc1_4; have HR1_5 := yaa hr1_5; have HC1_5 := yaa hc1_5; clear hr1_5 hc1_5; have HR1_6 := yaa hr1_6; have HC1_6 := yaa hc1_6; clear hr1_6 hc1_6; have HR1_7 := yaa hr1_7; have HC1_7 := yaa hc1_7; clear hr1_7 hc1_7; have HB := yaa (Below.refl w.heap.size w); have H : (if (l1_4.length : Int) > a0_3 then (some false) else (impl_jobsOk.l0 k (-1) l1_4 (l1_4.length : Int) 0 a1_0 a1_1 a1_2 a1_3 l1_4 l1_5 l1_6 l1_7)) = some r := h; clear h
 by_cases c3 : (l1_4.length : Int) > a0_3
 ·
  rw [if_pos c3] at H
  have k8 : decide (a0_3 < (l1_4.length : Int)) = true := decide_eq_true c3; clear c3; obtain rfl := Option.some.inj H
  go_enter Try.func88, Try.ntmps88
  go_wp2_with (first | ((with_reducible refine gd_ 2 rfl ?_); refine bx_ 2 rfl #[.slice A0_0 l0_0.length c0_0, .int .i64 a0_1, .int .i64 a0_2, .int .i64 a0_3, .int .i64 a0_4, .int .i64 a0_5, .int .i64 a0_6] 24 ?_; intro c9 hg w4 hbox hb; have b4 := yaa (hbox); have e1 := yaa ((by rw [hg]; exact (below_size (upH HB.out)) : w.heap.size ≤ c9)); replace HB := yaa (below_step (upH HB.out) hb); have k9 := e1; clear hb hbox hg) | ((with_reducible refine gd_ 3 rfl ?_); refine bx_ 3 rfl #[.int .i64 a1_0, .int .i64 a1_1, .int .i64 a1_2, .int .i64 a1_3, .slice A1_4 l1_4.length c1_4, .slice A1_5 l1_5.length c1_5, .slice A1_6 l1_6.length c1_6, .slice A1_7 l1_7.length c1_7] 63 ?_; intro d0 hg w5 hbox hb; have b1 := yaa (hbox); have e2 := yaa ((by rw [hg]; exact (below_size (by repeat (with_reducible first | exact HB.out | apply yac | apply yab | apply yad | refine yaf ?_ (Aside0.out ‹_›)))) : w.heap.size ≤ d0)); replace HB := yaa (below_step (by repeat (with_reducible first | exact HB.out | apply yac | apply yab | apply yad | refine yaf ?_ (Aside0.out ‹_›))) hb); have l1 := e2; have b5 := yaa ((by rw [hg]; exact Nat.ne_of_lt (blk_lt (upB b4.out)) : c9 ≠ d0)); replace b4 := yaa (yag (upB b4.out) hb); have c7 := yaa b5.out.symm; clear hb hbox hg; have H7 := c7.out; have H8 := b5.out; obtain ⟨h7, h8, h9, i0, i1, i2, i3, i4⟩ := cc8_ b1.out; obtain ⟨i5, i6, i7, i8, i9, j0, j1, j2⟩ := cf8_ b1.out; obtain ⟨j3, j4, j5, j6, j7, j8, j9⟩ := cc7_ b4.out; obtain ⟨k0, k2, k3, k4, k5, k6⟩ := cf6_ b4.out; have k7 := blk_frozen b4.out 6))
  go_ret
  exact ⟨by first | rfl | (simp [*, errW_none, errW_some] <;> rfl), by repeat (with_reducible first | exact HB.out | apply yac | apply yab | apply yad | refine yaf ?_ (Aside0.out ‹_›))⟩
 rw [if_neg c3] at H
 have k8 : decide (a0_3 < (l1_4.length : Int)) = false := decide_eq_false c3; clear c3; have H' := yaa H; clear H
 go_enter Try.func88, Try.ntmps88
 go_wp2_with (first | ((with_reducible refine gd_ 2 rfl ?_); refine bx_ 2 rfl #[.slice A0_0 l0_0.length c0_0, .int .i64 a0_1, .int .i64 a0_2, .int .i64 a0_3, .int .i64 a0_4, .int .i64 a0_5, .int .i64 a0_6] 24 ?_; intro c9 hg w9 hbox hb; have b4 := yaa (hbox); have e1 := yaa ((by rw [hg]; exact (below_size (upH HB.out)) : w.heap.size ≤ c9)); replace HB := yaa (below_step (upH HB.out) hb); have k9 := e1; clear hb hbox hg) | ((with_reducible refine gd_ 3 rfl ?_); refine bx_ 3 rfl #[.int .i64 a1_0, .int .i64 a1_1, .int .i64 a1_2, .int .i64 a1_3, .slice A1_4 l1_4.length c1_4, .slice A1_5 l1_5.length c1_5, .slice A1_6 l1_6.length c1_6, .slice A1_7 l1_7.length c1_7] 63 ?_; intro d0 hg w10 hbox hb; have b1 := yaa (hbox); have e2 := yaa ((by rw [hg]; exact (below_size (by repeat (with_reducible first | exact HB.out | apply yac | apply yab | apply yad | refine yaf ?_ (Aside0.out ‹_›)))) : w.heap.size ≤ d0)); replace HB := yaa (below_step (by repeat (with_reducible first | exact HB.out | apply yac | apply yab | apply yad | refine yaf ?_ (Aside0.out ‹_›))) hb); have l1 := e2; have b5 := yaa ((by rw [hg]; exact Nat.ne_of_lt (blk_lt (upB b4.out)) : c9 ≠ d0)); replace b4 := yaa (yag (upB b4.out) hb); have c7 := yaa b5.out.symm; clear hb hbox hg; have E5 := c7.out; have E6 := b5.out; obtain ⟨e3, e4, e5, e6, e7, e8, e9, f4⟩ := cc8_ b1.out; obtain ⟨f5, f6, f7, f8, f9, g0, g1, g2⟩ := cf8_ b1.out; obtain ⟨g3, g4, g5, g6, g7, g8, g9⟩ := cc7_ b4.out; obtain ⟨h0, h1, h2, h3, h4, h5⟩ := cf6_ b4.out; have h6 := blk_frozen b4.out 6))
 (try simp only [Act.put, List.setIfInBounds_toArray, List.set_cons_zero, List.set_cons_succ])
 go_loopg [5, 17] k (fun kq v5 v17 w' => ∃ (d4 : Int) (b0 : Int), v5 = .int .i64 d4 ∧ v17 = .int .i64 b0 ∧ Aside0 (impl_jobsOk.l0 kq d4 l1_4 (l1_4.length : Int) b0 a1_0 a1_1 a1_2 a1_3 l1_4 l1_5 l1_6 l1_7 = some r) ∧ Aside0 (kq ≤ k) ∧ Aside0 (w'.heap[c9]? = some (.cells #[(.slice A0_0 l0_0.length c0_0), .int .i64 a0_1, .int .i64 a0_2, .int .i64 a0_3, .int .i64 a0_4, .int .i64 a0_5, .int .i64 a0_6] 24 (0, 0))) ∧ Aside0 (w'.heap[d0]? = some (.cells #[.int .i64 a1_0, .int .i64 a1_1, .int .i64 a1_2, .int .i64 a1_3, (.slice A1_4 l1_4.length c1_4), (.slice A1_5 l1_5.length c1_5), (.slice A1_6 l1_6.length c1_6), (.slice A1_7 l1_7.length c1_7)] 63 (0, 0))) ∧ Aside0 (Below w.heap.size w w'))
 case atStart => exact ⟨((-1)), (0), (by first | rfl | (simp; done) | (simp [*]; done)), (by first | rfl | (simp; done) | (simp [*]; done)), H', ⟨Nat.le_refl _⟩, ⟨by exact upB b4.out⟩, ⟨by exact upB b1.out⟩, ⟨by repeat (with_reducible first | exact HB.out | apply yac | apply yab | apply yad | refine yaf ?_ (Aside0.out ‹_›))⟩⟩
 case round =>
  clear H'; (try clear c1); (try clear p2); (try clear c3); (try clear k8); (try clear c6); (try clear c8); (try clear c11); (try clear e3); (try clear e4); (try clear e5); (try clear e6); (try clear e7); (try clear e8); (try clear e9); (try clear f4); (try clear g3); (try clear g4); (try clear g5); (try clear g6); (try clear g7); (try clear g8); (try clear g9); (try clear h7); (try clear h8); (try clear h9); (try clear i0); (try clear i1); (try clear i2); (try clear i3); (try clear i4); (try clear j3); (try clear j4); (try clear j5); (try clear j6); (try clear j7); (try clear j8); (try clear j9); (try clear f5); (try clear f6); (try clear f7); (try clear f8); (try clear f9); (try clear g0); (try clear g1); (try clear g2); (try clear h0); (try clear h1); (try clear h2); (try clear h3); (try clear h4); (try clear h5); (try clear h6); (try clear i5); (try clear i6); (try clear i7); (try clear i8); (try clear i9); (try clear j0); (try clear j1); (try clear j2); (try clear k0); (try clear k2); (try clear k3); (try clear k4); (try clear k5); (try clear k6); (try clear k7); obtain ⟨d4, b0, rfl, rfl, HA, HK1, b4, b1, HB⟩ := hrel
  cases gk with
  | zero => exact absurd HA.out (by simp [impl_jobsOk.l0])
  | succ k1 =>
   have H := HA.out; clear HA
   simp only [impl_jobsOk.l0] at H
   by_cases c14 : b0 < (l1_4.length : Int)
   rotate_left
   ·
    rw [if_neg c14] at H
    have l2 : decide (b0 < (l1_4.length : Int)) = false := decide_eq_false c14; clear c14; obtain rfl := Option.some.inj H
    go_wp2
    go_ret
    exact ⟨by first | rfl | (simp [*, errW_none, errW_some] <;> rfl), by repeat (with_reducible first | exact HB.out | apply yac | apply yab | apply yad | refine yaf ?_ (Aside0.out ‹_›))⟩
   rw [if_pos c14] at H
   have l2 : decide (b0 < (l1_4.length : Int)) = true := decide_eq_true c14; clear c14
   by_cases c15 : 0 ≤ b0
   rotate_left
   ·
    rw [if_neg c15] at H
    exact absurd H (by simp)
   rw [if_pos c15] at H
   replace c15 := decide_eq_true c15
   by_cases c16 : b0 < (l1_4.length : Int)
   rotate_left
   ·
    rw [if_neg c16] at H
    exact absurd H (by simp)
   rw [if_pos c16] at H
   replace c16 := decide_eq_true c16; obtain ⟨E1, A17, H⟩ := bindA H; (try dsimp only at H)
   by_cases c18 : E1 = true
   rotate_left
   ·
    replace c18 := Bool.eq_false_iff.mpr c18
    subst c18
    rw [if_neg (show ¬ (false = true) by decide)] at H
    obtain rfl := Option.some.inj H; have p103 : 0 ≤ (b0 : Int) := of_decide_eq_true (by assumption); have q103 : b0 < (l1_4.length : Int) := of_decide_eq_true (by assumption); obtain ⟨ad103, d1, d2, d5, b6, b7, b8, b9, hl103_2, hi103_2⟩ := at_T124 HR1_4.out b0 p103 q103
    cases d5
    replace b6 := (upc_ HB.out b6 :); replace b7 := (upc_ HB.out b7 :); replace b8 := (upc_ HB.out b8 :); replace b9 := (upc_ HB.out b9 :); have HR103_2 := yaa hi103_2; have HC103_2 := yaa hl103_2; clear hi103_2 hl103_2; replace p103 := eq_true p103; replace q103 := eq_true q103
    go_wp2_with (first | ((with_reducible refine gd_ 7 rfl ?_); refine bx_ 7 rfl #[.int .i64 0, .string (⟨#[]⟩ : ByteArray), .slice none 0 0, .int .i64 0] 124 ?_; intro c5 hg w56 hbox hb; have c0 := yaa (hbox); have d3 := yaa ((by rw [hg]; exact (below_size (by repeat (with_reducible first | exact HB.out | apply yac | apply yab | apply yad | refine yaf ?_ (Aside0.out ‹_›)))) : w.heap.size ≤ c5)); replace HB := yaa (below_step (by repeat (with_reducible first | exact HB.out | apply yac | apply yab | apply yad | refine yaf ?_ (Aside0.out ‹_›))) hb); have d7 := d3; have b2 := yaa ((by rw [hg]; exact Nat.ne_of_lt (blk_lt (upB b4.out)) : c9 ≠ c5)); replace b4 := yaa (yag (upB b4.out) hb); have c2 := yaa b2.out.symm; have b3 := yaa ((by rw [hg]; exact Nat.ne_of_lt (blk_lt (upB b1.out)) : d0 ≠ c5)); replace b1 := yaa (yag (upB b1.out) hb); have c4 := yaa b3.out.symm; clear hb hbox hg; have H1 := c2.out; have H2 := b2.out; have H3 := c4.out; have H4 := b3.out; obtain ⟨B4, B5, B6, B7⟩ := cc4_ c0.out; obtain ⟨B8, B9, C0, C1⟩ := cf4_ c0.out; have H5 := c7.out; have H6 := b5.out; obtain ⟨C2, C3, C4, C5, C6, C7, C8, C9⟩ := cc8_ b1.out; obtain ⟨D0, D1, D2, D3, D4, D5, D6⟩ := cf7_ b1.out; have D7 := blk_frozen b1.out 7) | ((with_reducible refine gc_ 62 rfl ?_); refine gl_ (some 28) rfl Try.func62 #[.int .i64 ((yae l1_4 b0).f0), .int .i64 (wrap64 (d4 + 1)), .int .i64 (wrap64 (a1_3 - 1))] ?_; (with_reducible refine (impl_within.calls ((yae l1_4 b0).f0) (wrap64 (d4 + 1)) (wrap64 (a1_3 - 1)) false _ A17.out).mono ?_); rintro e w' ⟨rfl, ⟨nd, rfl⟩⟩; refine ⟨_, rfl, ?_⟩))
    go_ret
    exact ⟨by first | rfl | (simp [*, errW_none, errW_some] <;> rfl), by repeat (with_reducible first | exact HB.out | apply yac | apply yab | apply yad | refine yaf ?_ (Aside0.out ‹_›))⟩
   subst c18
   rw [if_pos rfl] at H
   obtain ⟨E2, A19, H⟩ := bindA H; (try dsimp only at H)
   by_cases c20 : E2 = true
   rotate_left
   ·
    replace c20 := Bool.eq_false_iff.mpr c20
    subst c20
    rw [if_neg (show ¬ (false = true) by decide)] at H
    obtain rfl := Option.some.inj H; have p103 : 0 ≤ (b0 : Int) := of_decide_eq_true (by assumption); have q103 : b0 < (l1_4.length : Int) := of_decide_eq_true (by assumption); obtain ⟨ad103, d1, d2, d5, b6, b7, b8, b9, hl103_2, hi103_2⟩ := at_T124 HR1_4.out b0 p103 q103
    cases d5
    replace b6 := (upc_ HB.out b6 :); replace b7 := (upc_ HB.out b7 :); replace b8 := (upc_ HB.out b8 :); replace b9 := (upc_ HB.out b9 :); have HR103_2 := yaa hi103_2; have HC103_2 := yaa hl103_2; clear hi103_2 hl103_2; replace p103 := eq_true p103; replace q103 := eq_true q103
    go_wp2_with (first | ((with_reducible refine gd_ 7 rfl ?_); refine bx_ 7 rfl #[.int .i64 0, .string (⟨#[]⟩ : ByteArray), .slice none 0 0, .int .i64 0] 124 ?_; intro c5 hg w50 hbox hb; have c0 := yaa (hbox); have d3 := yaa ((by rw [hg]; exact (below_size (by repeat (with_reducible first | exact HB.out | apply yac | apply yab | apply yad | refine yaf ?_ (Aside0.out ‹_›)))) : w.heap.size ≤ c5)); replace HB := yaa (below_step (by repeat (with_reducible first | exact HB.out | apply yac | apply yab | apply yad | refine yaf ?_ (Aside0.out ‹_›))) hb); have d7 := d3; have b2 := yaa ((by rw [hg]; exact Nat.ne_of_lt (blk_lt (upB b4.out)) : c9 ≠ c5)); replace b4 := yaa (yag (upB b4.out) hb); have c2 := yaa b2.out.symm; have b3 := yaa ((by rw [hg]; exact Nat.ne_of_lt (blk_lt (upB b1.out)) : d0 ≠ c5)); replace b1 := yaa (yag (upB b1.out) hb); have c4 := yaa b3.out.symm; clear hb hbox hg; have G5 := c2.out; have G6 := b2.out; have G7 := c4.out; have G8 := b3.out; obtain ⟨z0, z1, z2, z3⟩ := cc4_ c0.out; obtain ⟨z4, z5, z6, z7⟩ := cf4_ c0.out; have G9 := c7.out; have H0 := b5.out; obtain ⟨z8, z9, A0, A1, A2, A3, A4, A5⟩ := cc8_ b1.out; obtain ⟨A6, A7, A8, A9, B0, B1, B2⟩ := cf7_ b1.out; have B3 := blk_frozen b1.out 7) | ((with_reducible refine gc_ 62 rfl ?_); refine gl_ (some 28) rfl Try.func62 #[.int .i64 ((yae l1_4 b0).f0), .int .i64 (wrap64 (d4 + 1)), .int .i64 (wrap64 (a1_3 - 1))] ?_; (with_reducible refine (impl_within.calls ((yae l1_4 b0).f0) (wrap64 (d4 + 1)) (wrap64 (a1_3 - 1)) true _ A17.out).mono ?_); rintro e w' ⟨rfl, ⟨nd, rfl⟩⟩; refine ⟨_, rfl, ?_⟩) | (go_at_call 73; (with_reducible refine (impl_nameOk.calls k1 ((yae l1_4 b0).f1) false _ A19.out).mono ?_); rintro e w' ⟨rfl, ⟨nd, rfl⟩⟩))
    go_ret
    exact ⟨by first | rfl | (simp [*, errW_none, errW_some] <;> rfl), by repeat (with_reducible first | exact HB.out | apply yac | apply yab | apply yad | refine yaf ?_ (Aside0.out ‹_›))⟩
   subst c20
   rw [if_pos rfl] at H
   obtain ⟨E3, A21, H⟩ := bindA H; (try dsimp only at H)
   by_cases c22 : E3 = true
   ·
    subst c22
    rw [if_pos rfl] at H
    obtain ⟨E4, A23, H⟩ := bindA H; (try dsimp only at H)
    by_cases c24 : E4 = true
    ·
     subst c24
     rw [if_pos rfl] at H
     have H' := yaa H; clear H; have p103 : 0 ≤ (b0 : Int) := of_decide_eq_true (by assumption); have q103 : b0 < (l1_4.length : Int) := of_decide_eq_true (by assumption); obtain ⟨ad103, d1, d2, d5, b6, b7, b8, b9, hl103_2, hi103_2⟩ := at_T124 HR1_4.out b0 p103 q103
     cases d5
     replace b6 := (upc_ HB.out b6 :); replace b7 := (upc_ HB.out b7 :); replace b8 := (upc_ HB.out b8 :); replace b9 := (upc_ HB.out b9 :); have HR103_2 := yaa hi103_2; have HC103_2 := yaa hl103_2; clear hi103_2 hl103_2; replace p103 := eq_true p103; replace q103 := eq_true q103
     go_wp2_with (first | ((with_reducible refine gd_ 7 rfl ?_); refine bx_ 7 rfl #[.int .i64 0, .string (⟨#[]⟩ : ByteArray), .slice none 0 0, .int .i64 0] 124 ?_; intro c5 hg w25 hbox hb; have c0 := yaa (hbox); have d3 := yaa ((by rw [hg]; exact (below_size (by repeat (with_reducible first | exact HB.out | apply yac | apply yab | apply yad | refine yaf ?_ (Aside0.out ‹_›)))) : w.heap.size ≤ c5)); replace HB := yaa (below_step (by repeat (with_reducible first | exact HB.out | apply yac | apply yab | apply yad | refine yaf ?_ (Aside0.out ‹_›))) hb); have d7 := d3; have b2 := yaa ((by rw [hg]; exact Nat.ne_of_lt (blk_lt (upB b4.out)) : c9 ≠ c5)); replace b4 := yaa (yag (upB b4.out) hb); have c2 := yaa b2.out.symm; have b3 := yaa ((by rw [hg]; exact Nat.ne_of_lt (blk_lt (upB b1.out)) : d0 ≠ c5)); replace b1 := yaa (yag (upB b1.out) hb); have c4 := yaa b3.out.symm; clear hb hbox hg; have E7 := c2.out; have E8 := b2.out; have E9 := c4.out; have F0 := b3.out; obtain ⟨l3, l4, l5, l6⟩ := cc4_ c0.out; obtain ⟨l7, l8, l9, m0⟩ := cf4_ c0.out; have F1 := c7.out; have F2 := b5.out; obtain ⟨m1, m2, m3, m4, m5, m6, m7, m8⟩ := cc8_ b1.out; obtain ⟨m9, n0, n1, n2, n3, n4, n5⟩ := cf7_ b1.out; have n6 := blk_frozen b1.out 7) | ((with_reducible refine gc_ 62 rfl ?_); refine gl_ (some 28) rfl Try.func62 #[.int .i64 ((yae l1_4 b0).f0), .int .i64 (wrap64 (d4 + 1)), .int .i64 (wrap64 (a1_3 - 1))] ?_; (with_reducible refine (impl_within.calls ((yae l1_4 b0).f0) (wrap64 (d4 + 1)) (wrap64 (a1_3 - 1)) true _ A17.out).mono ?_); rintro e w' ⟨rfl, ⟨nd, rfl⟩⟩; refine ⟨_, rfl, ?_⟩) | (go_at_call 73; (with_reducible refine (impl_nameOk.calls k1 ((yae l1_4 b0).f1) true _ A19.out).mono ?_); rintro e w' ⟨rfl, ⟨nd, rfl⟩⟩) | (go_at_call 72; (with_reducible refine (impl_opsOk.calls k1 _ _ ((yae l1_4 b0).f2) true _ ?side1 ?side2 A21.out).mono ?_); (case side1 => exact Kd.C_below HR103_2.out (by repeat (with_reducible first | exact HB.out | apply yac | apply yab | apply yad | refine yaf ?_ (Aside0.out ‹_›)))); (case side2 => exact HC103_2.out); rintro e w31 ⟨rfl, hb⟩; replace b4 := yaa (yag (g := c9) (o := .cells #[.slice A0_0 l0_0.length c0_0, .int .i64 a0_1, .int .i64 a0_2, .int .i64 a0_3, .int .i64 a0_4, .int .i64 a0_5, .int .i64 a0_6] 24 (0, 0)) (by repeat (with_reducible first | exact b4.out | refine oneB ?_ | refine blk_far ?_ b2.out _)) hb); replace b1 := yaa (yag (g := d0) (o := .cells #[.int .i64 a1_0, .int .i64 a1_1, .int .i64 a1_2, .int .i64 a1_3, .slice (some ad103) l1_4.length c1_4, .slice A1_5 l1_5.length c1_5, .slice A1_6 l1_6.length c1_6, .slice A1_7 l1_7.length c1_7] 63 (0, 0)) (by repeat (with_reducible first | exact b1.out | refine oneB ?_ | refine blk_far ?_ b3.out _)) hb); replace c0 := yaa (yag (g := c5) (o := .cells #[.int .i64 ((yae l1_4 b0).f0), .string ((yae l1_4 b0).f1), .slice d1 ((yae l1_4 b0).f2).length d2, .int .i64 ((yae l1_4 b0).f3)] 124 (0, 0)) (by (repeat refine oneB ?_); refine blk_put (cs := #[.int .i64 ((yae l1_4 b0).f0), .string ((yae l1_4 b0).f1), .slice d1 ((yae l1_4 b0).f2).length d2, .int .i64 0]) ?_ 3 _ rfl; refine blk_put (cs := #[.int .i64 ((yae l1_4 b0).f0), .string ((yae l1_4 b0).f1), .slice none 0 0, .int .i64 0]) ?_ 2 _ rfl; refine blk_put (cs := #[.int .i64 ((yae l1_4 b0).f0), .string (⟨#[]⟩ : ByteArray), .slice none 0 0, .int .i64 0]) ?_ 1 _ rfl; refine blk_put (cs := #[.int .i64 0, .string (⟨#[]⟩ : ByteArray), .slice none 0 0, .int .i64 0]) ?_ 0 _ rfl; exact upB c0.out) hb); replace HB := yaa (below_step (by repeat (with_reducible first | exact HB.out | apply yac | apply yab | apply yad | refine yaf ?_ (Aside0.out ‹_›))) hb); (try clear hb); obtain ⟨n7, n8, n9, o0⟩ := cc4_ c0.out; obtain ⟨o1, o2, o3, o4⟩ := cf4_ c0.out; obtain ⟨o5, o6, o7, o8, o9, p0, p1, p3⟩ := cc8_ b1.out; obtain ⟨p4, p5, p6, p7, p8, p9, q0⟩ := cf7_ b1.out; have q1 := blk_frozen b1.out 7) | (go_at_call 62; (with_reducible refine (impl_within.calls ((yae l1_4 b0).f3) 0 a1_0 true _ A23.out).mono ?_); rintro e w' ⟨rfl, ⟨nd, rfl⟩⟩))
     go_roundg k1
     case measure => have := HK1.out; omega
     case rel => exact ⟨((yae l1_4 b0).f0), (wrap64 (b0 + 1)), (by first | rfl | (simp; done) | (simp [*]; done)), (by first | rfl | (simp; done) | (simp [*]; done)), H', ⟨by have := HK1.out; omega⟩, ⟨by exact upB b4.out⟩, ⟨by exact upB b1.out⟩, ⟨by repeat (with_reducible first | exact HB.out | apply yac | apply yab | apply yad | refine yaf ?_ (Aside0.out ‹_›))⟩⟩
    replace c24 := Bool.eq_false_iff.mpr c24
    subst c24
    rw [if_neg (show ¬ (false = true) by decide)] at H
    obtain rfl := Option.some.inj H; have p103 : 0 ≤ (b0 : Int) := of_decide_eq_true (by assumption); have q103 : b0 < (l1_4.length : Int) := of_decide_eq_true (by assumption); obtain ⟨ad103, d1, d2, d5, b6, b7, b8, b9, hl103_2, hi103_2⟩ := at_T124 HR1_4.out b0 p103 q103
    cases d5
    replace b6 := (upc_ HB.out b6 :); replace b7 := (upc_ HB.out b7 :); replace b8 := (upc_ HB.out b8 :); replace b9 := (upc_ HB.out b9 :); have HR103_2 := yaa hi103_2; have HC103_2 := yaa hl103_2; clear hi103_2 hl103_2; replace p103 := eq_true p103; replace q103 := eq_true q103
    go_wp2_with (first | ((with_reducible refine gd_ 7 rfl ?_); refine bx_ 7 rfl #[.int .i64 0, .string (⟨#[]⟩ : ByteArray), .slice none 0 0, .int .i64 0] 124 ?_; intro c5 hg w34 hbox hb; have c0 := yaa (hbox); have d3 := yaa ((by rw [hg]; exact (below_size (by repeat (with_reducible first | exact HB.out | apply yac | apply yab | apply yad | refine yaf ?_ (Aside0.out ‹_›)))) : w.heap.size ≤ c5)); replace HB := yaa (below_step (by repeat (with_reducible first | exact HB.out | apply yac | apply yab | apply yad | refine yaf ?_ (Aside0.out ‹_›))) hb); have d7 := d3; have b2 := yaa ((by rw [hg]; exact Nat.ne_of_lt (blk_lt (upB b4.out)) : c9 ≠ c5)); replace b4 := yaa (yag (upB b4.out) hb); have c2 := yaa b2.out.symm; have b3 := yaa ((by rw [hg]; exact Nat.ne_of_lt (blk_lt (upB b1.out)) : d0 ≠ c5)); replace b1 := yaa (yag (upB b1.out) hb); have c4 := yaa b3.out.symm; clear hb hbox hg; have F3 := c2.out; have F4 := b2.out; have F5 := c4.out; have F6 := b3.out; obtain ⟨q2, q3, q4, q5⟩ := cc4_ c0.out; obtain ⟨q6, q7, q8, q9⟩ := cf4_ c0.out; have F7 := c7.out; have F8 := b5.out; obtain ⟨r0, r1, r2, r3, r4, r5, r6, r7⟩ := cc8_ b1.out; obtain ⟨r8, r9, s0, s1, s2, s3, s4⟩ := cf7_ b1.out; have s5 := blk_frozen b1.out 7) | ((with_reducible refine gc_ 62 rfl ?_); refine gl_ (some 28) rfl Try.func62 #[.int .i64 ((yae l1_4 b0).f0), .int .i64 (wrap64 (d4 + 1)), .int .i64 (wrap64 (a1_3 - 1))] ?_; (with_reducible refine (impl_within.calls ((yae l1_4 b0).f0) (wrap64 (d4 + 1)) (wrap64 (a1_3 - 1)) true _ A17.out).mono ?_); rintro e w' ⟨rfl, ⟨nd, rfl⟩⟩; refine ⟨_, rfl, ?_⟩) | (go_at_call 73; (with_reducible refine (impl_nameOk.calls k1 ((yae l1_4 b0).f1) true _ A19.out).mono ?_); rintro e w' ⟨rfl, ⟨nd, rfl⟩⟩) | (go_at_call 72; (with_reducible refine (impl_opsOk.calls k1 _ _ ((yae l1_4 b0).f2) true _ ?side1 ?side2 A21.out).mono ?_); (case side1 => exact Kd.C_below HR103_2.out (by repeat (with_reducible first | exact HB.out | apply yac | apply yab | apply yad | refine yaf ?_ (Aside0.out ‹_›)))); (case side2 => exact HC103_2.out); rintro e w40 ⟨rfl, hb⟩; replace b4 := yaa (yag (g := c9) (o := .cells #[.slice A0_0 l0_0.length c0_0, .int .i64 a0_1, .int .i64 a0_2, .int .i64 a0_3, .int .i64 a0_4, .int .i64 a0_5, .int .i64 a0_6] 24 (0, 0)) (by repeat (with_reducible first | exact b4.out | refine oneB ?_ | refine blk_far ?_ b2.out _)) hb); replace b1 := yaa (yag (g := d0) (o := .cells #[.int .i64 a1_0, .int .i64 a1_1, .int .i64 a1_2, .int .i64 a1_3, .slice (some ad103) l1_4.length c1_4, .slice A1_5 l1_5.length c1_5, .slice A1_6 l1_6.length c1_6, .slice A1_7 l1_7.length c1_7] 63 (0, 0)) (by repeat (with_reducible first | exact b1.out | refine oneB ?_ | refine blk_far ?_ b3.out _)) hb); replace c0 := yaa (yag (g := c5) (o := .cells #[.int .i64 ((yae l1_4 b0).f0), .string ((yae l1_4 b0).f1), .slice d1 ((yae l1_4 b0).f2).length d2, .int .i64 ((yae l1_4 b0).f3)] 124 (0, 0)) (by (repeat refine oneB ?_); refine blk_put (cs := #[.int .i64 ((yae l1_4 b0).f0), .string ((yae l1_4 b0).f1), .slice d1 ((yae l1_4 b0).f2).length d2, .int .i64 0]) ?_ 3 _ rfl; refine blk_put (cs := #[.int .i64 ((yae l1_4 b0).f0), .string ((yae l1_4 b0).f1), .slice none 0 0, .int .i64 0]) ?_ 2 _ rfl; refine blk_put (cs := #[.int .i64 ((yae l1_4 b0).f0), .string (⟨#[]⟩ : ByteArray), .slice none 0 0, .int .i64 0]) ?_ 1 _ rfl; refine blk_put (cs := #[.int .i64 0, .string (⟨#[]⟩ : ByteArray), .slice none 0 0, .int .i64 0]) ?_ 0 _ rfl; exact upB c0.out) hb); replace HB := yaa (below_step (by repeat (with_reducible first | exact HB.out | apply yac | apply yab | apply yad | refine yaf ?_ (Aside0.out ‹_›))) hb); (try clear hb); obtain ⟨s6, s7, s8, s9⟩ := cc4_ c0.out; obtain ⟨t0, t1, t2, t3⟩ := cf4_ c0.out; obtain ⟨t4, t5, t6, t7, t8, t9, u0, u1⟩ := cc8_ b1.out; obtain ⟨u2, u3, u4, u5, u6, u7, u9⟩ := cf7_ b1.out; have v0 := blk_frozen b1.out 7) | (go_at_call 62; (with_reducible refine (impl_within.calls ((yae l1_4 b0).f3) 0 a1_0 false _ A23.out).mono ?_); rintro e w' ⟨rfl, ⟨nd, rfl⟩⟩))
    go_ret
    exact ⟨by first | rfl | (simp [*, errW_none, errW_some] <;> rfl), by repeat (with_reducible first | exact HB.out | apply yac | apply yab | apply yad | refine yaf ?_ (Aside0.out ‹_›))⟩
   replace c22 := Bool.eq_false_iff.mpr c22
   subst c22
   rw [if_neg (show ¬ (false = true) by decide)] at H
   obtain rfl := Option.some.inj H; have p103 : 0 ≤ (b0 : Int) := of_decide_eq_true (by assumption); have q103 : b0 < (l1_4.length : Int) := of_decide_eq_true (by assumption); obtain ⟨ad103, d1, d2, d5, b6, b7, b8, b9, hl103_2, hi103_2⟩ := at_T124 HR1_4.out b0 p103 q103
   cases d5
   replace b6 := (upc_ HB.out b6 :); replace b7 := (upc_ HB.out b7 :); replace b8 := (upc_ HB.out b8 :); replace b9 := (upc_ HB.out b9 :); have HR103_2 := yaa hi103_2; have HC103_2 := yaa hl103_2; clear hi103_2 hl103_2; replace p103 := eq_true p103; replace q103 := eq_true q103
   go_wp2_with (first | ((with_reducible refine gd_ 7 rfl ?_); refine bx_ 7 rfl #[.int .i64 0, .string (⟨#[]⟩ : ByteArray), .slice none 0 0, .int .i64 0] 124 ?_; intro c5 hg w43 hbox hb; have c0 := yaa (hbox); have d3 := yaa ((by rw [hg]; exact (below_size (by repeat (with_reducible first | exact HB.out | apply yac | apply yab | apply yad | refine yaf ?_ (Aside0.out ‹_›)))) : w.heap.size ≤ c5)); replace HB := yaa (below_step (by repeat (with_reducible first | exact HB.out | apply yac | apply yab | apply yad | refine yaf ?_ (Aside0.out ‹_›))) hb); have d7 := d3; have b2 := yaa ((by rw [hg]; exact Nat.ne_of_lt (blk_lt (upB b4.out)) : c9 ≠ c5)); replace b4 := yaa (yag (upB b4.out) hb); have c2 := yaa b2.out.symm; have b3 := yaa ((by rw [hg]; exact Nat.ne_of_lt (blk_lt (upB b1.out)) : d0 ≠ c5)); replace b1 := yaa (yag (upB b1.out) hb); have c4 := yaa b3.out.symm; clear hb hbox hg; have F9 := c2.out; have G0 := b2.out; have G1 := c4.out; have G2 := b3.out; obtain ⟨v1, v2, v3, v4⟩ := cc4_ c0.out; obtain ⟨v6, v7, v8, v9⟩ := cf4_ c0.out; have G3 := c7.out; have G4 := b5.out; obtain ⟨w0, w1, w2, w3, w6, w7, w8, x0⟩ := cc8_ b1.out; obtain ⟨x1, x2, x3, x4, x6, x7, x8⟩ := cf7_ b1.out; have x9 := blk_frozen b1.out 7) | ((with_reducible refine gc_ 62 rfl ?_); refine gl_ (some 28) rfl Try.func62 #[.int .i64 ((yae l1_4 b0).f0), .int .i64 (wrap64 (d4 + 1)), .int .i64 (wrap64 (a1_3 - 1))] ?_; (with_reducible refine (impl_within.calls ((yae l1_4 b0).f0) (wrap64 (d4 + 1)) (wrap64 (a1_3 - 1)) true _ A17.out).mono ?_); rintro e w' ⟨rfl, ⟨nd, rfl⟩⟩; refine ⟨_, rfl, ?_⟩) | (go_at_call 73; (with_reducible refine (impl_nameOk.calls k1 ((yae l1_4 b0).f1) true _ A19.out).mono ?_); rintro e w' ⟨rfl, ⟨nd, rfl⟩⟩) | (go_at_call 72; (with_reducible refine (impl_opsOk.calls k1 _ _ ((yae l1_4 b0).f2) false _ ?side1 ?side2 A21.out).mono ?_); (case side1 => exact Kd.C_below HR103_2.out (by repeat (with_reducible first | exact HB.out | apply yac | apply yab | apply yad | refine yaf ?_ (Aside0.out ‹_›)))); (case side2 => exact HC103_2.out); rintro e w49 ⟨rfl, hb⟩; replace b4 := yaa (yag (g := c9) (o := .cells #[.slice A0_0 l0_0.length c0_0, .int .i64 a0_1, .int .i64 a0_2, .int .i64 a0_3, .int .i64 a0_4, .int .i64 a0_5, .int .i64 a0_6] 24 (0, 0)) (by repeat (with_reducible first | exact b4.out | refine oneB ?_ | refine blk_far ?_ b2.out _)) hb); replace b1 := yaa (yag (g := d0) (o := .cells #[.int .i64 a1_0, .int .i64 a1_1, .int .i64 a1_2, .int .i64 a1_3, .slice (some ad103) l1_4.length c1_4, .slice A1_5 l1_5.length c1_5, .slice A1_6 l1_6.length c1_6, .slice A1_7 l1_7.length c1_7] 63 (0, 0)) (by repeat (with_reducible first | exact b1.out | refine oneB ?_ | refine blk_far ?_ b3.out _)) hb); replace c0 := yaa (yag (g := c5) (o := .cells #[.int .i64 ((yae l1_4 b0).f0), .string ((yae l1_4 b0).f1), .slice d1 ((yae l1_4 b0).f2).length d2, .int .i64 ((yae l1_4 b0).f3)] 124 (0, 0)) (by (repeat refine oneB ?_); refine blk_put (cs := #[.int .i64 ((yae l1_4 b0).f0), .string ((yae l1_4 b0).f1), .slice d1 ((yae l1_4 b0).f2).length d2, .int .i64 0]) ?_ 3 _ rfl; refine blk_put (cs := #[.int .i64 ((yae l1_4 b0).f0), .string ((yae l1_4 b0).f1), .slice none 0 0, .int .i64 0]) ?_ 2 _ rfl; refine blk_put (cs := #[.int .i64 ((yae l1_4 b0).f0), .string (⟨#[]⟩ : ByteArray), .slice none 0 0, .int .i64 0]) ?_ 1 _ rfl; refine blk_put (cs := #[.int .i64 0, .string (⟨#[]⟩ : ByteArray), .slice none 0 0, .int .i64 0]) ?_ 0 _ rfl; exact upB c0.out) hb); replace HB := yaa (below_step (by repeat (with_reducible first | exact HB.out | apply yac | apply yab | apply yad | refine yaf ?_ (Aside0.out ‹_›))) hb); (try clear hb)))
   go_ret
   exact ⟨by first | rfl | (simp [*, errW_none, errW_some] <;> rfl), by repeat (with_reducible first | exact HB.out | apply yac | apply yab | apply yad | refine yaf ?_ (Aside0.out ‹_›))⟩
end
section
open Go.Proofs.YtgpkkkmapgnhkaaW.PrintWords.Aside0 renaming mk → yaa
open Go.Proofs.YtgpkkkmapgnhkaaW.PrintWords renaming pw_below_drewN → yab, below_alloc → yac, below_drew1 → yad, below_set → yaf
open Go.Proofs.Ytgpkkkmapgnhkaa.X renaming rd_T156 → yae
mutual
def impl_filesOk.l0 : Nat → List (S156) → Int → Int → Int → Int → Int → Int → List (S124) → List (S156) → List ByteArray → List (S158) → Option (Bool)
 | 0, _, _, _, _, _, _, _, _, _, _, _ => none
 | k + 1, x16, x17, x18, x103000, x103001, x103002, x103003, x103004, x103005, x103006, x103007 => if x18 < x17 then (if 0 ≤ x18 then (if x18 < (x16.length : Int) then ((impl_nameOk.f k ((rd_T156 x16 x18).f0)).bind fun t105 => (if t105 = true then ((impl_within.f ((rd_T156 x16 x18).f1) 0 x103000).bind fun t106 => (if t106 = true then (impl_filesOk.j1 k x18 x16 x17 x18 (decide ((((rd_T156 x16 x18).f2).length : Int) > 220)) x103000 x103001 x103002 x103003 x103004 x103005 x103006 x103007 ((rd_T156 x16 x18).f0) ((rd_T156 x16 x18).f1) ((rd_T156 x16 x18).f2)) else (impl_filesOk.j1 k x18 x16 x17 x18 true x103000 x103001 x103002 x103003 x103004 x103005 x103006 x103007 ((rd_T156 x16 x18).f0) ((rd_T156 x16 x18).f1) ((rd_T156 x16 x18).f2)))) else (impl_filesOk.j1 k x18 x16 x17 x18 true x103000 x103001 x103002 x103003 x103004 x103005 x103006 x103007 ((rd_T156 x16 x18).f0) ((rd_T156 x16 x18).f1) ((rd_T156 x16 x18).f2)))) else (none)) else (none)) else (some true)
def impl_filesOk.j1 : Nat → Int → List (S156) → Int → Int → Bool → Int → Int → Int → Int → List (S124) → List (S156) → List ByteArray → List (S158) → ByteArray → Int → List Int → Option (Bool)
 | 0, _, _, _, _, _, _, _, _, _, _, _, _, _, _, _, _ => none
 | k + 1, x5, x16, x17, x18, x40, x103000, x103001, x103002, x103003, x103004, x103005, x103006, x103007, x105000, x105001, x105002 => if x40 = true then (some false) else (if 0 ≤ x5 then (if x5 ≤ (x103005.length : Int) then ((some (x103005.take (x5 : Int).toNat : List (S156))).bind fun y107 => (impl_filesOk.l1 k x16 x17 x18 y107 (y107.length : Int) 0 x103000 x103001 x103002 x103003 x103004 x103005 x103006 x103007 x105000 x105001 x105002)) else (none)) else (none))
def impl_filesOk.l1 : Nat → List (S156) → Int → Int → List (S156) → Int → Int → Int → Int → Int → Int → List (S124) → List (S156) → List ByteArray → List (S158) → ByteArray → Int → List Int → Option (Bool)
 | 0, _, _, _, _, _, _, _, _, _, _, _, _, _, _, _, _, _ => none
 | k + 1, x16, x17, x18, x44, x45, x46, x103000, x103001, x103002, x103003, x103004, x103005, x103006, x103007, x105000, x105001, x105002 => if x46 < x45 then (if 0 ≤ x46 then (if x46 < (x44.length : Int) then (if x105000.toList = ((rd_T156 x44 x46).f0).toList then (some false) else (impl_filesOk.l1 k x16 x17 x18 x44 x45 (wrap64 (x46 + 1)) x103000 x103001 x103002 x103003 x103004 x103005 x103006 x103007 x105000 x105001 x105002)) else (none)) else (none)) else (impl_filesOk.l0 k x16 x17 (wrap64 (x18 + 1)) x103000 x103001 x103002 x103003 x103004 x103005 x103006 x103007)
end
def impl_filesOk.f (k : Nat) (l0_0 : List Int) (a0_1 : Int) (a0_2 : Int) (a0_3 : Int) (a0_4 : Int) (a0_5 : Int) (a0_6 : Int) (a1_0 : Int) (a1_1 : Int) (a1_2 : Int) (a1_3 : Int) (l1_4 : List (S124)) (l1_5 : List (S156)) (l1_6 : List ByteArray) (l1_7 : List (S158)) : Option (Bool) := if (l1_5.length : Int) > a0_5 then (some false) else (impl_filesOk.l0 k l1_5 (l1_5.length : Int) 0 a1_0 a1_1 a1_2 a1_3 l1_4 l1_5 l1_6 l1_7)
set_option maxHeartbeats 8000000 in
set_option maxRecDepth 100000 in
theorem impl_filesOk.calls (k : Nat) (A0_0 : Option Addr) (c0_0 : Nat) (l0_0 : List Int) (a0_1 : Int) (a0_2 : Int) (a0_3 : Int) (a0_4 : Int) (a0_5 : Int) (a0_6 : Int) (a1_0 : Int) (a1_1 : Int) (a1_2 : Int) (a1_3 : Int) (A1_4 : Option Addr) (c1_4 : Nat) (l1_4 : List (S124)) (A1_5 : Option Addr) (c1_5 : Nat) (l1_5 : List (S156)) (A1_6 : Option Addr) (c1_6 : Nat) (l1_6 : List ByteArray) (A1_7 : Option Addr) (c1_7 : Nat) (l1_7 : List (S158)) (r : Bool) (w : World) (hr0_0 : Kd.C (Kd.int .u8) w A0_0 l0_0.length l0_0) (hc0_0 : l0_0.length ≤ c0_0) (hr1_4 : Kd.C k124 w A1_4 l1_4.length l1_4) (hc1_4 : l1_4.length ≤ c1_4) (hr1_5 : Kd.C k156 w A1_5 l1_5.length l1_5) (hc1_5 : l1_5.length ≤ c1_5) (hr1_6 : Kd.C Kd.string w A1_6 l1_6.length l1_6) (hc1_6 : l1_6.length ≤ c1_6) (hr1_7 : Kd.C k158 w A1_7 l1_7.length l1_7) (hc1_7 : l1_7.length ≤ c1_7) (h : impl_filesOk.f k l0_0 a0_1 a0_2 a0_3 a0_4 a0_5 a0_6 a1_0 a1_1 a1_2 a1_3 l1_4 l1_5 l1_6 l1_7 = some r) :
  Calls Try.prog 89 #[.agg #[.slice A0_0 l0_0.length c0_0, .int .i64 a0_1, .int .i64 a0_2, .int .i64 a0_3, .int .i64 a0_4, .int .i64 a0_5, .int .i64 a0_6], .agg #[.int .i64 a1_0, .int .i64 a1_1, .int .i64 a1_2, .int .i64 a1_3, .slice A1_4 l1_4.length c1_4, .slice A1_5 l1_5.length c1_5, .slice A1_6 l1_6.length c1_6, .slice A1_7 l1_7.length c1_7]] w fun e w' => e = .returned (.bool r) ∧ Below w.heap.size w w' := by
 have hu24 := Try.underlying24; have hu63 := Try.underlying63; have hu156 := Try.underlying156; have HR0_0 := yaa hr0_0; have HC0_0 := yaa hc0_0; clear hr0_0 hc0_0; have HR1_4 := yaa hr1_4; have HC1_4 := yaa hc1_4; clear hr1_4 hc1_4; have HR1_5 := yaa hr1_5; have HC1_5 := yaa hc1_5; clear hr1_5 hc1_5; have HR1_6 := yaa hr1_6; have HC1_6 := yaa hc1_6; clear hr1_6 hc1_6; have HR1_7 := yaa hr1_7; have HC1_7 := yaa hc1_7; clear hr1_7 hc1_7; have HB := yaa (Below.refl w.heap.size w); have H : (if (l1_5.length : Int) > a0_5 then (some false) else (impl_filesOk.l0 k l1_5 (l1_5.length : Int) 0 a1_0 a1_1 a1_2 a1_3 l1_4 l1_5 l1_6 l1_7)) = some r := h; clear h
 by_cases c3 : (l1_5.length : Int) > a0_5
 ·
  rw [if_pos c3] at H
  have s1 : decide (a0_5 < (l1_5.length : Int)) = true := decide_eq_true c3; clear c3; obtain rfl := Option.some.inj H
  go_enter Try.func89, Try.ntmps89
  go_wp2_with (first | ((with_reducible refine gd_ 2 rfl ?_); (try (refine gate_guard (by rfl) ?_; dsimp only)); refine bx_ 2 rfl #[.slice A0_0 l0_0.length c0_0, .int .i64 a0_1, .int .i64 a0_2, .int .i64 a0_3, .int .i64 a0_4, .int .i64 a0_5, .int .i64 a0_6] 24 ?_; intro d1 hg w4 hbox hb; have b1 := yaa (hbox); have r5 := yaa ((by rw [hg]; exact (below_size (upH HB.out)) : w.heap.size ≤ d1)); replace HB := yaa (below_step (upH HB.out) hb); have u3 := r5; clear hb hbox hg) | ((with_reducible refine gd_ 3 rfl ?_); (try (refine gate_guard (by rfl) ?_; dsimp only)); refine bx_ 3 rfl #[.int .i64 a1_0, .int .i64 a1_1, .int .i64 a1_2, .int .i64 a1_3, .slice A1_4 l1_4.length c1_4, .slice A1_5 l1_5.length c1_5, .slice A1_6 l1_6.length c1_6, .slice A1_7 l1_7.length c1_7] 63 ?_; intro d2 hg w5 hbox hb; have b2 := yaa (hbox); have r6 := yaa ((by rw [hg]; exact (below_size (by repeat (with_reducible first | exact HB.out | apply yac | apply yab | apply yad | refine yaf ?_ (Aside0.out ‹_›)))) : w.heap.size ≤ d2)); replace HB := yaa (below_step (by repeat (with_reducible first | exact HB.out | apply yac | apply yab | apply yad | refine yaf ?_ (Aside0.out ‹_›))) hb); have u4 := r6; have b6 := yaa ((by rw [hg]; exact Nat.ne_of_lt (blk_lt (upB b1.out)) : d1 ≠ d2)); replace b1 := yaa (blk_below (upB b1.out) hb); have b9 := yaa b6.out.symm; clear hb hbox hg; have F2 := b9.out; have F3 := b6.out; obtain ⟨h9, i0, i1, i2, i3, i4, i5, i6⟩ := cc8_ b2.out; obtain ⟨i7, i8, i9, j0, j2, j3, j4, j5⟩ := cf8_ b2.out; obtain ⟨j6, j7, j8, j9, k0, k2, k4⟩ := cc7_ b1.out; obtain ⟨k5, k6, k7, k8, k9, l2⟩ := cf6_ b1.out; have l3 := blk_frozen b1.out 6))
  go_ret
  exact ⟨by first | rfl | (simp [*, errW_none, errW_some] <;> rfl), by repeat (with_reducible first | exact HB.out | apply yac | apply yab | apply yad | refine yaf ?_ (Aside0.out ‹_›))⟩
 rw [if_neg c3] at H
 have s1 : decide (a0_5 < (l1_5.length : Int)) = false := decide_eq_false c3; clear c3; have H' := yaa H; clear H
 go_enter Try.func89, Try.ntmps89
 go_wp2_with (first | ((with_reducible refine gd_ 2 rfl ?_); (try (refine gate_guard (by rfl) ?_; dsimp only)); refine bx_ 2 rfl #[.slice A0_0 l0_0.length c0_0, .int .i64 a0_1, .int .i64 a0_2, .int .i64 a0_3, .int .i64 a0_4, .int .i64 a0_5, .int .i64 a0_6] 24 ?_; intro d1 hg w9 hbox hb; have b1 := yaa (hbox); have r5 := yaa ((by rw [hg]; exact (below_size (upH HB.out)) : w.heap.size ≤ d1)); replace HB := yaa (below_step (upH HB.out) hb); have u3 := r5; clear hb hbox hg) | ((with_reducible refine gd_ 3 rfl ?_); (try (refine gate_guard (by rfl) ?_; dsimp only)); refine bx_ 3 rfl #[.int .i64 a1_0, .int .i64 a1_1, .int .i64 a1_2, .int .i64 a1_3, .slice A1_4 l1_4.length c1_4, .slice A1_5 l1_5.length c1_5, .slice A1_6 l1_6.length c1_6, .slice A1_7 l1_7.length c1_7] 63 ?_; intro d2 hg w10 hbox hb; have b2 := yaa (hbox); have r6 := yaa ((by rw [hg]; exact (below_size (by repeat (with_reducible first | exact HB.out | apply yac | apply yab | apply yad | refine yaf ?_ (Aside0.out ‹_›)))) : w.heap.size ≤ d2)); replace HB := yaa (below_step (by repeat (with_reducible first | exact HB.out | apply yac | apply yab | apply yad | refine yaf ?_ (Aside0.out ‹_›))) hb); have u4 := r6; have b6 := yaa ((by rw [hg]; exact Nat.ne_of_lt (blk_lt (upB b1.out)) : d1 ≠ d2)); replace b1 := yaa (blk_below (upB b1.out) hb); have b9 := yaa b6.out.symm; clear hb hbox hg; have A3 := b9.out; have A4 := b6.out; obtain ⟨e4, e5, e6, e7, e8, e9, f3, f4⟩ := cc8_ b2.out; obtain ⟨f5, f6, f7, f8, f9, g0, g1, g2⟩ := cf8_ b2.out; obtain ⟨g3, g4, g5, g6, g7, g8, g9⟩ := cc7_ b1.out; obtain ⟨h0, h1, h2, h3, h4, h5⟩ := cf6_ b1.out; have h6 := blk_frozen b1.out 6))
 (try simp only [Act.put, List.setIfInBounds_toArray, List.set_cons_zero, List.set_cons_succ])
 go_loopg [18] k (fun kq v18 w' => ∃ (b0 : Int), v18 = .int .i64 b0 ∧ Aside0 (impl_filesOk.l0 kq l1_5 (l1_5.length : Int) b0 a1_0 a1_1 a1_2 a1_3 l1_4 l1_5 l1_6 l1_7 = some r) ∧ Aside0 (kq ≤ k) ∧ Aside0 (w'.heap[d1]? = some (.cells #[(.slice A0_0 l0_0.length c0_0), .int .i64 a0_1, .int .i64 a0_2, .int .i64 a0_3, .int .i64 a0_4, .int .i64 a0_5, .int .i64 a0_6] 24 (0, 0))) ∧ Aside0 (w'.heap[d2]? = some (.cells #[.int .i64 a1_0, .int .i64 a1_1, .int .i64 a1_2, .int .i64 a1_3, (.slice A1_4 l1_4.length c1_4), (.slice A1_5 l1_5.length c1_5), (.slice A1_6 l1_6.length c1_6), (.slice A1_7 l1_7.length c1_7)] 63 (0, 0))) ∧ Aside0 (Below w.heap.size w w'))
 case atStart => exact ⟨(0), (by first | rfl | (simp; done) | (simp [*]; done)), H', ⟨Nat.le_refl _⟩, ⟨by exact upB b1.out⟩, ⟨by exact upB b2.out⟩, ⟨by repeat (with_reducible first | exact HB.out | apply yac | apply yab | apply yad | refine yaf ?_ (Aside0.out ‹_›))⟩⟩
 case round =>
  clear H'; (try clear c1); (try clear p2); (try clear c3); (try clear s1); (try clear c6); (try clear c8); (try clear c11); (try clear e4); (try clear e5); (try clear e6); (try clear e7); (try clear e8); (try clear e9); (try clear f3); (try clear f4); (try clear g3); (try clear g4); (try clear g5); (try clear g6); (try clear g7); (try clear g8); (try clear g9); (try clear h9); (try clear i0); (try clear i1); (try clear i2); (try clear i3); (try clear i4); (try clear i5); (try clear i6); (try clear j6); (try clear j7); (try clear j8); (try clear j9); (try clear k0); (try clear k2); (try clear k4); (try clear f5); (try clear f6); (try clear f7); (try clear f8); (try clear f9); (try clear g0); (try clear g1); (try clear g2); (try clear h0); (try clear h1); (try clear h2); (try clear h3); (try clear h4); (try clear h5); (try clear h6); (try clear i7); (try clear i8); (try clear i9); (try clear j0); (try clear j2); (try clear j3); (try clear j4); (try clear j5); (try clear k5); (try clear k6); (try clear k7); (try clear k8); (try clear k9); (try clear l2); (try clear l3); obtain ⟨b0, rfl, HA, HK1, b1, b2, HB⟩ := hrel
  cases gk with
  | zero => exact absurd HA.out (by simp [impl_filesOk.l0])
  | succ k1 =>
   have H := HA.out; clear HA
   simp only [impl_filesOk.l0] at H
   by_cases c14 : b0 < (l1_5.length : Int)
   rotate_left
   ·
    rw [if_neg c14] at H
    have r7 : decide (b0 < (l1_5.length : Int)) = false := decide_eq_false c14; clear c14; obtain rfl := Option.some.inj H
    go_wp2
    go_ret
    exact ⟨by first | rfl | (simp [*, errW_none, errW_some] <;> rfl), by repeat (with_reducible first | exact HB.out | apply yac | apply yab | apply yad | refine yaf ?_ (Aside0.out ‹_›))⟩
   rw [if_pos c14] at H
   have r7 : decide (b0 < (l1_5.length : Int)) = true := decide_eq_true c14; clear c14
   by_cases c15 : 0 ≤ b0
   rotate_left
   ·
    rw [if_neg c15] at H
    exact absurd H (by simp)
   rw [if_pos c15] at H
   replace c15 := decide_eq_true c15
   by_cases c16 : b0 < (l1_5.length : Int)
   rotate_left
   ·
    rw [if_neg c16] at H
    exact absurd H (by simp)
   rw [if_pos c16] at H
   replace c16 := decide_eq_true c16; have HC17 := yaa H; clear H; have p103 : 0 ≤ (b0 : Int) := of_decide_eq_true (by assumption); have q103 : b0 < (l1_5.length : Int) := of_decide_eq_true (by assumption); obtain ⟨ad103, r8, r9, z8, e0, e1, e2, hl103_2, hi103_2⟩ := at_T156 HR1_5.out b0 p103 q103
   cases z8
   replace e0 := (upc_ HB.out e0 :); replace e1 := (upc_ HB.out e1 :); replace e2 := (upc_ HB.out e2 :); have HR103_2 := yaa hi103_2; have HC103_2 := yaa hl103_2; clear hi103_2 hl103_2; replace p103 := eq_true p103; replace q103 := eq_true q103
   go_upto_region 6 with (first | ((with_reducible refine gd_ 6 rfl ?_); (try (refine gate_guard (by rfl) ?_; dsimp only)); refine bx_ 6 rfl #[.string (⟨#[]⟩ : ByteArray), .int .i64 0, .slice none 0 0] 156 ?_; intro e3 hg w18 hbox hb; have b3 := yaa (hbox); have u6 := yaa ((by rw [hg]; exact (below_size (by repeat (with_reducible first | exact HB.out | apply yac | apply yab | apply yad | refine yaf ?_ (Aside0.out ‹_›)))) : w.heap.size ≤ e3)); replace HB := yaa (below_step (by repeat (with_reducible first | exact HB.out | apply yac | apply yab | apply yad | refine yaf ?_ (Aside0.out ‹_›))) hb); have A5 := u6; have b5 := yaa ((by rw [hg]; exact Nat.ne_of_lt (blk_lt (upB b1.out)) : d1 ≠ e3)); replace b1 := yaa (blk_below (upB b1.out) hb); have c0 := yaa b5.out.symm; have b4 := yaa ((by rw [hg]; exact Nat.ne_of_lt (blk_lt (upB b2.out)) : d2 ≠ e3)); replace b2 := yaa (blk_below (upB b2.out) hb); have b7 := yaa b4.out.symm; clear hb hbox hg; have A6 := c0.out; have A7 := b5.out; have A8 := b7.out; have A9 := b4.out; obtain ⟨l5, l6, l7⟩ := cc3_ b3.out; obtain ⟨l8, l9⟩ := cf2_ b3.out; have m0 := blk_frozen b3.out 2))
   (try simp only [Act.put, List.setIfInBounds_toArray, List.set_cons_zero, List.set_cons_succ])
   go_cut [40] (fun v40 wc => ∃ (kq : Nat) (h7 : Bool), v40 = .bool h7 ∧ Aside0 (impl_filesOk.j1 kq b0 l1_5 (l1_5.length : Int) b0 h7 a1_0 a1_1 a1_2 a1_3 l1_4 l1_5 l1_6 l1_7 ((yae l1_5 b0).f0) ((yae l1_5 b0).f1) ((yae l1_5 b0).f2) = some r) ∧ Aside0 (kq ≤ k1) ∧ Aside0 (wc.heap[d1]? = some (.cells #[(.slice A0_0 l0_0.length c0_0), .int .i64 a0_1, .int .i64 a0_2, .int .i64 a0_3, .int .i64 a0_4, .int .i64 a0_5, .int .i64 a0_6] 24 (0, 0))) ∧ Aside0 (wc.heap[d2]? = some (.cells #[.int .i64 a1_0, .int .i64 a1_1, .int .i64 a1_2, .int .i64 a1_3, (.slice A1_4 l1_4.length c1_4), (.slice (some ad103) l1_5.length c1_5), (.slice A1_6 l1_6.length c1_6), (.slice A1_7 l1_7.length c1_7)] 63 (0, 0))) ∧ Aside0 (wc.heap[e3]? = some (.cells #[.string ((yae l1_5 b0).f0), .int .i64 ((yae l1_5 b0).f1), (.slice r8 ((yae l1_5 b0).f2).length r9)] 156 (0, 0))) ∧ Aside0 (Below w.heap.size w wc))
   case first =>
    have H := HC17.out; clear HC17; obtain ⟨z9, A22, H⟩ := bindA H; (try dsimp only at H)
    by_cases c23 : z9 = true
    ·
     subst c23
     rw [if_pos rfl] at H
     obtain ⟨A0, A24, H⟩ := bindA H; (try dsimp only at H)
     by_cases c25 : A0 = true
     ·
      subst c25
      rw [if_pos rfl] at H
      have H' := yaa H; clear H; have B0 := c0.out; have B1 := b5.out; have B2 := b7.out; have B3 := b4.out; obtain ⟨m1, m2, m3⟩ := cc3_ b3.out; obtain ⟨m4, m5, m6⟩ := cf3_ b3.out
      go_wp2_with (first | ((with_reducible refine gc_ 73 rfl ?_); refine gl_ (some 25) rfl Try.func73 #[.string ((yae l1_5 b0).f0)] ?_; (with_reducible refine (impl_nameOk.calls k1 ((yae l1_5 b0).f0) true _ A22.out).mono ?_); rintro e w' ⟨rfl, ⟨nd, rfl⟩⟩; refine ⟨_, rfl, ?_⟩; have B4 := b9.out; have B5 := b6.out; obtain ⟨m7, m8, m9, n0, n1, n2, n3, n4⟩ := cc8_ b2.out; obtain ⟨n5, n6, n7, n8, n9, o0, o1⟩ := cf7_ b2.out; have o2 := blk_frozen b2.out 7) | (go_at_call 62; (with_reducible refine (impl_within.calls ((yae l1_5 b0).f1) 0 a1_0 true _ A24.out).mono ?_); rintro e w' ⟨rfl, ⟨nd, rfl⟩⟩))
      go_meet
      case rel => exact ⟨_, (decide ((((yae l1_5 b0).f2).length : Int) > 220)), (by first | rfl | (simp; done) | (simp [*]; done)), H', ⟨by have := HK1.out; first | omega | exact Nat.le_refl _⟩, ⟨by repeat (with_reducible first | exact b1.out | refine oneB ?_ | refine blk_far ?_ b5.out _)⟩, ⟨by repeat (with_reducible first | exact b2.out | refine oneB ?_ | refine blk_far ?_ b4.out _)⟩, ⟨by (repeat refine oneB ?_); refine blk_put (cs := #[.string ((yae l1_5 b0).f0), .int .i64 ((yae l1_5 b0).f1), .slice none 0 0]) ?_ 2 _ rfl; refine blk_put (cs := #[.string ((yae l1_5 b0).f0), .int .i64 0, .slice none 0 0]) ?_ 1 _ rfl; refine blk_put (cs := #[.string (⟨#[]⟩ : ByteArray), .int .i64 0, .slice none 0 0]) ?_ 0 _ rfl; exact upB b3.out⟩, ⟨by repeat (with_reducible first | exact HB.out | apply yac | apply yab | apply yad | refine yaf ?_ (Aside0.out ‹_›))⟩⟩
     replace c25 := Bool.eq_false_iff.mpr c25
     subst c25
     rw [if_neg (show ¬ (false = true) by decide)] at H
     have H' := yaa H; clear H; have B6 := c0.out; have B7 := b5.out; have B8 := b7.out; have B9 := b4.out; obtain ⟨o3, o4, o5⟩ := cc3_ b3.out; obtain ⟨o6, o7, o8⟩ := cf3_ b3.out
     go_wp2_with (first | ((with_reducible refine gc_ 73 rfl ?_); refine gl_ (some 25) rfl Try.func73 #[.string ((yae l1_5 b0).f0)] ?_; (with_reducible refine (impl_nameOk.calls k1 ((yae l1_5 b0).f0) true _ A22.out).mono ?_); rintro e w' ⟨rfl, ⟨nd, rfl⟩⟩; refine ⟨_, rfl, ?_⟩; have C0 := b9.out; have C1 := b6.out; obtain ⟨o9, p0, p3, p4, p5, p6, p7, p8⟩ := cc8_ b2.out; obtain ⟨p9, q0, q2, q3, q5, q6, q7⟩ := cf7_ b2.out; have q8 := blk_frozen b2.out 7) | (go_at_call 62; (with_reducible refine (impl_within.calls ((yae l1_5 b0).f1) 0 a1_0 false _ A24.out).mono ?_); rintro e w' ⟨rfl, ⟨nd, rfl⟩⟩))
     go_meet
     case rel => exact ⟨_, (true), (by first | rfl | (simp; done) | (simp [*]; done)), H', ⟨by have := HK1.out; first | omega | exact Nat.le_refl _⟩, ⟨by repeat (with_reducible first | exact b1.out | refine oneB ?_ | refine blk_far ?_ b5.out _)⟩, ⟨by repeat (with_reducible first | exact b2.out | refine oneB ?_ | refine blk_far ?_ b4.out _)⟩, ⟨by (repeat refine oneB ?_); refine blk_put (cs := #[.string ((yae l1_5 b0).f0), .int .i64 ((yae l1_5 b0).f1), .slice none 0 0]) ?_ 2 _ rfl; refine blk_put (cs := #[.string ((yae l1_5 b0).f0), .int .i64 0, .slice none 0 0]) ?_ 1 _ rfl; refine blk_put (cs := #[.string (⟨#[]⟩ : ByteArray), .int .i64 0, .slice none 0 0]) ?_ 0 _ rfl; exact upB b3.out⟩, ⟨by repeat (with_reducible first | exact HB.out | apply yac | apply yab | apply yad | refine yaf ?_ (Aside0.out ‹_›))⟩⟩
    replace c23 := Bool.eq_false_iff.mpr c23
    subst c23
    rw [if_neg (show ¬ (false = true) by decide)] at H
    have H' := yaa H; clear H; have C2 := c0.out; have C3 := b5.out; have C4 := b7.out; have C5 := b4.out; obtain ⟨q9, r0, r1⟩ := cc3_ b3.out; obtain ⟨r2, r3, r4⟩ := cf3_ b3.out
    go_wp2_with (first | ((with_reducible refine gc_ 73 rfl ?_); refine gl_ (some 25) rfl Try.func73 #[.string ((yae l1_5 b0).f0)] ?_; (with_reducible refine (impl_nameOk.calls k1 ((yae l1_5 b0).f0) false _ A22.out).mono ?_); rintro e w' ⟨rfl, ⟨nd, rfl⟩⟩; refine ⟨_, rfl, ?_⟩))
    go_meet
    case rel => exact ⟨_, (true), (by first | rfl | (simp; done) | (simp [*]; done)), H', ⟨by have := HK1.out; first | omega | exact Nat.le_refl _⟩, ⟨by repeat (with_reducible first | exact b1.out | refine oneB ?_ | refine blk_far ?_ b5.out _)⟩, ⟨by repeat (with_reducible first | exact b2.out | refine oneB ?_ | refine blk_far ?_ b4.out _)⟩, ⟨by (repeat refine oneB ?_); refine blk_put (cs := #[.string ((yae l1_5 b0).f0), .int .i64 ((yae l1_5 b0).f1), .slice none 0 0]) ?_ 2 _ rfl; refine blk_put (cs := #[.string ((yae l1_5 b0).f0), .int .i64 0, .slice none 0 0]) ?_ 1 _ rfl; refine blk_put (cs := #[.string (⟨#[]⟩ : ByteArray), .int .i64 0, .slice none 0 0]) ?_ 0 _ rfl; exact upB b3.out⟩, ⟨by repeat (with_reducible first | exact HB.out | apply yac | apply yab | apply yad | refine yaf ?_ (Aside0.out ‹_›))⟩⟩
   case rest =>
    clear HC17; (try clear c1); (try clear p1); (try clear q1); (try clear hx1); (try clear c2); (try clear p2); (try clear c3); (try clear s1); (try clear c6); (try clear c7); (try clear c8); (try clear c10); (try clear p10); (try clear q10); (try clear hx10); (try clear c11); (try clear c14); (try clear r7); (try clear c15); (try clear c15b0); (try clear c16); (try clear c16b0); (try clear c19); (try clear c20); (try clear c23); (try clear c25); (try clear c26); (try clear c27); (try clear c29); (try clear c31); (try clear c32); (try clear c34); (try clear c36); (try clear c37); (try clear e4); (try clear e5); (try clear e6); (try clear e7); (try clear e8); (try clear e9); (try clear f3); (try clear f4); (try clear g3); (try clear g4); (try clear g5); (try clear g6); (try clear g7); (try clear g8); (try clear g9); (try clear l5); (try clear l6); (try clear l7); (try clear m1); (try clear m2); (try clear m3); (try clear m7); (try clear m8); (try clear m9); (try clear n0); (try clear n1); (try clear n2); (try clear n3); (try clear n4); (try clear o3); (try clear o4); (try clear o5); (try clear o9); (try clear p0); (try clear p3); (try clear p4); (try clear p5); (try clear p6); (try clear p7); (try clear p8); (try clear q9); (try clear r0); (try clear r1); (try clear h9); (try clear i0); (try clear i1); (try clear i2); (try clear i3); (try clear i4); (try clear i5); (try clear i6); (try clear j6); (try clear j7); (try clear j8); (try clear j9); (try clear k0); (try clear k2); (try clear k4); (try clear f5); (try clear f6); (try clear f7); (try clear f8); (try clear f9); (try clear g0); (try clear g1); (try clear g2); (try clear h0); (try clear h1); (try clear h2); (try clear h3); (try clear h4); (try clear h5); (try clear h6); (try clear l8); (try clear l9); (try clear m0); (try clear m4); (try clear m5); (try clear m6); (try clear n5); (try clear n6); (try clear n7); (try clear n8); (try clear n9); (try clear o0); (try clear o1); (try clear o2); (try clear o6); (try clear o7); (try clear o8); (try clear p9); (try clear q0); (try clear q2); (try clear q3); (try clear q5); (try clear q6); (try clear q7); (try clear q8); (try clear r2); (try clear r3); (try clear r4); (try clear i7); (try clear i8); (try clear i9); (try clear j0); (try clear j2); (try clear j3); (try clear j4); (try clear j5); (try clear k5); (try clear k6); (try clear k7); (try clear k8); (try clear k9); (try clear l2); (try clear l3); (try clear e0); (try clear e1); (try clear e2); (try clear p103); (try clear p2); (try clear q103); obtain ⟨kq, h7, rfl, HA, HJ16, b1, b2, b3, HB⟩ := hcut
    cases kq with
    | zero => exact absurd HA.out (by simp [impl_filesOk.j1])
    | succ kj16 =>
     have H := HA.out; clear HA
     simp only [impl_filesOk.j1] at H
     by_cases c39 : h7 = true
     ·
      subst c39
      rw [if_pos rfl] at H
      obtain rfl := Option.some.inj H
      go_wp2
      go_ret
      exact ⟨by first | rfl | (simp [*, errW_none, errW_some] <;> rfl), by repeat (with_reducible first | exact HB.out | apply yac | apply yab | apply yad | refine yaf ?_ (Aside0.out ‹_›))⟩
     replace c39 := Bool.eq_false_iff.mpr c39
     subst c39
     rw [if_neg (show ¬ (false = true) by decide)] at H
     by_cases c40 : 0 ≤ b0
     rotate_left
     ·
      rw [if_neg c40] at H
      exact absurd H (by simp)
     rw [if_pos c40] at H
     have v1 := eq_true c40; replace c40 := decide_eq_true c40
     by_cases c41 : b0 ≤ (l1_5.length : Int)
     rotate_left
     ·
      rw [if_neg c41] at H
      exact absurd H (by simp)
     rw [if_pos c41] at H
     have v2 := eq_true c41; replace c41 := decide_eq_true c41; obtain ⟨y107, hy107⟩ : ∃ y_ : List (S156), y_ = (l1_5.take (b0 : Int).toNat) := ⟨_, rfl⟩
     replace H : (impl_filesOk.l1 kj16 l1_5 (l1_5.length : Int) b0 y107 (y107.length : Int) 0 a1_0 a1_1 a1_2 a1_3 l1_4 l1_5 l1_6 l1_7 ((yae l1_5 b0).f0) ((yae l1_5 b0).f1) ((yae l1_5 b0).f2)) = some r := by first | (rw [hy107]; with_reducible exact H) | (have H2_ := (Option.bind_some _ _).symm.trans H; rw [hy107]; with_reducible exact H2_) | (have H2_ := (Option.bind_some _ _).symm.trans H; with_reducible exact H2_) | with_reducible exact H | (rw [hy107]; exact H) | exact H
     have Ny107 := yaa hy107; clear hy107; have H' := yaa H; clear H; have C6 := b9.out; have C7 := b6.out; have C8 := b4.out; have C9 := b7.out; obtain ⟨s4, s5, s6, s7, s8, s9, t0, t1⟩ := cc8_ b2.out; obtain ⟨t2, t3, t4, t5, t6, t7, t8, t9⟩ := cf8_ b2.out; have q45 : (b0 : Int) ≤ ((l1_5.length : Int) : Int) := of_decide_eq_true (by assumption); obtain ⟨i045, hi045, _, v3, _⟩ := info_parts info156; have hroom45 : l1_5.length ≤ c1_5 := HC1_5.out; have hC45 : Kd.C k156 _ (some ad103) l1_5.length l1_5 := HR1_5.out; have hcut45 := cut_to (P := Try.prog) 59 156 .i64 Try.underlying59 hi045 (some ad103) l1_5.length c1_5 b0 (of_decide_eq_true (by assumption)) q45 hroom45; have hr45 := Kd.C_take (m := (b0 : Int).toNat) hC45 (by omega); have hy45 : y107.length = (b0 : Int).toNat := (by rw [Ny107.out, List.length_take]; omega)
     rw [← Ny107.out] at hr45
     rw [← hy45] at hcut45
     have HR110 := yaa hr45; have HC110 := yaa (show y107.length ≤ c1_5 from by omega); clear hr45 hC45 hroom45 hi045 v3; have KY45 := yaa hy45; clear hy45; replace q45 := eq_true q45
     go_wp2
     (try simp only [Act.put, List.setIfInBounds_toArray, List.set_cons_zero, List.set_cons_succ])
     go_loopg [46] kj16 (fun kq v46 w' => ∃ (b8 : Int), v46 = .int .i64 b8 ∧ Aside0 (impl_filesOk.l1 kq l1_5 (l1_5.length : Int) b0 y107 (y107.length : Int) b8 a1_0 a1_1 a1_2 a1_3 l1_4 l1_5 l1_6 l1_7 ((yae l1_5 b0).f0) ((yae l1_5 b0).f1) ((yae l1_5 b0).f2) = some r) ∧ Aside0 (kq ≤ kj16) ∧ Aside0 (w'.heap[d1]? = some (.cells #[(.slice A0_0 l0_0.length c0_0), .int .i64 a0_1, .int .i64 a0_2, .int .i64 a0_3, .int .i64 a0_4, .int .i64 a0_5, .int .i64 a0_6] 24 (0, 0))) ∧ Aside0 (w'.heap[d2]? = some (.cells #[.int .i64 a1_0, .int .i64 a1_1, .int .i64 a1_2, .int .i64 a1_3, (.slice A1_4 l1_4.length c1_4), (.slice (some ad103) l1_5.length c1_5), (.slice A1_6 l1_6.length c1_6), (.slice A1_7 l1_7.length c1_7)] 63 (0, 0))) ∧ Aside0 (w'.heap[e3]? = some (.cells #[.string ((yae l1_5 b0).f0), .int .i64 ((yae l1_5 b0).f1), (.slice r8 ((yae l1_5 b0).f2).length r9)] 156 (0, 0))) ∧ Aside0 (Below w.heap.size w w'))
     case atStart => exact ⟨(0), (by first | rfl | (simp; done) | (simp [*]; done)), H', ⟨Nat.le_refl _⟩, ⟨by exact upB b1.out⟩, ⟨by exact upB b2.out⟩, ⟨by exact upB b3.out⟩, ⟨by repeat (with_reducible first | exact HB.out | apply yac | apply yab | apply yad | refine yaf ?_ (Aside0.out ‹_›))⟩⟩
     case round =>
      clear H'; (try clear c1); (try clear p1); (try clear q1); (try clear hx1); (try clear c2); (try clear p2); (try clear c3); (try clear s1); (try clear c4); (try clear q4); (try clear c6); (try clear c7); (try clear c8); (try clear c10); (try clear p10); (try clear q10); (try clear hx10); (try clear c11); (try clear c14); (try clear r7); (try clear c15); (try clear c15b0); (try clear c16); (try clear c16b0); (try clear c19); (try clear c20); (try clear c23); (try clear c25); (try clear c26); (try clear c27); (try clear c29); (try clear c31); (try clear c32); (try clear c34); (try clear c36); (try clear c37); (try clear c39); (try clear c40); (try clear v1); (try clear c40b1); (try clear c41); (try clear v2); (try clear c41b1); (try clear c42); (try clear c43); (try clear q45); (try clear e4); (try clear e5); (try clear e6); (try clear e7); (try clear e8); (try clear e9); (try clear f3); (try clear f4); (try clear g3); (try clear g4); (try clear g5); (try clear g6); (try clear g7); (try clear g8); (try clear g9); (try clear l5); (try clear l6); (try clear l7); (try clear m1); (try clear m2); (try clear m3); (try clear m7); (try clear m8); (try clear m9); (try clear n0); (try clear n1); (try clear n2); (try clear n3); (try clear n4); (try clear o3); (try clear o4); (try clear o5); (try clear o9); (try clear p0); (try clear p3); (try clear p4); (try clear p5); (try clear p6); (try clear p7); (try clear p8); (try clear q9); (try clear r0); (try clear r1); (try clear s4); (try clear s5); (try clear s6); (try clear s7); (try clear s8); (try clear s9); (try clear t0); (try clear t1); (try clear h9); (try clear i0); (try clear i1); (try clear i2); (try clear i3); (try clear i4); (try clear i5); (try clear i6); (try clear j6); (try clear j7); (try clear j8); (try clear j9); (try clear k0); (try clear k2); (try clear k4); (try clear f5); (try clear f6); (try clear f7); (try clear f8); (try clear f9); (try clear g0); (try clear g1); (try clear g2); (try clear h0); (try clear h1); (try clear h2); (try clear h3); (try clear h4); (try clear h5); (try clear h6); (try clear l8); (try clear l9); (try clear m0); (try clear m4); (try clear m5); (try clear m6); (try clear n5); (try clear n6); (try clear n7); (try clear n8); (try clear n9); (try clear o0); (try clear o1); (try clear o2); (try clear o6); (try clear o7); (try clear o8); (try clear p9); (try clear q0); (try clear q2); (try clear q3); (try clear q5); (try clear q6); (try clear q7); (try clear q8); (try clear r2); (try clear r3); (try clear r4); (try clear t2); (try clear t3); (try clear t4); (try clear t5); (try clear t6); (try clear t7); (try clear t8); (try clear t9); (try clear i7); (try clear i8); (try clear i9); (try clear j0); (try clear j2); (try clear j3); (try clear j4); (try clear j5); (try clear k5); (try clear k6); (try clear k7); (try clear k8); (try clear k9); (try clear l2); (try clear l3); (try clear e0); (try clear e1); (try clear e2); (try clear p1); (try clear p10); (try clear p103); (try clear p2); (try clear q1); (try clear q10); (try clear q103); (try clear q45); obtain ⟨b8, rfl, HA, HK3, b1, b2, b3, HB⟩ := hrel
      cases gk with
      | zero => exact absurd HA.out (by simp [impl_filesOk.l1])
      | succ k3 =>
       have H := HA.out; clear HA
       simp only [impl_filesOk.l1] at H
       by_cases c46 : b8 < (y107.length : Int)
       ·
        rw [if_pos c46] at H
        have v4 : decide (b8 < (y107.length : Int)) = true := decide_eq_true c46; clear c46
        by_cases c47 : 0 ≤ b8
        ·
         rw [if_pos c47] at H
         replace c47 := decide_eq_true c47
         by_cases c48 : b8 < (y107.length : Int)
         ·
          rw [if_pos c48] at H
          replace c48 := decide_eq_true c48
          by_cases c49 : ((yae l1_5 b0).f0).toList = ((yae y107 b8).f0).toList
          ·
           rw [if_pos c49] at H
           have v5 := beq_iff_eq.mpr c49; have v6 := bne_eq_false_iff_eq.mpr c49; clear c49; obtain rfl := Option.some.inj H; have p111 : 0 ≤ (b8 : Int) := of_decide_eq_true (by assumption); have q111 : b8 < (y107.length : Int) := of_decide_eq_true (by assumption); obtain ⟨ad111, u0, u1, u2, d3, d4, d5, hl111_2, hi111_2⟩ := at_T156 HR110.out b8 p111 q111; obtain rfl : ad103 = ad111 := (by injection u2); replace d3 := (upc_ HB.out d3 :); replace d4 := (upc_ HB.out d4 :); replace d5 := (upc_ HB.out d5 :); have HR111_2 := yaa hi111_2; have HC111_2 := yaa hl111_2; clear hi111_2 hl111_2; replace p111 := eq_true p111; replace q111 := eq_true q111
           go_wp2_with (first | ((with_reducible refine gd_ 8 rfl ?_); (try (refine gate_guard (by rfl) ?_; dsimp only)); refine bx_ 8 rfl #[.string (⟨#[]⟩ : ByteArray), .int .i64 0, .slice none 0 0] 156 ?_; intro d6 hg w50 hbox hb; have h8 := yaa (hbox); have s0 := yaa ((by rw [hg]; exact (below_size (by repeat (with_reducible first | exact HB.out | apply yac | apply yab | apply yad | refine yaf ?_ (Aside0.out ‹_›)))) : w.heap.size ≤ d6)); replace HB := yaa (below_step (by repeat (with_reducible first | exact HB.out | apply yac | apply yab | apply yad | refine yaf ?_ (Aside0.out ‹_›))) hb); have v7 := s0; have c5 := yaa ((by rw [hg]; exact Nat.ne_of_lt (blk_lt (upB b1.out)) : d1 ≠ d6)); replace b1 := yaa (blk_below (upB b1.out) hb); have d7 := yaa c5.out.symm; have c9 := yaa ((by rw [hg]; exact Nat.ne_of_lt (blk_lt (upB b2.out)) : d2 ≠ d6)); replace b2 := yaa (blk_below (upB b2.out) hb); have d8 := yaa c9.out.symm; have d0 := yaa ((by rw [hg]; exact Nat.ne_of_lt (blk_lt (upB b3.out)) : e3 ≠ d6)); replace b3 := yaa (blk_below (upB b3.out) hb); have d9 := yaa d0.out.symm; clear hb hbox hg; have D2 := d7.out; have D3 := c5.out; have D4 := d8.out; have D5 := c9.out; have D6 := d9.out; have D7 := d0.out; obtain ⟨v8, v9, w0⟩ := cc3_ h8.out; obtain ⟨w1, w2, w3⟩ := cf3_ h8.out; have D8 := c0.out; have D9 := b5.out; have E0 := b7.out; have E1 := b4.out; obtain ⟨w6, w7, w8⟩ := cc3_ b3.out; obtain ⟨x0, x1⟩ := cf2_ b3.out; have x2 := blk_frozen b3.out 2))
           go_ret
           exact ⟨by first | rfl | (simp [*, errW_none, errW_some] <;> rfl), by repeat (with_reducible first | exact HB.out | apply yac | apply yab | apply yad | refine yaf ?_ (Aside0.out ‹_›))⟩
          rw [if_neg c49] at H
          have v5 := beq_eq_false_iff_ne.mpr c49; have v6 := bne_iff_ne.mpr c49; have H' := yaa H; clear H; have p111 : 0 ≤ (b8 : Int) := of_decide_eq_true (by assumption); have q111 : b8 < (y107.length : Int) := of_decide_eq_true (by assumption); obtain ⟨ad111, u0, u1, u2, d3, d4, d5, hl111_2, hi111_2⟩ := at_T156 HR110.out b8 p111 q111; obtain rfl : ad103 = ad111 := (by injection u2); replace d3 := (upc_ HB.out d3 :); replace d4 := (upc_ HB.out d4 :); replace d5 := (upc_ HB.out d5 :); have HR111_2 := yaa hi111_2; have HC111_2 := yaa hl111_2; clear hi111_2 hl111_2; replace p111 := eq_true p111; replace q111 := eq_true q111
          go_wp2_with (first | ((with_reducible refine gd_ 8 rfl ?_); (try (refine gate_guard (by rfl) ?_; dsimp only)); refine bx_ 8 rfl #[.string (⟨#[]⟩ : ByteArray), .int .i64 0, .slice none 0 0] 156 ?_; intro d6 hg w58 hbox hb; have h8 := yaa (hbox); have s0 := yaa ((by rw [hg]; exact (below_size (by repeat (with_reducible first | exact HB.out | apply yac | apply yab | apply yad | refine yaf ?_ (Aside0.out ‹_›)))) : w.heap.size ≤ d6)); replace HB := yaa (below_step (by repeat (with_reducible first | exact HB.out | apply yac | apply yab | apply yad | refine yaf ?_ (Aside0.out ‹_›))) hb); have v7 := s0; have c5 := yaa ((by rw [hg]; exact Nat.ne_of_lt (blk_lt (upB b1.out)) : d1 ≠ d6)); replace b1 := yaa (blk_below (upB b1.out) hb); have d7 := yaa c5.out.symm; have c9 := yaa ((by rw [hg]; exact Nat.ne_of_lt (blk_lt (upB b2.out)) : d2 ≠ d6)); replace b2 := yaa (blk_below (upB b2.out) hb); have d8 := yaa c9.out.symm; have d0 := yaa ((by rw [hg]; exact Nat.ne_of_lt (blk_lt (upB b3.out)) : e3 ≠ d6)); replace b3 := yaa (blk_below (upB b3.out) hb); have d9 := yaa d0.out.symm; clear hb hbox hg; have E2 := d7.out; have E3 := c5.out; have E4 := d8.out; have E5 := c9.out; have E6 := d9.out; have E7 := d0.out; obtain ⟨x3, x4, x6⟩ := cc3_ h8.out; obtain ⟨x7, x8, x9⟩ := cf3_ h8.out; have E8 := c0.out; have E9 := b5.out; have F0 := b7.out; have F1 := b4.out; obtain ⟨z0, z1, z2⟩ := cc3_ b3.out; obtain ⟨z3, z4⟩ := cf2_ b3.out; have z5 := blk_frozen b3.out 2))
          go_roundg k3
          case measure => have := HK1.out; have := HJ16.out; have := HK3.out; omega
          case rel => exact ⟨(wrap64 (b8 + 1)), (by first | rfl | (simp; done) | (simp [*]; done)), H', ⟨by have := HK1.out; have := HJ16.out; have := HK3.out; omega⟩, ⟨by repeat (with_reducible first | exact b1.out | refine oneB ?_ | refine blk_far ?_ c5.out _)⟩, ⟨by repeat (with_reducible first | exact b2.out | refine oneB ?_ | refine blk_far ?_ c9.out _)⟩, ⟨by repeat (with_reducible first | exact b3.out | refine oneB ?_ | refine blk_far ?_ d0.out _)⟩, ⟨by repeat (with_reducible first | exact HB.out | apply yac | apply yab | apply yad | refine yaf ?_ (Aside0.out ‹_›))⟩⟩
         rw [if_neg c48] at H
         exact absurd H (by simp)
        rw [if_neg c47] at H
        exact absurd H (by simp)
       rw [if_neg c46] at H
       have v4 : decide (b8 < (y107.length : Int)) = false := decide_eq_false c46; clear c46; have H' := yaa H; clear H
       go_wp2
       go_roundg k3
       case measure => have := HK1.out; have := HJ16.out; have := HK3.out; omega
       case rel => exact ⟨(wrap64 (b0 + 1)), (by first | rfl | (simp; done) | (simp [*]; done)), H', ⟨by have := HK1.out; have := HJ16.out; have := HK3.out; omega⟩, ⟨by exact upB b1.out⟩, ⟨by exact upB b2.out⟩, ⟨by repeat (with_reducible first | exact HB.out | apply yac | apply yab | apply yad | refine yaf ?_ (Aside0.out ‹_›))⟩⟩
end
section
open Go.Proofs.YtgpkkkmapgnhkaaW.PrintWords.Aside0 renaming mk → yaa
def impl_askedOk.l0 : Nat → List ByteArray → Int → Int → Option (Bool)
 | 0, _, _, _ => none
 | k + 1, x10, x11, x12 => if x12 < x11 then (if 0 ≤ x12 then (if x12 < (x10.length : Int) then ((impl_nameOk.f k (rdOf ByteArray.empty x10 x12)).bind fun t103 => (if t103 = true then (impl_askedOk.l0 k x10 x11 (wrap64 (x12 + 1))) else (some false))) else (none)) else (none)) else (some true)
def impl_askedOk.f (k : Nat) (a0_0 : Int) (a0_1 : Int) (a0_2 : Int) (a0_3 : Int) (l0_4 : List (S124)) (l0_5 : List (S156)) (l0_6 : List ByteArray) (l0_7 : List (S158)) : Option (Bool) := if (l0_6.length : Int) > 60 then (some false) else (impl_askedOk.l0 k l0_6 (l0_6.length : Int) 0)
set_option maxHeartbeats 8000000 in
set_option maxRecDepth 100000 in
theorem impl_askedOk.calls (k : Nat) (a0_0 : Int) (a0_1 : Int) (a0_2 : Int) (a0_3 : Int) (A0_4 : Option Addr) (c0_4 : Nat) (l0_4 : List (S124)) (A0_5 : Option Addr) (c0_5 : Nat) (l0_5 : List (S156)) (A0_6 : Option Addr) (c0_6 : Nat) (l0_6 : List ByteArray) (A0_7 : Option Addr) (c0_7 : Nat) (l0_7 : List (S158)) (r : Bool) (w : World) (hr0_4 : Kd.C k124 w A0_4 l0_4.length l0_4) (hc0_4 : l0_4.length ≤ c0_4) (hr0_5 : Kd.C k156 w A0_5 l0_5.length l0_5) (hc0_5 : l0_5.length ≤ c0_5) (hr0_6 : Kd.C Kd.string w A0_6 l0_6.length l0_6) (hc0_6 : l0_6.length ≤ c0_6) (hr0_7 : Kd.C k158 w A0_7 l0_7.length l0_7) (hc0_7 : l0_7.length ≤ c0_7) (h : impl_askedOk.f k a0_0 a0_1 a0_2 a0_3 l0_4 l0_5 l0_6 l0_7 = some r) :
  Calls Try.prog 90 #[.agg #[.int .i64 a0_0, .int .i64 a0_1, .int .i64 a0_2, .int .i64 a0_3, .slice A0_4 l0_4.length c0_4, .slice A0_5 l0_5.length c0_5, .slice A0_6 l0_6.length c0_6, .slice A0_7 l0_7.length c0_7]] w fun e w' => e = .returned (.bool r) ∧ Below w.heap.size w w' := by
 have hu63 := Try.underlying63; have HR0_4 := yaa hr0_4; have HC0_4 := yaa hc0_4; clear hr0_4 hc0_4; have HR0_5 := yaa hr0_5; have HC0_5 := yaa hc0_5; clear hr0_5 hc0_5; have HR0_6 := yaa hr0_6; have HC0_6 := yaa hc0_6; clear hr0_6 hc0_6; have HR0_7 := yaa hr0_7; have HC0_7 := yaa hc0_7; clear hr0_7 hc0_7; have HB := yaa (Below.refl w.heap.size w); have H : (if (l0_6.length : Int) > 60 then (some false) else (impl_askedOk.l0 k l0_6 (l0_6.length : Int) 0)) = some r := h; clear h
 by_cases c2 : (l0_6.length : Int) > 60
 ·
  rw [if_pos c2] at H
  have f0 : decide (60 < (l0_6.length : Int)) = true := decide_eq_true c2; have f1 : decide (60 < l0_6.length) = true := decide_eq_true (by omega); clear c2; obtain rfl := Option.some.inj H
  go_enter Try.func90, Try.ntmps90
  go_wp2_with (first | ((with_reducible refine gd_ 1 rfl ?_); refine bx_ 1 rfl #[.int .i64 a0_0, .int .i64 a0_1, .int .i64 a0_2, .int .i64 a0_3, .slice A0_4 l0_4.length c0_4, .slice A0_5 l0_5.length c0_5, .slice A0_6 l0_6.length c0_6, .slice A0_7 l0_7.length c0_7] 63 ?_; intro b1 hg w3 hbox hb; have a9 := yaa (hbox); have b2 := yaa ((by rw [hg]; exact (below_size (upH HB.out)) : w.heap.size ≤ b1)); replace HB := yaa (below_step (upH HB.out) hb); have f2 := b2; clear hb hbox hg; obtain ⟨b3, b4, b5, b6, b7, b8, b9, c0⟩ := cc8_ a9.out; obtain ⟨c1, c3, c4, c5, c6, d0, d1⟩ := cf7_ a9.out; have d2 := blk_frozen a9.out 7))
  go_ret
  exact ⟨by first | rfl | (simp [*, errW_none, errW_some] <;> rfl), by repeat (with_reducible first | exact HB.out | apply below_alloc | apply pw_below_drewN | apply below_drew1 | refine below_set ?_ (Aside0.out ‹_›))⟩
 rw [if_neg c2] at H
 have f0 : decide (60 < (l0_6.length : Int)) = false := decide_eq_false c2; have f1 : decide (60 < l0_6.length) = false := decide_eq_false (by omega); clear c2; have H' := yaa H; clear H
 go_enter Try.func90, Try.ntmps90
 go_wp2_with (first | ((with_reducible refine gd_ 1 rfl ?_); refine bx_ 1 rfl #[.int .i64 a0_0, .int .i64 a0_1, .int .i64 a0_2, .int .i64 a0_3, .slice A0_4 l0_4.length c0_4, .slice A0_5 l0_5.length c0_5, .slice A0_6 l0_6.length c0_6, .slice A0_7 l0_7.length c0_7] 63 ?_; intro b1 hg w5 hbox hb; have a9 := yaa (hbox); have b2 := yaa ((by rw [hg]; exact (below_size (upH HB.out)) : w.heap.size ≤ b1)); replace HB := yaa (below_step (upH HB.out) hb); have f2 := b2; clear hb hbox hg; obtain ⟨d3, d4, d5, d6, d7, d8, d9, e0⟩ := cc8_ a9.out; obtain ⟨e1, e2, e3, e4, e5, e6, e7⟩ := cf7_ a9.out; have e8 := blk_frozen a9.out 7))
 (try simp only [Act.put, List.setIfInBounds_toArray, List.set_cons_zero, List.set_cons_succ])
 go_loopg [12] k (fun kq v12 w' => ∃ (a8 : Int), v12 = .int .i64 a8 ∧ Aside0 (impl_askedOk.l0 kq l0_6 (l0_6.length : Int) a8 = some r) ∧ Aside0 (kq ≤ k) ∧ Aside0 (w'.heap[b1]? = some (.cells #[.int .i64 a0_0, .int .i64 a0_1, .int .i64 a0_2, .int .i64 a0_3, (.slice A0_4 l0_4.length c0_4), (.slice A0_5 l0_5.length c0_5), (.slice A0_6 l0_6.length c0_6), (.slice A0_7 l0_7.length c0_7)] 63 (0, 0))) ∧ Aside0 (Below w.heap.size w w'))
 case atStart => exact ⟨(0), (by first | rfl | (simp; done) | (simp [*]; done)), H', ⟨Nat.le_refl _⟩, ⟨by exact upB a9.out⟩, ⟨by repeat (with_reducible first | exact HB.out | apply below_alloc | apply pw_below_drewN | apply below_drew1 | refine below_set ?_ (Aside0.out ‹_›))⟩⟩
 case round =>
  clear H'; (try clear c2); (try clear f0); (try clear f1); (try clear p2); (try clear b3); (try clear b4); (try clear b5); (try clear b6); (try clear b7); (try clear b8); (try clear b9); (try clear c0); (try clear d3); (try clear d4); (try clear d5); (try clear d6); (try clear d7); (try clear d8); (try clear d9); (try clear e0); (try clear c1); (try clear c3); (try clear c4); (try clear c5); (try clear c6); (try clear d0); (try clear d1); (try clear d2); (try clear e1); (try clear e2); (try clear e3); (try clear e4); (try clear e5); (try clear e6); (try clear e7); (try clear e8); obtain ⟨a8, rfl, HA, HK1, a9, HB⟩ := hrel
  cases gk with
  | zero => exact absurd HA.out (by simp [impl_askedOk.l0])
  | succ k1 =>
   have H := HA.out; clear HA
   simp only [impl_askedOk.l0] at H
   by_cases c7 : a8 < (l0_6.length : Int)
   rotate_left
   ·
    rw [if_neg c7] at H
    have f5 : decide (a8 < (l0_6.length : Int)) = false := decide_eq_false c7; clear c7; obtain rfl := Option.some.inj H
    go_wp2
    go_ret
    exact ⟨by first | rfl | (simp [*, errW_none, errW_some] <;> rfl), by repeat (with_reducible first | exact HB.out | apply below_alloc | apply pw_below_drewN | apply below_drew1 | refine below_set ?_ (Aside0.out ‹_›))⟩
   rw [if_pos c7] at H
   have f5 : decide (a8 < (l0_6.length : Int)) = true := decide_eq_true c7; clear c7
   by_cases c8 : 0 ≤ a8
   rotate_left
   ·
    rw [if_neg c8] at H
    exact absurd H (by simp)
   rw [if_pos c8] at H
   replace c8 := decide_eq_true c8
   by_cases c9 : a8 < (l0_6.length : Int)
   rotate_left
   ·
    rw [if_neg c9] at H
    exact absurd H (by simp)
   rw [if_pos c9] at H
   replace c9 := decide_eq_true c9; obtain ⟨f6, A10, H⟩ := bindA H; (try dsimp only at H)
   by_cases c11 : f6 = true
   ·
    subst c11
    rw [if_pos rfl] at H
    have H' := yaa H; clear H; have p102 : 0 ≤ (a8 : Int) := of_decide_eq_true (by assumption); have q102 : a8 < (l0_6.length : Int) := of_decide_eq_true (by assumption); obtain ⟨ad102, e9, b0⟩ := Kd.at_string HR0_6.out a8 p102 q102
    cases e9
    replace b0 := (upc_ HB.out b0 :); replace p102 := eq_true p102; replace q102 := eq_true q102
    go_wp2_with (first | ((with_reducible refine gc_ 73 rfl ?_); refine gl_ (some 17) rfl Try.func73 #[.string (rdOf ByteArray.empty l0_6 a8)] ?_; (with_reducible refine (impl_nameOk.calls k1 (rdOf ByteArray.empty l0_6 a8) true _ A10.out).mono ?_); rintro e w' ⟨rfl, ⟨nd, rfl⟩⟩; refine ⟨_, rfl, ?_⟩))
    go_roundg k1
    case measure => have := HK1.out; omega
    case rel => exact ⟨(wrap64 (a8 + 1)), (by first | rfl | (simp; done) | (simp [*]; done)), H', ⟨by have := HK1.out; omega⟩, ⟨by exact upB a9.out⟩, ⟨by repeat (with_reducible first | exact HB.out | apply below_alloc | apply pw_below_drewN | apply below_drew1 | refine below_set ?_ (Aside0.out ‹_›))⟩⟩
   replace c11 := Bool.eq_false_iff.mpr c11
   subst c11
   rw [if_neg (show ¬ (false = true) by decide)] at H
   obtain rfl := Option.some.inj H; have p102 : 0 ≤ (a8 : Int) := of_decide_eq_true (by assumption); have q102 : a8 < (l0_6.length : Int) := of_decide_eq_true (by assumption); obtain ⟨ad102, e9, b0⟩ := Kd.at_string HR0_6.out a8 p102 q102
   cases e9
   replace b0 := (upc_ HB.out b0 :); replace p102 := eq_true p102; replace q102 := eq_true q102
   go_wp2_with (first | ((with_reducible refine gc_ 73 rfl ?_); refine gl_ (some 17) rfl Try.func73 #[.string (rdOf ByteArray.empty l0_6 a8)] ?_; (with_reducible refine (impl_nameOk.calls k1 (rdOf ByteArray.empty l0_6 a8) false _ A10.out).mono ?_); rintro e w' ⟨rfl, ⟨nd, rfl⟩⟩; refine ⟨_, rfl, ?_⟩))
   go_ret
   exact ⟨by first | rfl | (simp [*, errW_none, errW_some] <;> rfl), by repeat (with_reducible first | exact HB.out | apply below_alloc | apply pw_below_drewN | apply below_drew1 | refine below_set ?_ (Aside0.out ‹_›))⟩
end
section
def impl_codeOk.f (a0 : Int) : Option (Bool) := if a0 = 200 then (some true) else (if a0 = 400 then (some true) else (if a0 = 403 then (some true) else (if a0 = 413 then (some true) else (if a0 = 415 then (some true) else (if a0 = 422 then (some true) else (if a0 = 429 then (some true) else (if a0 = 502 then (some true) else (if a0 = 503 then (some true) else (if a0 = 504 then (some true) else (some false))))))))))
set_option maxHeartbeats 8000000 in
set_option maxRecDepth 100000 in
theorem impl_codeOk.calls (a0 : Int) (r : Bool) (w : World) (h : impl_codeOk.f a0 = some r) :
  Calls Try.prog 129 #[.int .i64 a0] w fun e w' => e = .returned (.bool r) ∧ Drawn0 w w' := by
 have H : (if a0 = 200 then (some true) else (if a0 = 400 then (some true) else (if a0 = 403 then (some true) else (if a0 = 413 then (some true) else (if a0 = 415 then (some true) else (if a0 = 422 then (some true) else (if a0 = 429 then (some true) else (if a0 = 502 then (some true) else (if a0 = 503 then (some true) else (if a0 = 504 then (some true) else (some false))))))))))) = some r := h; clear h
 by_cases c2 : a0 = 200
 ·
  rw [if_pos c2] at H
  have a5 := beq_iff_eq.mpr c2; have a6 := bne_eq_false_iff_eq.mpr c2; clear c2; obtain rfl := Option.some.inj H
  go_enter Try.func129, Try.ntmps129
  go_wp2
  go_ret
  exact ⟨by first | rfl | (simp; done) | (simp [*]; done), by repeat (first | exact Drawn0.refl _ | apply Drawn0.step)⟩
 rw [if_neg c2] at H
 have a5 := beq_eq_false_iff_ne.mpr c2; have a6 := bne_iff_ne.mpr c2
 by_cases c3 : a0 = 400
 ·
  rw [if_pos c3] at H
  have a7 := beq_iff_eq.mpr c3; have a8 := bne_eq_false_iff_eq.mpr c3; clear c3; obtain rfl := Option.some.inj H
  go_enter Try.func129, Try.ntmps129
  go_wp2
  go_ret
  exact ⟨by first | rfl | (simp; done) | (simp [*]; done), by repeat (first | exact Drawn0.refl _ | apply Drawn0.step)⟩
 rw [if_neg c3] at H
 have a7 := beq_eq_false_iff_ne.mpr c3; have a8 := bne_iff_ne.mpr c3
 by_cases c4 : a0 = 403
 ·
  rw [if_pos c4] at H
  have a9 := beq_iff_eq.mpr c4; have b0 := bne_eq_false_iff_eq.mpr c4; clear c4; obtain rfl := Option.some.inj H
  go_enter Try.func129, Try.ntmps129
  go_wp2
  go_ret
  exact ⟨by first | rfl | (simp; done) | (simp [*]; done), by repeat (first | exact Drawn0.refl _ | apply Drawn0.step)⟩
 rw [if_neg c4] at H
 have a9 := beq_eq_false_iff_ne.mpr c4; have b0 := bne_iff_ne.mpr c4
 by_cases c5 : a0 = 413
 ·
  rw [if_pos c5] at H
  have b1 := beq_iff_eq.mpr c5; have b2 := bne_eq_false_iff_eq.mpr c5; clear c5; obtain rfl := Option.some.inj H
  go_enter Try.func129, Try.ntmps129
  go_wp2
  go_ret
  exact ⟨by first | rfl | (simp; done) | (simp [*]; done), by repeat (first | exact Drawn0.refl _ | apply Drawn0.step)⟩
 rw [if_neg c5] at H
 have b1 := beq_eq_false_iff_ne.mpr c5; have b2 := bne_iff_ne.mpr c5
 by_cases c6 : a0 = 415
 ·
  rw [if_pos c6] at H
  have b3 := beq_iff_eq.mpr c6; have b4 := bne_eq_false_iff_eq.mpr c6; clear c6; obtain rfl := Option.some.inj H
  go_enter Try.func129, Try.ntmps129
  go_wp2
  go_ret
  exact ⟨by first | rfl | (simp; done) | (simp [*]; done), by repeat (first | exact Drawn0.refl _ | apply Drawn0.step)⟩
 rw [if_neg c6] at H
 have b3 := beq_eq_false_iff_ne.mpr c6; have b4 := bne_iff_ne.mpr c6
 by_cases c7 : a0 = 422
 ·
  rw [if_pos c7] at H
  have b5 := beq_iff_eq.mpr c7; have b6 := bne_eq_false_iff_eq.mpr c7; clear c7; obtain rfl := Option.some.inj H
  go_enter Try.func129, Try.ntmps129
  go_wp2
  go_ret
  exact ⟨by first | rfl | (simp; done) | (simp [*]; done), by repeat (first | exact Drawn0.refl _ | apply Drawn0.step)⟩
 rw [if_neg c7] at H
 have b5 := beq_eq_false_iff_ne.mpr c7; have b6 := bne_iff_ne.mpr c7
 by_cases c8 : a0 = 429
 ·
  rw [if_pos c8] at H
  have b7 := beq_iff_eq.mpr c8; have b8 := bne_eq_false_iff_eq.mpr c8; clear c8; obtain rfl := Option.some.inj H
  go_enter Try.func129, Try.ntmps129
  go_wp2
  go_ret
  exact ⟨by first | rfl | (simp; done) | (simp [*]; done), by repeat (first | exact Drawn0.refl _ | apply Drawn0.step)⟩
 rw [if_neg c8] at H
 have b7 := beq_eq_false_iff_ne.mpr c8; have b8 := bne_iff_ne.mpr c8
 by_cases c9 : a0 = 502
 ·
  rw [if_pos c9] at H
  have b9 := beq_iff_eq.mpr c9; have c0 := bne_eq_false_iff_eq.mpr c9; clear c9; obtain rfl := Option.some.inj H
  go_enter Try.func129, Try.ntmps129
  go_wp2
  go_ret
  exact ⟨by first | rfl | (simp; done) | (simp [*]; done), by repeat (first | exact Drawn0.refl _ | apply Drawn0.step)⟩
 rw [if_neg c9] at H
 have b9 := beq_eq_false_iff_ne.mpr c9; have c0 := bne_iff_ne.mpr c9
 by_cases c10 : a0 = 503
 ·
  rw [if_pos c10] at H
  have a1 := beq_iff_eq.mpr c10; have a2 := bne_eq_false_iff_eq.mpr c10; clear c10; obtain rfl := Option.some.inj H
  go_enter Try.func129, Try.ntmps129
  go_wp2
  go_ret
  exact ⟨by first | rfl | (simp; done) | (simp [*]; done), by repeat (first | exact Drawn0.refl _ | apply Drawn0.step)⟩
 rw [if_neg c10] at H
 have a1 := beq_eq_false_iff_ne.mpr c10; have a2 := bne_iff_ne.mpr c10
 by_cases c11 : a0 = 504
 ·
  rw [if_pos c11] at H
  have a3 := beq_iff_eq.mpr c11; have a4 := bne_eq_false_iff_eq.mpr c11; clear c11; obtain rfl := Option.some.inj H
  go_enter Try.func129, Try.ntmps129
  go_wp2
  go_ret
  exact ⟨by first | rfl | (simp; done) | (simp [*]; done), by repeat (first | exact Drawn0.refl _ | apply Drawn0.step)⟩
 rw [if_neg c11] at H
 have a3 := beq_eq_false_iff_ne.mpr c11; have a4 := bne_iff_ne.mpr c11; obtain rfl := Option.some.inj H
 go_enter Try.func129, Try.ntmps129
 go_wp2
 go_ret
 exact ⟨by first | rfl | (simp; done) | (simp [*]; done), by repeat (first | exact Drawn0.refl _ | apply Drawn0.step)⟩
end
section
open Go.Proofs.Ytgpkkkmapgnhkaa.X renaming rd_T158 → yaa
open Go.Proofs.YtgpkkkmapgnhkaaW.PrintWords.Aside0 renaming mk → yab
open Go.Proofs.YtgpkkkmapgnhkaaW.PrintWords renaming pw_below_drewN → yac
mutual
def impl_outsOk.l0 : Nat → List (S158) → Int → Int → Int → Int → Int → Int → List (S124) → List (S156) → List ByteArray → List (S158) → Option (Bool)
 | 0, _, _, _, _, _, _, _, _, _, _, _ => none
 | k + 1, x10, x11, x12, x102000, x102001, x102002, x102003, x102004, x102005, x102006, x102007 => if x12 < x11 then (if 0 ≤ x12 then (if x12 < (x10.length : Int) then ((impl_within.f ((rd_T158 x10 x12).f0) 0 (wrap64 (x102003 - 1))).bind fun t104 => (if t104 = true then ((impl_codeOk.f ((rd_T158 x10 x12).f1)).bind fun t105 => (if t105 = true then (impl_outsOk.j1 k x10 x11 x12 (decide ((((rd_T158 x10 x12).f2).length : Int) > 220)) x102000 x102001 x102002 x102003 x102004 x102005 x102006 x102007 ((rd_T158 x10 x12).f0) ((rd_T158 x10 x12).f1) ((rd_T158 x10 x12).f2)) else (impl_outsOk.j1 k x10 x11 x12 true x102000 x102001 x102002 x102003 x102004 x102005 x102006 x102007 ((rd_T158 x10 x12).f0) ((rd_T158 x10 x12).f1) ((rd_T158 x10 x12).f2)))) else (impl_outsOk.j1 k x10 x11 x12 true x102000 x102001 x102002 x102003 x102004 x102005 x102006 x102007 ((rd_T158 x10 x12).f0) ((rd_T158 x10 x12).f1) ((rd_T158 x10 x12).f2)))) else (none)) else (none)) else (some true)
def impl_outsOk.j1 : Nat → List (S158) → Int → Int → Bool → Int → Int → Int → Int → List (S124) → List (S156) → List ByteArray → List (S158) → Int → Int → List Int → Option (Bool)
 | 0, _, _, _, _, _, _, _, _, _, _, _, _, _, _, _ => none
 | k + 1, x10, x11, x12, x34, x102000, x102001, x102002, x102003, x102004, x102005, x102006, x102007, x104000, x104001, x104002 => if x34 = true then (some false) else (if ((decide ((x104002.length : Int) > 0)) != (x104001 == 200)) = true then (some false) else (impl_outsOk.l0 k x10 x11 (wrap64 (x12 + 1)) x102000 x102001 x102002 x102003 x102004 x102005 x102006 x102007))
end
def impl_outsOk.f (k : Nat) (a0_0 : Int) (a0_1 : Int) (a0_2 : Int) (a0_3 : Int) (l0_4 : List (S124)) (l0_5 : List (S156)) (l0_6 : List ByteArray) (l0_7 : List (S158)) : Option (Bool) := if (l0_7.length : Int) > 60 then (some false) else (impl_outsOk.l0 k l0_7 (l0_7.length : Int) 0 a0_0 a0_1 a0_2 a0_3 l0_4 l0_5 l0_6 l0_7)
set_option maxHeartbeats 8000000 in
set_option maxRecDepth 100000 in
theorem impl_outsOk.calls (k : Nat) (a0_0 : Int) (a0_1 : Int) (a0_2 : Int) (a0_3 : Int) (A0_4 : Option Addr) (c0_4 : Nat) (l0_4 : List (S124)) (A0_5 : Option Addr) (c0_5 : Nat) (l0_5 : List (S156)) (A0_6 : Option Addr) (c0_6 : Nat) (l0_6 : List ByteArray) (A0_7 : Option Addr) (c0_7 : Nat) (l0_7 : List (S158)) (r : Bool) (w : World) (hr0_4 : Kd.C k124 w A0_4 l0_4.length l0_4) (hc0_4 : l0_4.length ≤ c0_4) (hr0_5 : Kd.C k156 w A0_5 l0_5.length l0_5) (hc0_5 : l0_5.length ≤ c0_5) (hr0_6 : Kd.C Kd.string w A0_6 l0_6.length l0_6) (hc0_6 : l0_6.length ≤ c0_6) (hr0_7 : Kd.C k158 w A0_7 l0_7.length l0_7) (hc0_7 : l0_7.length ≤ c0_7) (h : impl_outsOk.f k a0_0 a0_1 a0_2 a0_3 l0_4 l0_5 l0_6 l0_7 = some r) :
  Calls Try.prog 91 #[.agg #[.int .i64 a0_0, .int .i64 a0_1, .int .i64 a0_2, .int .i64 a0_3, .slice A0_4 l0_4.length c0_4, .slice A0_5 l0_5.length c0_5, .slice A0_6 l0_6.length c0_6, .slice A0_7 l0_7.length c0_7]] w fun e w' => e = .returned (.bool r) ∧ Below w.heap.size w w' := by
 have hu63 := Try.underlying63; have hu158 := Try.underlying158; have HR0_4 := yab hr0_4; have HC0_4 := yab hc0_4; clear hr0_4 hc0_4; have HR0_5 := yab hr0_5; have HC0_5 := yab hc0_5; clear hr0_5 hc0_5; have HR0_6 := yab hr0_6; have HC0_6 := yab hc0_6; clear hr0_6 hc0_6; have HR0_7 := yab hr0_7; have HC0_7 := yab hc0_7; clear hr0_7 hc0_7; have HB := yab (Below.refl w.heap.size w); have H : (if (l0_7.length : Int) > 60 then (some false) else (impl_outsOk.l0 k l0_7 (l0_7.length : Int) 0 a0_0 a0_1 a0_2 a0_3 l0_4 l0_5 l0_6 l0_7)) = some r := h; clear h
 by_cases c2 : (l0_7.length : Int) > 60
 ·
  rw [if_pos c2] at H
  have n9 : decide (60 < (l0_7.length : Int)) = true := decide_eq_true c2; have o0 : decide (60 < l0_7.length) = true := decide_eq_true (by omega); clear c2; obtain rfl := Option.some.inj H
  go_enter Try.func91, Try.ntmps91
  go_wp2_with (first | ((with_reducible refine gd_ 1 rfl ?_); (try (refine gate_guard (by rfl) ?_; dsimp only)); refine bx_ 1 rfl #[.int .i64 a0_0, .int .i64 a0_1, .int .i64 a0_2, .int .i64 a0_3, .slice A0_4 l0_4.length c0_4, .slice A0_5 l0_5.length c0_5, .slice A0_6 l0_6.length c0_6, .slice A0_7 l0_7.length c0_7] 63 ?_; intro b3 hg w3 hbox hb; have b0 := yab (hbox); have b8 := yab ((by rw [hg]; exact (below_size (upH HB.out)) : w.heap.size ≤ b3)); replace HB := yab (below_step (upH HB.out) hb); have o3 := b8; clear hb hbox hg; obtain ⟨b9, c0, c3, c4, c5, d0, d1, d2⟩ := cc8_ b0.out; obtain ⟨d3, d4, d5, d6, d7, d8, d9⟩ := cf7_ b0.out; have e0 := blk_frozen b0.out 7))
  go_ret
  exact ⟨by first | rfl | (simp [*, errW_none, errW_some] <;> rfl), by repeat (with_reducible first | exact HB.out | apply below_alloc | apply yac | apply below_drew1 | refine below_set ?_ (Aside0.out ‹_›))⟩
 rw [if_neg c2] at H
 have n9 : decide (60 < (l0_7.length : Int)) = false := decide_eq_false c2; have o0 : decide (60 < l0_7.length) = false := decide_eq_false (by omega); clear c2; have H' := yab H; clear H
 go_enter Try.func91, Try.ntmps91
 go_wp2_with (first | ((with_reducible refine gd_ 1 rfl ?_); (try (refine gate_guard (by rfl) ?_; dsimp only)); refine bx_ 1 rfl #[.int .i64 a0_0, .int .i64 a0_1, .int .i64 a0_2, .int .i64 a0_3, .slice A0_4 l0_4.length c0_4, .slice A0_5 l0_5.length c0_5, .slice A0_6 l0_6.length c0_6, .slice A0_7 l0_7.length c0_7] 63 ?_; intro b3 hg w5 hbox hb; have b0 := yab (hbox); have b8 := yab ((by rw [hg]; exact (below_size (upH HB.out)) : w.heap.size ≤ b3)); replace HB := yab (below_step (upH HB.out) hb); have o3 := b8; clear hb hbox hg; obtain ⟨e1, e2, e3, e4, e5, e6, e7, e8⟩ := cc8_ b0.out; obtain ⟨e9, f3, f4, f5, f6, f7, f8⟩ := cf7_ b0.out; have f9 := blk_frozen b0.out 7))
 (try simp only [Act.put, List.setIfInBounds_toArray, List.set_cons_zero, List.set_cons_succ])
 go_loopg [12] k (fun kq v12 w' => ∃ (a8 : Int), v12 = .int .i64 a8 ∧ Aside0 (impl_outsOk.l0 kq l0_7 (l0_7.length : Int) a8 a0_0 a0_1 a0_2 a0_3 l0_4 l0_5 l0_6 l0_7 = some r) ∧ Aside0 (kq ≤ k) ∧ Aside0 (w'.heap[b3]? = some (.cells #[.int .i64 a0_0, .int .i64 a0_1, .int .i64 a0_2, .int .i64 a0_3, (.slice A0_4 l0_4.length c0_4), (.slice A0_5 l0_5.length c0_5), (.slice A0_6 l0_6.length c0_6), (.slice A0_7 l0_7.length c0_7)] 63 (0, 0))) ∧ Aside0 (Below w.heap.size w w'))
 case atStart => exact ⟨(0), (by first | rfl | (simp; done) | (simp [*]; done)), H', ⟨Nat.le_refl _⟩, ⟨by exact upB b0.out⟩, ⟨by repeat (with_reducible first | exact HB.out | apply below_alloc | apply yac | apply below_drew1 | refine below_set ?_ (Aside0.out ‹_›))⟩⟩
 case round =>
  clear H'; (try clear c2); (try clear n9); (try clear o0); (try clear p2); (try clear b9); (try clear c0); (try clear c3); (try clear c4); (try clear c5); (try clear d0); (try clear d1); (try clear d2); (try clear e1); (try clear e2); (try clear e3); (try clear e4); (try clear e5); (try clear e6); (try clear e7); (try clear e8); (try clear d3); (try clear d4); (try clear d5); (try clear d6); (try clear d7); (try clear d8); (try clear d9); (try clear e0); (try clear e9); (try clear f3); (try clear f4); (try clear f5); (try clear f6); (try clear f7); (try clear f8); (try clear f9); obtain ⟨a8, rfl, HA, HK1, b0, HB⟩ := hrel
  cases gk with
  | zero => exact absurd HA.out (by simp [impl_outsOk.l0])
  | succ k1 =>
   have H := HA.out; clear HA
   simp only [impl_outsOk.l0] at H
   by_cases c7 : a8 < (l0_7.length : Int)
   rotate_left
   ·
    rw [if_neg c7] at H
    have o4 : decide (a8 < (l0_7.length : Int)) = false := decide_eq_false c7; clear c7; obtain rfl := Option.some.inj H
    go_wp2
    go_ret
    exact ⟨by first | rfl | (simp [*, errW_none, errW_some] <;> rfl), by repeat (with_reducible first | exact HB.out | apply below_alloc | apply yac | apply below_drew1 | refine below_set ?_ (Aside0.out ‹_›))⟩
   rw [if_pos c7] at H
   have o4 : decide (a8 < (l0_7.length : Int)) = true := decide_eq_true c7; clear c7
   by_cases c8 : 0 ≤ a8
   rotate_left
   ·
    rw [if_neg c8] at H
    exact absurd H (by simp)
   rw [if_pos c8] at H
   replace c8 := decide_eq_true c8
   by_cases c9 : a8 < (l0_7.length : Int)
   rotate_left
   ·
    rw [if_neg c9] at H
    exact absurd H (by simp)
   rw [if_pos c9] at H
   replace c9 := decide_eq_true c9; have HC10 := yab H; clear H; have p102 : 0 ≤ (a8 : Int) := of_decide_eq_true (by assumption); have q102 : a8 < (l0_7.length : Int) := of_decide_eq_true (by assumption); obtain ⟨ad102, o1, o2, q8, b4, b5, b6, hl102_2, hi102_2⟩ := at_T158 HR0_7.out a8 p102 q102
   cases q8
   replace b4 := (upc_ HB.out b4 :); replace b5 := (upc_ HB.out b5 :); replace b6 := (upc_ HB.out b6 :); have HR102_2 := yab hi102_2; have HC102_2 := yab hl102_2; clear hi102_2 hl102_2; replace p102 := eq_true p102; replace q102 := eq_true q102
   go_upto_region 6 with (first | ((with_reducible refine gd_ 4 rfl ?_); (try (refine gate_guard (by rfl) ?_; dsimp only)); refine bx_ 4 rfl #[.int .i64 0, .int .i64 0, .slice none 0 0] 158 ?_; intro g0 hg w11 hbox hb; have b1 := yab (hbox); have o5 := yab ((by rw [hg]; exact (below_size (by repeat (with_reducible first | exact HB.out | apply below_alloc | apply yac | apply below_drew1 | refine below_set ?_ (Aside0.out ‹_›)))) : w.heap.size ≤ g0)); replace HB := yab (below_step (by repeat (with_reducible first | exact HB.out | apply below_alloc | apply yac | apply below_drew1 | refine below_set ?_ (Aside0.out ‹_›))) hb); have r1 := o5; have a9 := yab ((by rw [hg]; exact Nat.ne_of_lt (blk_lt (upB b0.out)) : b3 ≠ g0)); replace b0 := yab (blk_below (upB b0.out) hb); have b2 := yab a9.out.symm; clear hb hbox hg; have r2 := b2.out; have r3 := a9.out; obtain ⟨g3, g4, g5⟩ := cc3_ b1.out; obtain ⟨g6, g7⟩ := cf2_ b1.out; have g8 := blk_frozen b1.out 2))
   (try simp only [Act.put, List.setIfInBounds_toArray, List.set_cons_zero, List.set_cons_succ])
   go_cut [34] (fun v34 wc => ∃ (kq : Nat) (b7 : Bool), v34 = .bool b7 ∧ Aside0 (impl_outsOk.j1 kq l0_7 (l0_7.length : Int) a8 b7 a0_0 a0_1 a0_2 a0_3 l0_4 l0_5 l0_6 l0_7 ((yaa l0_7 a8).f0) ((yaa l0_7 a8).f1) ((yaa l0_7 a8).f2) = some r) ∧ Aside0 (kq ≤ k1) ∧ Aside0 (wc.heap[b3]? = some (.cells #[.int .i64 a0_0, .int .i64 a0_1, .int .i64 a0_2, .int .i64 a0_3, (.slice A0_4 l0_4.length c0_4), (.slice A0_5 l0_5.length c0_5), (.slice A0_6 l0_6.length c0_6), (.slice (some ad102) l0_7.length c0_7)] 63 (0, 0))) ∧ Aside0 (wc.heap[g0]? = some (.cells #[.int .i64 ((yaa l0_7 a8).f0), .int .i64 ((yaa l0_7 a8).f1), (.slice o1 ((yaa l0_7 a8).f2).length o2)] 158 (0, 0))) ∧ Aside0 (Below w.heap.size w wc))
   case first =>
    have H := HC10.out; clear HC10; obtain ⟨q9, A14, H⟩ := bindA H; (try dsimp only at H)
    by_cases c15 : q9 = true
    ·
     subst c15
     rw [if_pos rfl] at H
     obtain ⟨r0, A16, H⟩ := bindA H; (try dsimp only at H)
     by_cases c17 : r0 = true
     ·
      subst c17
      rw [if_pos rfl] at H
      have H' := yab H; clear H; have r4 := b2.out; have r5 := a9.out; obtain ⟨g9, h0, h1⟩ := cc3_ b1.out; obtain ⟨h2, h3, h4⟩ := cf3_ b1.out; obtain ⟨h6, h7, h8, h9, i0, i1, i2, i3⟩ := cc8_ b0.out; obtain ⟨i4, i5, i6, i7, i8, i9, j0, j2⟩ := cf8_ b0.out
      go_wp2_with (first | ((with_reducible refine gc_ 62 rfl ?_); refine gl_ (some 21) rfl Try.func62 #[.int .i64 ((yaa l0_7 a8).f0), .int .i64 0, .int .i64 (wrap64 (a0_3 - 1))] ?_; (with_reducible refine (impl_within.calls ((yaa l0_7 a8).f0) 0 (wrap64 (a0_3 - 1)) true _ A14.out).mono ?_); rintro e w' ⟨rfl, ⟨nd, rfl⟩⟩; refine ⟨_, rfl, ?_⟩) | (go_at_call 129; (with_reducible refine (impl_codeOk.calls ((yaa l0_7 a8).f1) true _ A16.out).mono ?_); rintro e w' ⟨rfl, ⟨nd, rfl⟩⟩))
      go_meet
      case rel => exact ⟨_, (decide ((((yaa l0_7 a8).f2).length : Int) > 220)), (by first | rfl | (simp; done) | (simp [*]; done)), H', ⟨by have := HK1.out; first | omega | exact Nat.le_refl _⟩, ⟨by repeat (with_reducible first | exact b0.out | refine oneB ?_ | refine blk_far ?_ a9.out _)⟩, ⟨by (repeat refine oneB ?_); refine blk_put (cs := #[.int .i64 ((yaa l0_7 a8).f0), .int .i64 ((yaa l0_7 a8).f1), .slice none 0 0]) ?_ 2 _ rfl; refine blk_put (cs := #[.int .i64 ((yaa l0_7 a8).f0), .int .i64 0, .slice none 0 0]) ?_ 1 _ rfl; refine blk_put (cs := #[.int .i64 0, .int .i64 0, .slice none 0 0]) ?_ 0 _ rfl; exact upB b1.out⟩, ⟨by repeat (with_reducible first | exact HB.out | apply below_alloc | apply yac | apply below_drew1 | refine below_set ?_ (Aside0.out ‹_›))⟩⟩
     replace c17 := Bool.eq_false_iff.mpr c17
     subst c17
     rw [if_neg (show ¬ (false = true) by decide)] at H
     have H' := yab H; clear H; have r6 := b2.out; have r7 := a9.out; obtain ⟨j3, j4, j5⟩ := cc3_ b1.out; obtain ⟨j6, j7, j8⟩ := cf3_ b1.out; obtain ⟨j9, k0, k2, k3, k4, k5, k6, k7⟩ := cc8_ b0.out; obtain ⟨k8, k9, l1, l2, l3, l4, l5, l6⟩ := cf8_ b0.out
     go_wp2_with (first | ((with_reducible refine gc_ 62 rfl ?_); refine gl_ (some 21) rfl Try.func62 #[.int .i64 ((yaa l0_7 a8).f0), .int .i64 0, .int .i64 (wrap64 (a0_3 - 1))] ?_; (with_reducible refine (impl_within.calls ((yaa l0_7 a8).f0) 0 (wrap64 (a0_3 - 1)) true _ A14.out).mono ?_); rintro e w' ⟨rfl, ⟨nd, rfl⟩⟩; refine ⟨_, rfl, ?_⟩) | (go_at_call 129; (with_reducible refine (impl_codeOk.calls ((yaa l0_7 a8).f1) false _ A16.out).mono ?_); rintro e w' ⟨rfl, ⟨nd, rfl⟩⟩))
     go_meet
     case rel => exact ⟨_, (true), (by first | rfl | (simp; done) | (simp [*]; done)), H', ⟨by have := HK1.out; first | omega | exact Nat.le_refl _⟩, ⟨by repeat (with_reducible first | exact b0.out | refine oneB ?_ | refine blk_far ?_ a9.out _)⟩, ⟨by (repeat refine oneB ?_); refine blk_put (cs := #[.int .i64 ((yaa l0_7 a8).f0), .int .i64 ((yaa l0_7 a8).f1), .slice none 0 0]) ?_ 2 _ rfl; refine blk_put (cs := #[.int .i64 ((yaa l0_7 a8).f0), .int .i64 0, .slice none 0 0]) ?_ 1 _ rfl; refine blk_put (cs := #[.int .i64 0, .int .i64 0, .slice none 0 0]) ?_ 0 _ rfl; exact upB b1.out⟩, ⟨by repeat (with_reducible first | exact HB.out | apply below_alloc | apply yac | apply below_drew1 | refine below_set ?_ (Aside0.out ‹_›))⟩⟩
    replace c15 := Bool.eq_false_iff.mpr c15
    subst c15
    rw [if_neg (show ¬ (false = true) by decide)] at H
    have H' := yab H; clear H; have r8 := b2.out; have r9 := a9.out; obtain ⟨l7, l8, l9⟩ := cc3_ b1.out; obtain ⟨m0, m1, m2⟩ := cf3_ b1.out; obtain ⟨m3, m4, m5, m6, m7, m8, m9, n0⟩ := cc8_ b0.out; obtain ⟨n1, n2, n3, n4, n5, n6, n7, n8⟩ := cf8_ b0.out
    go_wp2_with (first | ((with_reducible refine gc_ 62 rfl ?_); refine gl_ (some 21) rfl Try.func62 #[.int .i64 ((yaa l0_7 a8).f0), .int .i64 0, .int .i64 (wrap64 (a0_3 - 1))] ?_; (with_reducible refine (impl_within.calls ((yaa l0_7 a8).f0) 0 (wrap64 (a0_3 - 1)) false _ A14.out).mono ?_); rintro e w' ⟨rfl, ⟨nd, rfl⟩⟩; refine ⟨_, rfl, ?_⟩))
    go_meet
    case rel => exact ⟨_, (true), (by first | rfl | (simp; done) | (simp [*]; done)), H', ⟨by have := HK1.out; first | omega | exact Nat.le_refl _⟩, ⟨by repeat (with_reducible first | exact b0.out | refine oneB ?_ | refine blk_far ?_ a9.out _)⟩, ⟨by (repeat refine oneB ?_); refine blk_put (cs := #[.int .i64 ((yaa l0_7 a8).f0), .int .i64 ((yaa l0_7 a8).f1), .slice none 0 0]) ?_ 2 _ rfl; refine blk_put (cs := #[.int .i64 ((yaa l0_7 a8).f0), .int .i64 0, .slice none 0 0]) ?_ 1 _ rfl; refine blk_put (cs := #[.int .i64 0, .int .i64 0, .slice none 0 0]) ?_ 0 _ rfl; exact upB b1.out⟩, ⟨by repeat (with_reducible first | exact HB.out | apply below_alloc | apply yac | apply below_drew1 | refine below_set ?_ (Aside0.out ‹_›))⟩⟩
   case rest =>
    clear HC10; (try clear c1); (try clear p1); (try clear q1); (try clear hx1); (try clear c2); (try clear n9); (try clear o0); (try clear p2); (try clear c6); (try clear p6); (try clear c7); (try clear o4); (try clear c8); (try clear c8b0); (try clear c9); (try clear c9b0); (try clear c10); (try clear p10); (try clear q10); (try clear hx10); (try clear c12); (try clear c15); (try clear c17); (try clear c18); (try clear c21); (try clear c24); (try clear g3); (try clear g4); (try clear g5); (try clear g9); (try clear h0); (try clear h1); (try clear h6); (try clear h7); (try clear h8); (try clear h9); (try clear i0); (try clear i1); (try clear i2); (try clear i3); (try clear j3); (try clear j4); (try clear j5); (try clear j9); (try clear k0); (try clear k2); (try clear k3); (try clear k4); (try clear k5); (try clear k6); (try clear k7); (try clear l7); (try clear l8); (try clear l9); (try clear m3); (try clear m4); (try clear m5); (try clear m6); (try clear m7); (try clear m8); (try clear m9); (try clear n0); (try clear b9); (try clear c0); (try clear c3); (try clear c4); (try clear c5); (try clear d0); (try clear d1); (try clear d2); (try clear e1); (try clear e2); (try clear e3); (try clear e4); (try clear e5); (try clear e6); (try clear e7); (try clear e8); (try clear g6); (try clear g7); (try clear g8); (try clear h2); (try clear h3); (try clear h4); (try clear i4); (try clear i5); (try clear i6); (try clear i7); (try clear i8); (try clear i9); (try clear j0); (try clear j2); (try clear j6); (try clear j7); (try clear j8); (try clear k8); (try clear k9); (try clear l1); (try clear l2); (try clear l3); (try clear l4); (try clear l5); (try clear l6); (try clear m0); (try clear m1); (try clear m2); (try clear n1); (try clear n2); (try clear n3); (try clear n4); (try clear n5); (try clear n6); (try clear n7); (try clear n8); (try clear d3); (try clear d4); (try clear d5); (try clear d6); (try clear d7); (try clear d8); (try clear d9); (try clear e0); (try clear e9); (try clear f3); (try clear f4); (try clear f5); (try clear f6); (try clear f7); (try clear f8); (try clear f9); (try clear b4); (try clear b5); (try clear b6); (try clear p102); (try clear p2); (try clear q102); obtain ⟨kq, b7, rfl, HA, HJ9, b0, b1, HB⟩ := hcut
    cases kq with
    | zero => exact absurd HA.out (by simp [impl_outsOk.j1])
    | succ kj9 =>
     have H := HA.out; clear HA
     simp only [impl_outsOk.j1] at H
     by_cases c27 : b7 = true
     ·
      subst c27
      rw [if_pos rfl] at H
      obtain rfl := Option.some.inj H
      go_wp2
      go_ret
      exact ⟨by first | rfl | (simp [*, errW_none, errW_some] <;> rfl), by repeat (with_reducible first | exact HB.out | apply below_alloc | apply yac | apply below_drew1 | refine below_set ?_ (Aside0.out ‹_›))⟩
     replace c27 := Bool.eq_false_iff.mpr c27
     subst c27
     rw [if_neg (show ¬ (false = true) by decide)] at H
     by_cases c28 : ((decide ((((yaa l0_7 a8).f2).length : Int) > 0)) != (((yaa l0_7 a8).f1) == 200)) = true
     ·
      rw [if_pos c28] at H
      have o7 : ((decide ((((yaa l0_7 a8).f2).length : Int) > 0)) != (((yaa l0_7 a8).f1) == 200)) = true := c28
      (try (have o8 : (decide (0 < (((yaa l0_7 a8).f2)).length) == (((yaa l0_7 a8).f1) == 200)) = false := by simpa using c28))
      (try (have o9 : decide ((decide ((((yaa l0_7 a8).f2).length : Int) > 0)) = (((yaa l0_7 a8).f1) == 200)) = false := by simpa using c28))
      (try (have p0 : ((decide ((((yaa l0_7 a8).f2).length : Int) > 0)) == (((yaa l0_7 a8).f1) == 200)) = false := by simpa using c28))
      (try (have s0 : ¬ ((decide ((((yaa l0_7 a8).f2).length : Int) > 0)) = (((yaa l0_7 a8).f1) == 200)) := by simpa using c28))
      clear c28; obtain rfl := Option.some.inj H; have s1 := b2.out; have s2 := a9.out; obtain ⟨p3, p4, p5⟩ := cc3_ b1.out; obtain ⟨p7, p8, p9⟩ := cf3_ b1.out
      go_wp2
      go_ret
      exact ⟨by first | rfl | (simp [*, errW_none, errW_some] <;> rfl), by repeat (with_reducible first | exact HB.out | apply below_alloc | apply yac | apply below_drew1 | refine below_set ?_ (Aside0.out ‹_›))⟩
     rw [if_neg c28] at H
     have o7 : ((decide ((((yaa l0_7 a8).f2).length : Int) > 0)) != (((yaa l0_7 a8).f1) == 200)) = false := (by simpa using c28)
     (try (have o8 : (decide (0 < (((yaa l0_7 a8).f2)).length) == (((yaa l0_7 a8).f1) == 200)) = true := by simpa using c28))
     (try (have o9 : decide ((decide ((((yaa l0_7 a8).f2).length : Int) > 0)) = (((yaa l0_7 a8).f1) == 200)) = true := by simpa using c28))
     (try (have p0 : ((decide ((((yaa l0_7 a8).f2).length : Int) > 0)) == (((yaa l0_7 a8).f1) == 200)) = true := by simpa using c28))
     clear c28; have H' := yab H; clear H; have s3 := b2.out; have s4 := a9.out; obtain ⟨q0, q2, q3⟩ := cc3_ b1.out; obtain ⟨q4, q5, q6⟩ := cf3_ b1.out
     go_wp2
     go_roundg kj9
     case measure => have := HK1.out; have := HJ9.out; omega
     case rel => exact ⟨(wrap64 (a8 + 1)), (by first | rfl | (simp; done) | (simp [*]; done)), H', ⟨by have := HK1.out; have := HJ9.out; omega⟩, ⟨by exact upB b0.out⟩, ⟨by repeat (with_reducible first | exact HB.out | apply below_alloc | apply yac | apply below_drew1 | refine below_set ?_ (Aside0.out ‹_›))⟩⟩
end
section
open Go.Proofs.YtgpkkkmapgnhkaaW.PrintWords.Aside0 renaming mk → yaa
open Go.Proofs.YtgpkkkmapgnhkaaW.PrintWords.Kd renaming C_below → yab, C_alloc → yac, C_drewN → yad, C_drew → yae
open Go.Proofs.YtgpkkkmapgnhkaaW.PrintWords renaming pw_below_drewN → yaf, below_alloc → yag, below_drew1 → yah, blk_below → yai, below_set → yaj, below_step → yak
mutual
def impl_TenOk.j0 : Nat → Bool → List Int → Int → Int → Int → Int → Int → Int → Int → Int → Int → Int → List (S124) → List (S156) → List ByteArray → List (S158) → Option (Bool)
 | 0, _, _, _, _, _, _, _, _, _, _, _, _, _, _, _, _ => none
 | k + 1, x21, x102000, x102001, x102002, x102003, x102004, x102005, x102006, x103000, x103001, x103002, x103003, x103004, x103005, x103006, x103007 => if x21 = true then (some false) else ((impl_within.f x103002 0 x103000).bind fun t106 => (if t106 = true then ((impl_within.f x103003 0 9999).bind fun t107 => (impl_TenOk.j1 k (!t107) x102000 x102001 x102002 x102003 x102004 x102005 x102006 x103000 x103001 x103002 x103003 x103004 x103005 x103006 x103007)) else (impl_TenOk.j1 k true x102000 x102001 x102002 x102003 x102004 x102005 x102006 x103000 x103001 x103002 x103003 x103004 x103005 x103006 x103007)))
def impl_TenOk.j1 : Nat → Bool → List Int → Int → Int → Int → Int → Int → Int → Int → Int → Int → Int → List (S124) → List (S156) → List ByteArray → List (S158) → Option (Bool)
 | 0, _, _, _, _, _, _, _, _, _, _, _, _, _, _, _, _ => none
 | k + 1, x33, x102000, x102001, x102002, x102003, x102004, x102005, x102006, x103000, x103001, x103002, x103003, x103004, x103005, x103006, x103007 => if x33 = true then (some false) else ((impl_jobsOk.f k x102000 x102001 x102002 x102003 x102004 x102005 x102006 x103000 x103001 x103002 x103003 x103004 x103005 x103006 x103007).bind fun t108 => (if t108 = true then ((impl_filesOk.f k x102000 x102001 x102002 x102003 x102004 x102005 x102006 x103000 x103001 x103002 x103003 x103004 x103005 x103006 x103007).bind fun t109 => (if t109 = true then ((impl_askedOk.f k x103000 x103001 x103002 x103003 x103004 x103005 x103006 x103007).bind fun t110 => (if t110 = true then ((impl_outsOk.f k x103000 x103001 x103002 x103003 x103004 x103005 x103006 x103007).bind fun t111 => (some t111)) else (some false))) else (some false))) else (some false)))
end
def impl_TenOk.f (k : Nat) (l0_0 : List Int) (a0_1 : Int) (a0_2 : Int) (a0_3 : Int) (a0_4 : Int) (a0_5 : Int) (a0_6 : Int) (a1_0 : Int) (a1_1 : Int) (a1_2 : Int) (a1_3 : Int) (l1_4 : List (S124)) (l1_5 : List (S156)) (l1_6 : List ByteArray) (l1_7 : List (S158)) : Option (Bool) := (impl_CfgOk.f l0_0 a0_1 a0_2 a0_3 a0_4 a0_5 a0_6).bind fun t103 => (if t103 = true then ((impl_within.f a1_0 0 9999).bind fun t104 => (if t104 = true then ((impl_within.f a1_1 0 a0_1).bind fun t105 => (impl_TenOk.j0 k (!t105) l0_0 a0_1 a0_2 a0_3 a0_4 a0_5 a0_6 a1_0 a1_1 a1_2 a1_3 l1_4 l1_5 l1_6 l1_7)) else (impl_TenOk.j0 k true l0_0 a0_1 a0_2 a0_3 a0_4 a0_5 a0_6 a1_0 a1_1 a1_2 a1_3 l1_4 l1_5 l1_6 l1_7))) else (impl_TenOk.j0 k true l0_0 a0_1 a0_2 a0_3 a0_4 a0_5 a0_6 a1_0 a1_1 a1_2 a1_3 l1_4 l1_5 l1_6 l1_7))
set_option maxHeartbeats 8000000 in
set_option maxRecDepth 100000 in
theorem impl_TenOk.calls (k : Nat) (A0_0 : Option Addr) (c0_0 : Nat) (l0_0 : List Int) (a0_1 : Int) (a0_2 : Int) (a0_3 : Int) (a0_4 : Int) (a0_5 : Int) (a0_6 : Int) (a1_0 : Int) (a1_1 : Int) (a1_2 : Int) (a1_3 : Int) (A1_4 : Option Addr) (c1_4 : Nat) (l1_4 : List (S124)) (A1_5 : Option Addr) (c1_5 : Nat) (l1_5 : List (S156)) (A1_6 : Option Addr) (c1_6 : Nat) (l1_6 : List ByteArray) (A1_7 : Option Addr) (c1_7 : Nat) (l1_7 : List (S158)) (r : Bool) (w : World) (hr0_0 : Kd.C (Kd.int .u8) w A0_0 l0_0.length l0_0) (hc0_0 : l0_0.length ≤ c0_0) (hr1_4 : Kd.C k124 w A1_4 l1_4.length l1_4) (hc1_4 : l1_4.length ≤ c1_4) (hr1_5 : Kd.C k156 w A1_5 l1_5.length l1_5) (hc1_5 : l1_5.length ≤ c1_5) (hr1_6 : Kd.C Kd.string w A1_6 l1_6.length l1_6) (hc1_6 : l1_6.length ≤ c1_6) (hr1_7 : Kd.C k158 w A1_7 l1_7.length l1_7) (hc1_7 : l1_7.length ≤ c1_7) (h : impl_TenOk.f k l0_0 a0_1 a0_2 a0_3 a0_4 a0_5 a0_6 a1_0 a1_1 a1_2 a1_3 l1_4 l1_5 l1_6 l1_7 = some r) :
  Calls Try.prog 39 #[.agg #[.slice A0_0 l0_0.length c0_0, .int .i64 a0_1, .int .i64 a0_2, .int .i64 a0_3, .int .i64 a0_4, .int .i64 a0_5, .int .i64 a0_6], .agg #[.int .i64 a1_0, .int .i64 a1_1, .int .i64 a1_2, .int .i64 a1_3, .slice A1_4 l1_4.length c1_4, .slice A1_5 l1_5.length c1_5, .slice A1_6 l1_6.length c1_6, .slice A1_7 l1_7.length c1_7]] w fun e w' => e = .returned (.bool r) ∧ Below w.heap.size w w' := by
 have hu24 := Try.underlying24; have hu63 := Try.underlying63; have HR0_0 := yaa hr0_0; have HC0_0 := yaa hc0_0; clear hr0_0 hc0_0; have HR1_4 := yaa hr1_4; have HC1_4 := yaa hc1_4; clear hr1_4 hc1_4; have HR1_5 := yaa hr1_5; have HC1_5 := yaa hc1_5; clear hr1_5 hc1_5; have HR1_6 := yaa hr1_6; have HC1_6 := yaa hc1_6; clear hr1_6 hc1_6; have HR1_7 := yaa hr1_7; have HC1_7 := yaa hc1_7; clear hr1_7 hc1_7; have HB := yaa (Below.refl w.heap.size w); have H : ((impl_CfgOk.f l0_0 a0_1 a0_2 a0_3 a0_4 a0_5 a0_6).bind fun p1 => (if p1 = true then ((impl_within.f a1_0 0 9999).bind fun p3 => (if p3 = true then ((impl_within.f a1_1 0 a0_1).bind fun l8 => (impl_TenOk.j0 k (!l8) l0_0 a0_1 a0_2 a0_3 a0_4 a0_5 a0_6 a1_0 a1_1 a1_2 a1_3 l1_4 l1_5 l1_6 l1_7)) else (impl_TenOk.j0 k true l0_0 a0_1 a0_2 a0_3 a0_4 a0_5 a0_6 a1_0 a1_1 a1_2 a1_3 l1_4 l1_5 l1_6 l1_7))) else (impl_TenOk.j0 k true l0_0 a0_1 a0_2 a0_3 a0_4 a0_5 a0_6 a1_0 a1_1 a1_2 a1_3 l1_4 l1_5 l1_6 l1_7))) = some r := h; clear h; have HC3 := yaa H; clear H
 go_enter Try.func39, Try.ntmps39
 go_upto_region 1 with (first | ((with_reducible refine gd_ 2 rfl ?_); refine bx_ 2 rfl #[.slice A0_0 l0_0.length c0_0, .int .i64 a0_1, .int .i64 a0_2, .int .i64 a0_3, .int .i64 a0_4, .int .i64 a0_5, .int .i64 a0_6] 24 ?_; intro b8 hg w4 hbox hb; have b1 := yaa (hbox); have p4 := yaa ((by rw [hg]; exact (below_size (upH HB.out)) : w.heap.size ≤ b8)); replace HB := yaa (yak (upH HB.out) hb); have R6 := p4; clear hb hbox hg) | ((with_reducible refine gd_ 3 rfl ?_); refine bx_ 3 rfl #[.int .i64 a1_0, .int .i64 a1_1, .int .i64 a1_2, .int .i64 a1_3, .slice A1_4 l1_4.length c1_4, .slice A1_5 l1_5.length c1_5, .slice A1_6 l1_6.length c1_6, .slice A1_7 l1_7.length c1_7] 63 ?_; intro b9 hg w5 hbox hb; have b0 := yaa (hbox); have p5 := yaa ((by rw [hg]; exact (below_size (by repeat (with_reducible first | exact HB.out | apply yag | apply yaf | apply yah | refine yaj ?_ (Aside0.out ‹_›)))) : w.heap.size ≤ b9)); replace HB := yaa (yak (by repeat (with_reducible first | exact HB.out | apply yag | apply yaf | apply yah | refine yaj ?_ (Aside0.out ‹_›))) hb); have R7 := p5; have b2 := yaa ((by rw [hg]; exact Nat.ne_of_lt (blk_lt (upB b1.out)) : b8 ≠ b9)); replace b1 := yaa (yai (upB b1.out) hb); have b3 := yaa b2.out.symm; clear hb hbox hg))
 (try simp only [Act.put, List.setIfInBounds_toArray, List.set_cons_zero, List.set_cons_succ])
 go_cut [21] (fun v21 wc => ∃ (kq : Nat) (c0 : Bool), v21 = .bool c0 ∧ Aside0 (impl_TenOk.j0 kq c0 l0_0 a0_1 a0_2 a0_3 a0_4 a0_5 a0_6 a1_0 a1_1 a1_2 a1_3 l1_4 l1_5 l1_6 l1_7 = some r) ∧ Aside0 (kq ≤ k) ∧ Aside0 (wc.heap[b8]? = some (.cells #[(.slice A0_0 l0_0.length c0_0), .int .i64 a0_1, .int .i64 a0_2, .int .i64 a0_3, .int .i64 a0_4, .int .i64 a0_5, .int .i64 a0_6] 24 (0, 0))) ∧ Aside0 (wc.heap[b9]? = some (.cells #[.int .i64 a1_0, .int .i64 a1_1, .int .i64 a1_2, .int .i64 a1_3, (.slice A1_4 l1_4.length c1_4), (.slice A1_5 l1_5.length c1_5), (.slice A1_6 l1_6.length c1_6), (.slice A1_7 l1_7.length c1_7)] 63 (0, 0))) ∧ Aside0 (Below w.heap.size w wc))
 case first =>
  have H := HC3.out; clear HC3; obtain ⟨p1, A6, H⟩ := bindA H; (try dsimp only at H)
  by_cases c7 : p1 = true
  ·
   subst c7
   rw [if_pos rfl] at H
   obtain ⟨p3, A8, H⟩ := bindA H; (try dsimp only at H)
   by_cases c9 : p3 = true
   ·
    subst c9
    rw [if_pos rfl] at H
    obtain ⟨l8, A10, H⟩ := bindA H; (try dsimp only at H); have H' := yaa H; clear H; have R8 := b2.out; have R9 := b3.out; obtain ⟨c4, c5, c8, d0, d1, d2, d3⟩ := cc7_ b1.out; obtain ⟨d4, d5, d6, d7, d8, d9, e0⟩ := cf7_ b1.out
    go_wp2_with (first | ((with_reducible refine gc_ 14 rfl ?_); refine gl_ (some 6) rfl Try.func14 #[.agg #[.slice A0_0 l0_0.length c0_0, .int .i64 a0_1, .int .i64 a0_2, .int .i64 a0_3, .int .i64 a0_4, .int .i64 a0_5, .int .i64 a0_6]] ?_; (with_reducible refine (impl_CfgOk.calls _ _ l0_0 a0_1 a0_2 a0_3 a0_4 a0_5 a0_6 true _ ?side1 ?side2 A6.out).mono ?_); (case side1 => repeat (first | exact (yab HR0_0.out HB.out) | (with_reducible refine yac ?_ _) | (with_reducible refine yad ?_ _) | (with_reducible refine yae ?_))); (case side2 => exact HC0_0.out); rintro e w13 ⟨rfl, hb⟩; refine ⟨_, rfl, ?_⟩; replace b1 := yaa (yai (upB b1.out) hb); replace b0 := yaa (yai (upB b0.out) hb); replace HB := yaa (yak (by repeat (with_reducible first | exact HB.out | apply yag | apply yaf | apply yah | refine yaj ?_ (Aside0.out ‹_›))) hb); (try clear hb); obtain ⟨e1, e2, e3, e4, e5, e6, e7, e8⟩ := cc8_ b0.out; obtain ⟨e9, f0, f1, f2, f3, f4, f5⟩ := cf7_ b0.out; have f6 := blk_frozen b0.out 7) | (go_at_call 62; (with_reducible refine (impl_within.calls a1_0 0 9999 true _ A8.out).mono ?_); rintro e w' ⟨rfl, ⟨nd, rfl⟩⟩; obtain ⟨f7, f8, f9, g0, g1, g2, g3⟩ := cc7_ b1.out; obtain ⟨g4, g5, g6, g7, g8, g9⟩ := cf6_ b1.out; have h0 := blk_frozen b1.out 6) | (go_at_call 62; (with_reducible refine (impl_within.calls a1_1 0 a0_1 l8 _ A10.out).mono ?_); rintro e w' ⟨rfl, ⟨nd, rfl⟩⟩))
    go_meet
    case rel => exact ⟨_, (!l8), (by first | rfl | (simp; done) | (simp [*]; done)), H', ⟨by first | omega | exact Nat.le_refl _⟩, ⟨by exact upB b1.out⟩, ⟨by exact upB b0.out⟩, ⟨by repeat (with_reducible first | exact HB.out | apply yag | apply yaf | apply yah | refine yaj ?_ (Aside0.out ‹_›))⟩⟩
   replace c9 := Bool.eq_false_iff.mpr c9
   subst c9
   rw [if_neg (show ¬ (false = true) by decide)] at H
   have H' := yaa H; clear H; have S0 := b2.out; have S1 := b3.out; obtain ⟨h1, h2, h3, h4, h5, h6, h7⟩ := cc7_ b1.out; obtain ⟨h8, h9, i0, i1, i2, i3, i4⟩ := cf7_ b1.out
   go_wp2_with (first | ((with_reducible refine gc_ 14 rfl ?_); refine gl_ (some 6) rfl Try.func14 #[.agg #[.slice A0_0 l0_0.length c0_0, .int .i64 a0_1, .int .i64 a0_2, .int .i64 a0_3, .int .i64 a0_4, .int .i64 a0_5, .int .i64 a0_6]] ?_; (with_reducible refine (impl_CfgOk.calls _ _ l0_0 a0_1 a0_2 a0_3 a0_4 a0_5 a0_6 true _ ?side1 ?side2 A6.out).mono ?_); (case side1 => repeat (first | exact (yab HR0_0.out HB.out) | (with_reducible refine yac ?_ _) | (with_reducible refine yad ?_ _) | (with_reducible refine yae ?_))); (case side2 => exact HC0_0.out); rintro e w18 ⟨rfl, hb⟩; refine ⟨_, rfl, ?_⟩; replace b1 := yaa (yai (upB b1.out) hb); replace b0 := yaa (yai (upB b0.out) hb); replace HB := yaa (yak (by repeat (with_reducible first | exact HB.out | apply yag | apply yaf | apply yah | refine yaj ?_ (Aside0.out ‹_›))) hb); (try clear hb); obtain ⟨i5, i6, i7, i8, i9, j2, j3, j4⟩ := cc8_ b0.out; obtain ⟨j5, j6, j7, j8, j9, k0, k1⟩ := cf7_ b0.out; have k2 := blk_frozen b0.out 7) | (go_at_call 62; (with_reducible refine (impl_within.calls a1_0 0 9999 false _ A8.out).mono ?_); rintro e w' ⟨rfl, ⟨nd, rfl⟩⟩))
   go_meet
   case rel => exact ⟨_, (true), (by first | rfl | (simp; done) | (simp [*]; done)), H', ⟨by first | omega | exact Nat.le_refl _⟩, ⟨by exact upB b1.out⟩, ⟨by exact upB b0.out⟩, ⟨by repeat (with_reducible first | exact HB.out | apply yag | apply yaf | apply yah | refine yaj ?_ (Aside0.out ‹_›))⟩⟩
  replace c7 := Bool.eq_false_iff.mpr c7
  subst c7
  rw [if_neg (show ¬ (false = true) by decide)] at H
  have H' := yaa H; clear H; have S2 := b2.out; have S3 := b3.out; obtain ⟨k3, k4, k5, k6, k7, k8, k9⟩ := cc7_ b1.out; obtain ⟨l0, l1, l2, l3, l4, l5, l6⟩ := cf7_ b1.out
  go_wp2_with (first | ((with_reducible refine gc_ 14 rfl ?_); refine gl_ (some 6) rfl Try.func14 #[.agg #[.slice A0_0 l0_0.length c0_0, .int .i64 a0_1, .int .i64 a0_2, .int .i64 a0_3, .int .i64 a0_4, .int .i64 a0_5, .int .i64 a0_6]] ?_; (with_reducible refine (impl_CfgOk.calls _ _ l0_0 a0_1 a0_2 a0_3 a0_4 a0_5 a0_6 false _ ?side1 ?side2 A6.out).mono ?_); (case side1 => repeat (first | exact (yab HR0_0.out HB.out) | (with_reducible refine yac ?_ _) | (with_reducible refine yad ?_ _) | (with_reducible refine yae ?_))); (case side2 => exact HC0_0.out); rintro e w22 ⟨rfl, hb⟩; refine ⟨_, rfl, ?_⟩; replace b1 := yaa (yai (upB b1.out) hb); replace b0 := yaa (yai (upB b0.out) hb); replace HB := yaa (yak (by repeat (with_reducible first | exact HB.out | apply yag | apply yaf | apply yah | refine yaj ?_ (Aside0.out ‹_›))) hb); (try clear hb)))
  go_meet
  case rel => exact ⟨_, (true), (by first | rfl | (simp; done) | (simp [*]; done)), H', ⟨by first | omega | exact Nat.le_refl _⟩, ⟨by exact upB b1.out⟩, ⟨by exact upB b0.out⟩, ⟨by repeat (with_reducible first | exact HB.out | apply yag | apply yaf | apply yah | refine yaj ?_ (Aside0.out ‹_›))⟩⟩
 case rest =>
  clear HC3; (try clear c1); (try clear c2); (try clear p2); (try clear c3); (try clear c7); (try clear c9); (try clear c11); (try clear c14); (try clear c16); (try clear c20); (try clear c4); (try clear c5); (try clear c8); (try clear d0); (try clear d1); (try clear d2); (try clear d3); (try clear e1); (try clear e2); (try clear e3); (try clear e4); (try clear e5); (try clear e6); (try clear e7); (try clear e8); (try clear f7); (try clear f8); (try clear f9); (try clear g0); (try clear g1); (try clear g2); (try clear g3); (try clear h1); (try clear h2); (try clear h3); (try clear h4); (try clear h5); (try clear h6); (try clear h7); (try clear i5); (try clear i6); (try clear i7); (try clear i8); (try clear i9); (try clear j2); (try clear j3); (try clear j4); (try clear k3); (try clear k4); (try clear k5); (try clear k6); (try clear k7); (try clear k8); (try clear k9); (try clear d4); (try clear d5); (try clear d6); (try clear d7); (try clear d8); (try clear d9); (try clear e0); (try clear e9); (try clear f0); (try clear f1); (try clear f2); (try clear f3); (try clear f4); (try clear f5); (try clear f6); (try clear g4); (try clear g5); (try clear g6); (try clear g7); (try clear g8); (try clear g9); (try clear h0); (try clear h8); (try clear h9); (try clear i0); (try clear i1); (try clear i2); (try clear i3); (try clear i4); (try clear j5); (try clear j6); (try clear j7); (try clear j8); (try clear j9); (try clear k0); (try clear k1); (try clear k2); (try clear l0); (try clear l1); (try clear l2); (try clear l3); (try clear l4); (try clear l5); (try clear l6); obtain ⟨kq, c0, rfl, HA, HJ2, b1, b0, HB⟩ := hcut
  cases kq with
  | zero => exact absurd HA.out (by simp [impl_TenOk.j0])
  | succ kj2 =>
   have H := HA.out; clear HA
   simp only [impl_TenOk.j0] at H
   by_cases c23 : c0 = true
   ·
    subst c23
    rw [if_pos rfl] at H
    obtain rfl := Option.some.inj H
    go_wp2
    go_ret
    exact ⟨by first | rfl | (simp [*, errW_none, errW_some] <;> rfl), by repeat (with_reducible first | exact HB.out | apply yag | apply yaf | apply yah | refine yaj ?_ (Aside0.out ‹_›))⟩
   replace c23 := Bool.eq_false_iff.mpr c23
   subst c23
   rw [if_neg (show ¬ (false = true) by decide)] at H
   have HC24 := yaa H; clear H
   go_upto_region 3 with (fail)
   go_cut [33] (fun v33 wc => ∃ (kq : Nat) (b7 : Bool), v33 = .bool b7 ∧ Aside0 (impl_TenOk.j1 kq b7 l0_0 a0_1 a0_2 a0_3 a0_4 a0_5 a0_6 a1_0 a1_1 a1_2 a1_3 l1_4 l1_5 l1_6 l1_7 = some r) ∧ Aside0 (kq ≤ kj2) ∧ Aside0 (wc.heap[b8]? = some (.cells #[(.slice A0_0 l0_0.length c0_0), .int .i64 a0_1, .int .i64 a0_2, .int .i64 a0_3, .int .i64 a0_4, .int .i64 a0_5, .int .i64 a0_6] 24 (0, 0))) ∧ Aside0 (wc.heap[b9]? = some (.cells #[.int .i64 a1_0, .int .i64 a1_1, .int .i64 a1_2, .int .i64 a1_3, (.slice A1_4 l1_4.length c1_4), (.slice A1_5 l1_5.length c1_5), (.slice A1_6 l1_6.length c1_6), (.slice A1_7 l1_7.length c1_7)] 63 (0, 0))) ∧ Aside0 (Below w.heap.size w wc))
   case first =>
    have H := HC24.out; clear HC24; obtain ⟨R1, A25, H⟩ := bindA H; (try dsimp only at H)
    by_cases c26 : R1 = true
    ·
     subst c26
     rw [if_pos rfl] at H
     obtain ⟨p6, A27, H⟩ := bindA H; (try dsimp only at H); have H' := yaa H; clear H; have S4 := b3.out; have S5 := b2.out; obtain ⟨l9, m0, m1, m2, m3, m4, m5, m6⟩ := cc8_ b0.out; obtain ⟨m7, m8, m9, n0, n1, n2, n3, n4⟩ := cf8_ b0.out
     go_wp2_with (first | ((with_reducible refine gc_ 62 rfl ?_); refine gl_ (some 26) rfl Try.func62 #[.int .i64 a1_2, .int .i64 0, .int .i64 a1_0] ?_; (with_reducible refine (impl_within.calls a1_2 0 a1_0 true _ A25.out).mono ?_); rintro e w' ⟨rfl, ⟨nd, rfl⟩⟩; refine ⟨_, rfl, ?_⟩) | (go_at_call 62; (with_reducible refine (impl_within.calls a1_3 0 9999 p6 _ A27.out).mono ?_); rintro e w' ⟨rfl, ⟨nd, rfl⟩⟩))
     go_meet
     case rel => exact ⟨_, (!p6), (by first | rfl | (simp; done) | (simp [*]; done)), H', ⟨by have := HJ2.out; first | omega | exact Nat.le_refl _⟩, ⟨by exact upB b1.out⟩, ⟨by exact upB b0.out⟩, ⟨by repeat (with_reducible first | exact HB.out | apply yag | apply yaf | apply yah | refine yaj ?_ (Aside0.out ‹_›))⟩⟩
    replace c26 := Bool.eq_false_iff.mpr c26
    subst c26
    rw [if_neg (show ¬ (false = true) by decide)] at H
    have H' := yaa H; clear H; have S6 := b3.out; have S7 := b2.out; obtain ⟨n5, n6, n7, n8, n9, o0, o1, o2⟩ := cc8_ b0.out; obtain ⟨o3, o4, o5, o6, o7, o8, o9, p0⟩ := cf8_ b0.out
    go_wp2_with (first | ((with_reducible refine gc_ 62 rfl ?_); refine gl_ (some 26) rfl Try.func62 #[.int .i64 a1_2, .int .i64 0, .int .i64 a1_0] ?_; (with_reducible refine (impl_within.calls a1_2 0 a1_0 false _ A25.out).mono ?_); rintro e w' ⟨rfl, ⟨nd, rfl⟩⟩; refine ⟨_, rfl, ?_⟩))
    go_meet
    case rel => exact ⟨_, (true), (by first | rfl | (simp; done) | (simp [*]; done)), H', ⟨by have := HJ2.out; first | omega | exact Nat.le_refl _⟩, ⟨by exact upB b1.out⟩, ⟨by exact upB b0.out⟩, ⟨by repeat (with_reducible first | exact HB.out | apply yag | apply yaf | apply yah | refine yaj ?_ (Aside0.out ‹_›))⟩⟩
   case rest =>
    clear HC24; (try clear c1); (try clear c2); (try clear p2); (try clear c3); (try clear c6); (try clear c7); (try clear c9); (try clear c11); (try clear c14); (try clear c16); (try clear c20); (try clear c23); (try clear c26); (try clear c28); (try clear c30); (try clear c4); (try clear c5); (try clear c8); (try clear d0); (try clear d1); (try clear d2); (try clear d3); (try clear e1); (try clear e2); (try clear e3); (try clear e4); (try clear e5); (try clear e6); (try clear e7); (try clear e8); (try clear f7); (try clear f8); (try clear f9); (try clear g0); (try clear g1); (try clear g2); (try clear g3); (try clear h1); (try clear h2); (try clear h3); (try clear h4); (try clear h5); (try clear h6); (try clear h7); (try clear i5); (try clear i6); (try clear i7); (try clear i8); (try clear i9); (try clear j2); (try clear j3); (try clear j4); (try clear k3); (try clear k4); (try clear k5); (try clear k6); (try clear k7); (try clear k8); (try clear k9); (try clear l9); (try clear m0); (try clear m1); (try clear m2); (try clear m3); (try clear m4); (try clear m5); (try clear m6); (try clear n5); (try clear n6); (try clear n7); (try clear n8); (try clear n9); (try clear o0); (try clear o1); (try clear o2); (try clear d4); (try clear d5); (try clear d6); (try clear d7); (try clear d8); (try clear d9); (try clear e0); (try clear e9); (try clear f0); (try clear f1); (try clear f2); (try clear f3); (try clear f4); (try clear f5); (try clear f6); (try clear g4); (try clear g5); (try clear g6); (try clear g7); (try clear g8); (try clear g9); (try clear h0); (try clear h8); (try clear h9); (try clear i0); (try clear i1); (try clear i2); (try clear i3); (try clear i4); (try clear j5); (try clear j6); (try clear j7); (try clear j8); (try clear j9); (try clear k0); (try clear k1); (try clear k2); (try clear l0); (try clear l1); (try clear l2); (try clear l3); (try clear l4); (try clear l5); (try clear l6); (try clear m7); (try clear m8); (try clear m9); (try clear n0); (try clear n1); (try clear n2); (try clear n3); (try clear n4); (try clear o3); (try clear o4); (try clear o5); (try clear o6); (try clear o7); (try clear o8); (try clear o9); (try clear p0); (try clear p2); obtain ⟨kq, b7, rfl, HA, HJ23, b1, b0, HB⟩ := hcut
    cases kq with
    | zero => exact absurd HA.out (by simp [impl_TenOk.j1])
    | succ kj23 =>
     have H := HA.out; clear HA
     simp only [impl_TenOk.j1] at H
     by_cases c32 : b7 = true
     ·
      subst c32
      rw [if_pos rfl] at H
      obtain rfl := Option.some.inj H
      go_wp2
      go_ret
      exact ⟨by first | rfl | (simp [*, errW_none, errW_some] <;> rfl), by repeat (with_reducible first | exact HB.out | apply yag | apply yaf | apply yah | refine yaj ?_ (Aside0.out ‹_›))⟩
     replace c32 := Bool.eq_false_iff.mpr c32
     subst c32
     rw [if_neg (show ¬ (false = true) by decide)] at H
     obtain ⟨R2, A33, H⟩ := bindA H; (try dsimp only at H)
     by_cases c34 : R2 = true
     rotate_left
     ·
      replace c34 := Bool.eq_false_iff.mpr c34
      subst c34
      rw [if_neg (show ¬ (false = true) by decide)] at H
      obtain rfl := Option.some.inj H; have T4 := b2.out; have T5 := b3.out; obtain ⟨O0, O1, O2, O3, O4, O5, O6⟩ := cc7_ b1.out; obtain ⟨O7, O8, O9, P0, P1, P2, P3⟩ := cf7_ b1.out; obtain ⟨P4, P5, P6, P7, P8, P9, Q0, Q1⟩ := cc8_ b0.out; obtain ⟨Q3, Q4, Q5, Q6, Q7, Q8, Q9, R0⟩ := cf8_ b0.out
      go_wp2_with (first | ((with_reducible refine gc_ 88 rfl ?_); refine gl_ (some 36) rfl Try.func88 #[.agg #[.slice A0_0 l0_0.length c0_0, .int .i64 a0_1, .int .i64 a0_2, .int .i64 a0_3, .int .i64 a0_4, .int .i64 a0_5, .int .i64 a0_6], .agg #[.int .i64 a1_0, .int .i64 a1_1, .int .i64 a1_2, .int .i64 a1_3, .slice A1_4 l1_4.length c1_4, .slice A1_5 l1_5.length c1_5, .slice A1_6 l1_6.length c1_6, .slice A1_7 l1_7.length c1_7]] ?_; (with_reducible refine (impl_jobsOk.calls kj23 _ _ l0_0 a0_1 a0_2 a0_3 a0_4 a0_5 a0_6 a1_0 a1_1 a1_2 a1_3 _ _ l1_4 _ _ l1_5 _ _ l1_6 _ _ l1_7 false _ ?side1 ?side2 ?side3 ?side4 ?side5 ?side6 ?side7 ?side8 ?side9 ?side10 A33.out).mono ?_); (case side1 => repeat (first | exact (yab HR0_0.out HB.out) | (with_reducible refine yac ?_ _) | (with_reducible refine yad ?_ _) | (with_reducible refine yae ?_))); (case side2 => exact HC0_0.out); (case side3 => repeat (first | exact (yab HR1_4.out HB.out) | (with_reducible refine yac ?_ _) | (with_reducible refine yad ?_ _) | (with_reducible refine yae ?_))); (case side4 => exact HC1_4.out); (case side5 => repeat (first | exact (yab HR1_5.out HB.out) | (with_reducible refine yac ?_ _) | (with_reducible refine yad ?_ _) | (with_reducible refine yae ?_))); (case side6 => exact HC1_5.out); (case side7 => repeat (first | exact (yab HR1_6.out HB.out) | (with_reducible refine yac ?_ _) | (with_reducible refine yad ?_ _) | (with_reducible refine yae ?_))); (case side8 => exact HC1_6.out); (case side9 => repeat (first | exact (yab HR1_7.out HB.out) | (with_reducible refine yac ?_ _) | (with_reducible refine yad ?_ _) | (with_reducible refine yae ?_))); (case side10 => exact HC1_7.out); rintro e w70 ⟨rfl, hb⟩; refine ⟨_, rfl, ?_⟩; replace b1 := yaa (yai (upB b1.out) hb); replace b0 := yaa (yai (upB b0.out) hb); replace HB := yaa (yak (by repeat (with_reducible first | exact HB.out | apply yag | apply yaf | apply yah | refine yaj ?_ (Aside0.out ‹_›))) hb); (try clear hb)))
      go_ret
      exact ⟨by first | rfl | (simp [*, errW_none, errW_some] <;> rfl), by repeat (with_reducible first | exact HB.out | apply yag | apply yaf | apply yah | refine yaj ?_ (Aside0.out ‹_›))⟩
     subst c34
     rw [if_pos rfl] at H
     obtain ⟨R3, A35, H⟩ := bindA H; (try dsimp only at H)
     by_cases c36 : R3 = true
     ·
      subst c36
      rw [if_pos rfl] at H
      obtain ⟨R4, A37, H⟩ := bindA H; (try dsimp only at H)
      by_cases c38 : R4 = true
      ·
       subst c38
       rw [if_pos rfl] at H
       obtain ⟨R5, A39, H⟩ := bindA H; (try dsimp only at H); obtain rfl := Option.some.inj H; have S8 := b2.out; have S9 := b3.out; obtain ⟨p7, p8, p9, q0, q1, q2, q3⟩ := cc7_ b1.out; obtain ⟨q4, q5, q6, q7, q8, q9, r0⟩ := cf7_ b1.out; obtain ⟨r1, r2, r3, r4, r5, r6, r7, r8⟩ := cc8_ b0.out; obtain ⟨r9, s0, s1, s2, s3, s4, s5, s6⟩ := cf8_ b0.out
       go_wp2_with (first | ((with_reducible refine gc_ 88 rfl ?_); refine gl_ (some 36) rfl Try.func88 #[.agg #[.slice A0_0 l0_0.length c0_0, .int .i64 a0_1, .int .i64 a0_2, .int .i64 a0_3, .int .i64 a0_4, .int .i64 a0_5, .int .i64 a0_6], .agg #[.int .i64 a1_0, .int .i64 a1_1, .int .i64 a1_2, .int .i64 a1_3, .slice A1_4 l1_4.length c1_4, .slice A1_5 l1_5.length c1_5, .slice A1_6 l1_6.length c1_6, .slice A1_7 l1_7.length c1_7]] ?_; (with_reducible refine (impl_jobsOk.calls kj23 _ _ l0_0 a0_1 a0_2 a0_3 a0_4 a0_5 a0_6 a1_0 a1_1 a1_2 a1_3 _ _ l1_4 _ _ l1_5 _ _ l1_6 _ _ l1_7 true _ ?side1 ?side2 ?side3 ?side4 ?side5 ?side6 ?side7 ?side8 ?side9 ?side10 A33.out).mono ?_); (case side1 => repeat (first | exact (yab HR0_0.out HB.out) | (with_reducible refine yac ?_ _) | (with_reducible refine yad ?_ _) | (with_reducible refine yae ?_))); (case side2 => exact HC0_0.out); (case side3 => repeat (first | exact (yab HR1_4.out HB.out) | (with_reducible refine yac ?_ _) | (with_reducible refine yad ?_ _) | (with_reducible refine yae ?_))); (case side4 => exact HC1_4.out); (case side5 => repeat (first | exact (yab HR1_5.out HB.out) | (with_reducible refine yac ?_ _) | (with_reducible refine yad ?_ _) | (with_reducible refine yae ?_))); (case side6 => exact HC1_5.out); (case side7 => repeat (first | exact (yab HR1_6.out HB.out) | (with_reducible refine yac ?_ _) | (with_reducible refine yad ?_ _) | (with_reducible refine yae ?_))); (case side8 => exact HC1_6.out); (case side9 => repeat (first | exact (yab HR1_7.out HB.out) | (with_reducible refine yac ?_ _) | (with_reducible refine yad ?_ _) | (with_reducible refine yae ?_))); (case side10 => exact HC1_7.out); rintro e w43 ⟨rfl, hb⟩; refine ⟨_, rfl, ?_⟩; replace b1 := yaa (yai (upB b1.out) hb); replace b0 := yaa (yai (upB b0.out) hb); replace HB := yaa (yak (by repeat (with_reducible first | exact HB.out | apply yag | apply yaf | apply yah | refine yaj ?_ (Aside0.out ‹_›))) hb); (try clear hb); obtain ⟨s7, s8, s9, t0, t1, t2, t3⟩ := cc7_ b1.out; obtain ⟨t4, t5, t6, t7, t8, t9, u0⟩ := cf7_ b1.out; obtain ⟨u1, u2, u3, u4, u5, u6, u7, u9⟩ := cc8_ b0.out; obtain ⟨v0, v1, v2, v3, v4, v5, v6⟩ := cf7_ b0.out; have v7 := blk_frozen b0.out 7) | (go_at_call 89; (with_reducible refine (impl_filesOk.calls kj23 _ _ l0_0 a0_1 a0_2 a0_3 a0_4 a0_5 a0_6 a1_0 a1_1 a1_2 a1_3 _ _ l1_4 _ _ l1_5 _ _ l1_6 _ _ l1_7 true _ ?side1 ?side2 ?side3 ?side4 ?side5 ?side6 ?side7 ?side8 ?side9 ?side10 A35.out).mono ?_); (case side1 => repeat (first | exact (yab HR0_0.out HB.out) | (with_reducible refine yac ?_ _) | (with_reducible refine yad ?_ _) | (with_reducible refine yae ?_))); (case side2 => exact HC0_0.out); (case side3 => repeat (first | exact (yab HR1_4.out HB.out) | (with_reducible refine yac ?_ _) | (with_reducible refine yad ?_ _) | (with_reducible refine yae ?_))); (case side4 => exact HC1_4.out); (case side5 => repeat (first | exact (yab HR1_5.out HB.out) | (with_reducible refine yac ?_ _) | (with_reducible refine yad ?_ _) | (with_reducible refine yae ?_))); (case side6 => exact HC1_5.out); (case side7 => repeat (first | exact (yab HR1_6.out HB.out) | (with_reducible refine yac ?_ _) | (with_reducible refine yad ?_ _) | (with_reducible refine yae ?_))); (case side8 => exact HC1_6.out); (case side9 => repeat (first | exact (yab HR1_7.out HB.out) | (with_reducible refine yac ?_ _) | (with_reducible refine yad ?_ _) | (with_reducible refine yae ?_))); (case side10 => exact HC1_7.out); rintro e w46 ⟨rfl, hb⟩; replace b1 := yaa (yai (upB b1.out) hb); replace b0 := yaa (yai (upB b0.out) hb); replace HB := yaa (yak (by repeat (with_reducible first | exact HB.out | apply yag | apply yaf | apply yah | refine yaj ?_ (Aside0.out ‹_›))) hb); (try clear hb); obtain ⟨v8, v9, w0, w1, w2, w3, w6, w7⟩ := cc8_ b0.out; obtain ⟨w8, w9, x0, x1, x2, x3, x4⟩ := cf7_ b0.out; have x5 := blk_frozen b0.out 7) | (go_at_call 90; (with_reducible refine (impl_askedOk.calls kj23 a1_0 a1_1 a1_2 a1_3 _ _ l1_4 _ _ l1_5 _ _ l1_6 _ _ l1_7 true _ ?side1 ?side2 ?side3 ?side4 ?side5 ?side6 ?side7 ?side8 A37.out).mono ?_); (case side1 => repeat (first | exact (yab HR1_4.out HB.out) | (with_reducible refine yac ?_ _) | (with_reducible refine yad ?_ _) | (with_reducible refine yae ?_))); (case side2 => exact HC1_4.out); (case side3 => repeat (first | exact (yab HR1_5.out HB.out) | (with_reducible refine yac ?_ _) | (with_reducible refine yad ?_ _) | (with_reducible refine yae ?_))); (case side4 => exact HC1_5.out); (case side5 => repeat (first | exact (yab HR1_6.out HB.out) | (with_reducible refine yac ?_ _) | (with_reducible refine yad ?_ _) | (with_reducible refine yae ?_))); (case side6 => exact HC1_6.out); (case side7 => repeat (first | exact (yab HR1_7.out HB.out) | (with_reducible refine yac ?_ _) | (with_reducible refine yad ?_ _) | (with_reducible refine yae ?_))); (case side8 => exact HC1_7.out); rintro e w48 ⟨rfl, hb⟩; replace b1 := yaa (yai (upB b1.out) hb); replace b0 := yaa (yai (upB b0.out) hb); replace HB := yaa (yak (by repeat (with_reducible first | exact HB.out | apply yag | apply yaf | apply yah | refine yaj ?_ (Aside0.out ‹_›))) hb); (try clear hb); obtain ⟨x6, x7, x8, x9, z0, z1, z2, z3⟩ := cc8_ b0.out; obtain ⟨z4, z5, z6, z7, z8, z9, A0⟩ := cf7_ b0.out; have A1 := blk_frozen b0.out 7) | (go_at_call 91; (with_reducible refine (impl_outsOk.calls kj23 a1_0 a1_1 a1_2 a1_3 _ _ l1_4 _ _ l1_5 _ _ l1_6 _ _ l1_7 R5 _ ?side1 ?side2 ?side3 ?side4 ?side5 ?side6 ?side7 ?side8 A39.out).mono ?_); (case side1 => repeat (first | exact (yab HR1_4.out HB.out) | (with_reducible refine yac ?_ _) | (with_reducible refine yad ?_ _) | (with_reducible refine yae ?_))); (case side2 => exact HC1_4.out); (case side3 => repeat (first | exact (yab HR1_5.out HB.out) | (with_reducible refine yac ?_ _) | (with_reducible refine yad ?_ _) | (with_reducible refine yae ?_))); (case side4 => exact HC1_5.out); (case side5 => repeat (first | exact (yab HR1_6.out HB.out) | (with_reducible refine yac ?_ _) | (with_reducible refine yad ?_ _) | (with_reducible refine yae ?_))); (case side6 => exact HC1_6.out); (case side7 => repeat (first | exact (yab HR1_7.out HB.out) | (with_reducible refine yac ?_ _) | (with_reducible refine yad ?_ _) | (with_reducible refine yae ?_))); (case side8 => exact HC1_7.out); rintro e w50 ⟨rfl, hb⟩; replace b1 := yaa (yai (upB b1.out) hb); replace b0 := yaa (yai (upB b0.out) hb); replace HB := yaa (yak (by repeat (with_reducible first | exact HB.out | apply yag | apply yaf | apply yah | refine yaj ?_ (Aside0.out ‹_›))) hb); (try clear hb)))
       go_ret
       exact ⟨by first | rfl | (simp [*, errW_none, errW_some] <;> rfl), by repeat (with_reducible first | exact HB.out | apply yag | apply yaf | apply yah | refine yaj ?_ (Aside0.out ‹_›))⟩
      replace c38 := Bool.eq_false_iff.mpr c38
      subst c38
      rw [if_neg (show ¬ (false = true) by decide)] at H
      obtain rfl := Option.some.inj H; have T0 := b2.out; have T1 := b3.out; obtain ⟨A2, A3, A4, A5, A7, A9, B0⟩ := cc7_ b1.out; obtain ⟨B1, B2, B3, B4, B5, B6, B7⟩ := cf7_ b1.out; obtain ⟨B8, B9, C0, C1, C2, C3, C4, C5⟩ := cc8_ b0.out; obtain ⟨C6, C7, C8, C9, D0, D1, D2, D3⟩ := cf8_ b0.out
      go_wp2_with (first | ((with_reducible refine gc_ 88 rfl ?_); refine gl_ (some 36) rfl Try.func88 #[.agg #[.slice A0_0 l0_0.length c0_0, .int .i64 a0_1, .int .i64 a0_2, .int .i64 a0_3, .int .i64 a0_4, .int .i64 a0_5, .int .i64 a0_6], .agg #[.int .i64 a1_0, .int .i64 a1_1, .int .i64 a1_2, .int .i64 a1_3, .slice A1_4 l1_4.length c1_4, .slice A1_5 l1_5.length c1_5, .slice A1_6 l1_6.length c1_6, .slice A1_7 l1_7.length c1_7]] ?_; (with_reducible refine (impl_jobsOk.calls kj23 _ _ l0_0 a0_1 a0_2 a0_3 a0_4 a0_5 a0_6 a1_0 a1_1 a1_2 a1_3 _ _ l1_4 _ _ l1_5 _ _ l1_6 _ _ l1_7 true _ ?side1 ?side2 ?side3 ?side4 ?side5 ?side6 ?side7 ?side8 ?side9 ?side10 A33.out).mono ?_); (case side1 => repeat (first | exact (yab HR0_0.out HB.out) | (with_reducible refine yac ?_ _) | (with_reducible refine yad ?_ _) | (with_reducible refine yae ?_))); (case side2 => exact HC0_0.out); (case side3 => repeat (first | exact (yab HR1_4.out HB.out) | (with_reducible refine yac ?_ _) | (with_reducible refine yad ?_ _) | (with_reducible refine yae ?_))); (case side4 => exact HC1_4.out); (case side5 => repeat (first | exact (yab HR1_5.out HB.out) | (with_reducible refine yac ?_ _) | (with_reducible refine yad ?_ _) | (with_reducible refine yae ?_))); (case side6 => exact HC1_5.out); (case side7 => repeat (first | exact (yab HR1_6.out HB.out) | (with_reducible refine yac ?_ _) | (with_reducible refine yad ?_ _) | (with_reducible refine yae ?_))); (case side8 => exact HC1_6.out); (case side9 => repeat (first | exact (yab HR1_7.out HB.out) | (with_reducible refine yac ?_ _) | (with_reducible refine yad ?_ _) | (with_reducible refine yae ?_))); (case side10 => exact HC1_7.out); rintro e w54 ⟨rfl, hb⟩; refine ⟨_, rfl, ?_⟩; replace b1 := yaa (yai (upB b1.out) hb); replace b0 := yaa (yai (upB b0.out) hb); replace HB := yaa (yak (by repeat (with_reducible first | exact HB.out | apply yag | apply yaf | apply yah | refine yaj ?_ (Aside0.out ‹_›))) hb); (try clear hb); obtain ⟨D4, D5, D6, D7, D8, D9, E0⟩ := cc7_ b1.out; obtain ⟨E1, E2, E3, E4, E5, E6, E7⟩ := cf7_ b1.out; obtain ⟨E8, E9, F0, F1, F2, F3, F4, F5⟩ := cc8_ b0.out; obtain ⟨F6, F7, F8, F9, G0, G1, G2⟩ := cf7_ b0.out; have G3 := blk_frozen b0.out 7) | (go_at_call 89; (with_reducible refine (impl_filesOk.calls kj23 _ _ l0_0 a0_1 a0_2 a0_3 a0_4 a0_5 a0_6 a1_0 a1_1 a1_2 a1_3 _ _ l1_4 _ _ l1_5 _ _ l1_6 _ _ l1_7 true _ ?side1 ?side2 ?side3 ?side4 ?side5 ?side6 ?side7 ?side8 ?side9 ?side10 A35.out).mono ?_); (case side1 => repeat (first | exact (yab HR0_0.out HB.out) | (with_reducible refine yac ?_ _) | (with_reducible refine yad ?_ _) | (with_reducible refine yae ?_))); (case side2 => exact HC0_0.out); (case side3 => repeat (first | exact (yab HR1_4.out HB.out) | (with_reducible refine yac ?_ _) | (with_reducible refine yad ?_ _) | (with_reducible refine yae ?_))); (case side4 => exact HC1_4.out); (case side5 => repeat (first | exact (yab HR1_5.out HB.out) | (with_reducible refine yac ?_ _) | (with_reducible refine yad ?_ _) | (with_reducible refine yae ?_))); (case side6 => exact HC1_5.out); (case side7 => repeat (first | exact (yab HR1_6.out HB.out) | (with_reducible refine yac ?_ _) | (with_reducible refine yad ?_ _) | (with_reducible refine yae ?_))); (case side8 => exact HC1_6.out); (case side9 => repeat (first | exact (yab HR1_7.out HB.out) | (with_reducible refine yac ?_ _) | (with_reducible refine yad ?_ _) | (with_reducible refine yae ?_))); (case side10 => exact HC1_7.out); rintro e w57 ⟨rfl, hb⟩; replace b1 := yaa (yai (upB b1.out) hb); replace b0 := yaa (yai (upB b0.out) hb); replace HB := yaa (yak (by repeat (with_reducible first | exact HB.out | apply yag | apply yaf | apply yah | refine yaj ?_ (Aside0.out ‹_›))) hb); (try clear hb); obtain ⟨G4, G5, G6, G7, G8, G9, H0, H1⟩ := cc8_ b0.out; obtain ⟨H2, H3, H4, H5, H6, H7, H8⟩ := cf7_ b0.out; have H9 := blk_frozen b0.out 7) | (go_at_call 90; (with_reducible refine (impl_askedOk.calls kj23 a1_0 a1_1 a1_2 a1_3 _ _ l1_4 _ _ l1_5 _ _ l1_6 _ _ l1_7 false _ ?side1 ?side2 ?side3 ?side4 ?side5 ?side6 ?side7 ?side8 A37.out).mono ?_); (case side1 => repeat (first | exact (yab HR1_4.out HB.out) | (with_reducible refine yac ?_ _) | (with_reducible refine yad ?_ _) | (with_reducible refine yae ?_))); (case side2 => exact HC1_4.out); (case side3 => repeat (first | exact (yab HR1_5.out HB.out) | (with_reducible refine yac ?_ _) | (with_reducible refine yad ?_ _) | (with_reducible refine yae ?_))); (case side4 => exact HC1_5.out); (case side5 => repeat (first | exact (yab HR1_6.out HB.out) | (with_reducible refine yac ?_ _) | (with_reducible refine yad ?_ _) | (with_reducible refine yae ?_))); (case side6 => exact HC1_6.out); (case side7 => repeat (first | exact (yab HR1_7.out HB.out) | (with_reducible refine yac ?_ _) | (with_reducible refine yad ?_ _) | (with_reducible refine yae ?_))); (case side8 => exact HC1_7.out); rintro e w59 ⟨rfl, hb⟩; replace b1 := yaa (yai (upB b1.out) hb); replace b0 := yaa (yai (upB b0.out) hb); replace HB := yaa (yak (by repeat (with_reducible first | exact HB.out | apply yag | apply yaf | apply yah | refine yaj ?_ (Aside0.out ‹_›))) hb); (try clear hb)))
      go_ret
      exact ⟨by first | rfl | (simp [*, errW_none, errW_some] <;> rfl), by repeat (with_reducible first | exact HB.out | apply yag | apply yaf | apply yah | refine yaj ?_ (Aside0.out ‹_›))⟩
     replace c36 := Bool.eq_false_iff.mpr c36
     subst c36
     rw [if_neg (show ¬ (false = true) by decide)] at H
     obtain rfl := Option.some.inj H; have T2 := b2.out; have T3 := b3.out; obtain ⟨I0, I1, I2, I3, I4, I5, I6⟩ := cc7_ b1.out; obtain ⟨I7, I8, I9, J0, J1, J2, J3⟩ := cf7_ b1.out; obtain ⟨J4, J5, J6, J7, J8, J9, K0, K1⟩ := cc8_ b0.out; obtain ⟨K2, K3, K4, K5, K6, K7, K8, K9⟩ := cf8_ b0.out
     go_wp2_with (first | ((with_reducible refine gc_ 88 rfl ?_); refine gl_ (some 36) rfl Try.func88 #[.agg #[.slice A0_0 l0_0.length c0_0, .int .i64 a0_1, .int .i64 a0_2, .int .i64 a0_3, .int .i64 a0_4, .int .i64 a0_5, .int .i64 a0_6], .agg #[.int .i64 a1_0, .int .i64 a1_1, .int .i64 a1_2, .int .i64 a1_3, .slice A1_4 l1_4.length c1_4, .slice A1_5 l1_5.length c1_5, .slice A1_6 l1_6.length c1_6, .slice A1_7 l1_7.length c1_7]] ?_; (with_reducible refine (impl_jobsOk.calls kj23 _ _ l0_0 a0_1 a0_2 a0_3 a0_4 a0_5 a0_6 a1_0 a1_1 a1_2 a1_3 _ _ l1_4 _ _ l1_5 _ _ l1_6 _ _ l1_7 true _ ?side1 ?side2 ?side3 ?side4 ?side5 ?side6 ?side7 ?side8 ?side9 ?side10 A33.out).mono ?_); (case side1 => repeat (first | exact (yab HR0_0.out HB.out) | (with_reducible refine yac ?_ _) | (with_reducible refine yad ?_ _) | (with_reducible refine yae ?_))); (case side2 => exact HC0_0.out); (case side3 => repeat (first | exact (yab HR1_4.out HB.out) | (with_reducible refine yac ?_ _) | (with_reducible refine yad ?_ _) | (with_reducible refine yae ?_))); (case side4 => exact HC1_4.out); (case side5 => repeat (first | exact (yab HR1_5.out HB.out) | (with_reducible refine yac ?_ _) | (with_reducible refine yad ?_ _) | (with_reducible refine yae ?_))); (case side6 => exact HC1_5.out); (case side7 => repeat (first | exact (yab HR1_6.out HB.out) | (with_reducible refine yac ?_ _) | (with_reducible refine yad ?_ _) | (with_reducible refine yae ?_))); (case side8 => exact HC1_6.out); (case side9 => repeat (first | exact (yab HR1_7.out HB.out) | (with_reducible refine yac ?_ _) | (with_reducible refine yad ?_ _) | (with_reducible refine yae ?_))); (case side10 => exact HC1_7.out); rintro e w63 ⟨rfl, hb⟩; refine ⟨_, rfl, ?_⟩; replace b1 := yaa (yai (upB b1.out) hb); replace b0 := yaa (yai (upB b0.out) hb); replace HB := yaa (yak (by repeat (with_reducible first | exact HB.out | apply yag | apply yaf | apply yah | refine yaj ?_ (Aside0.out ‹_›))) hb); (try clear hb); obtain ⟨L0, L1, L2, L3, L4, L5, L6⟩ := cc7_ b1.out; obtain ⟨L7, L8, L9, M0, M1, M2, M3⟩ := cf7_ b1.out; obtain ⟨M4, M5, M6, M7, M8, M9, N0, N1⟩ := cc8_ b0.out; obtain ⟨N2, N3, N4, N5, N6, N7, N8⟩ := cf7_ b0.out; have N9 := blk_frozen b0.out 7) | (go_at_call 89; (with_reducible refine (impl_filesOk.calls kj23 _ _ l0_0 a0_1 a0_2 a0_3 a0_4 a0_5 a0_6 a1_0 a1_1 a1_2 a1_3 _ _ l1_4 _ _ l1_5 _ _ l1_6 _ _ l1_7 false _ ?side1 ?side2 ?side3 ?side4 ?side5 ?side6 ?side7 ?side8 ?side9 ?side10 A35.out).mono ?_); (case side1 => repeat (first | exact (yab HR0_0.out HB.out) | (with_reducible refine yac ?_ _) | (with_reducible refine yad ?_ _) | (with_reducible refine yae ?_))); (case side2 => exact HC0_0.out); (case side3 => repeat (first | exact (yab HR1_4.out HB.out) | (with_reducible refine yac ?_ _) | (with_reducible refine yad ?_ _) | (with_reducible refine yae ?_))); (case side4 => exact HC1_4.out); (case side5 => repeat (first | exact (yab HR1_5.out HB.out) | (with_reducible refine yac ?_ _) | (with_reducible refine yad ?_ _) | (with_reducible refine yae ?_))); (case side6 => exact HC1_5.out); (case side7 => repeat (first | exact (yab HR1_6.out HB.out) | (with_reducible refine yac ?_ _) | (with_reducible refine yad ?_ _) | (with_reducible refine yae ?_))); (case side8 => exact HC1_6.out); (case side9 => repeat (first | exact (yab HR1_7.out HB.out) | (with_reducible refine yac ?_ _) | (with_reducible refine yad ?_ _) | (with_reducible refine yae ?_))); (case side10 => exact HC1_7.out); rintro e w66 ⟨rfl, hb⟩; replace b1 := yaa (yai (upB b1.out) hb); replace b0 := yaa (yai (upB b0.out) hb); replace HB := yaa (yak (by repeat (with_reducible first | exact HB.out | apply yag | apply yaf | apply yah | refine yaj ?_ (Aside0.out ‹_›))) hb); (try clear hb)))
     go_ret
     exact ⟨by first | rfl | (simp [*, errW_none, errW_some] <;> rfl), by repeat (with_reducible first | exact HB.out | apply yag | apply yaf | apply yah | refine yaj ?_ (Aside0.out ‹_›))⟩
end
section
open Go.Proofs.Ytgpkkkmapgnhkaa.X renaming rd_T63 → yaa, rd_T24 → yad
open Go.Proofs.YtgpkkkmapgnhkaaW.PrintWords.Aside0 renaming mk → yab
open Go.Proofs.YtgpkkkmapgnhkaaW.PrintWords renaming blk_cell → yac
open Go.Proofs.YtgpkkkmapgnhkaaW.PrintWords.Kd renaming C_below → yae, C_alloc → yaf, C_drewN → yag
abbrev q59_0 : Array Bool := Array.replicate 16 false
abbrev q59_1 : Array Bool := bl_ 16 1
abbrev q59_2 : Array Bool := bl_ 16 3
abbrev q59_3 : Array Bool := bl_ 16 7
abbrev q59_4 : Array Bool := bl_ 16 15
abbrev q59_5 : Array Bool := bl_ 16 31
abbrev q59_6 : Array Bool := bl_ 16 63
abbrev q59_7 : Array Bool := bl_ 16 127
abbrev q59_8 : Array Bool := bl_ 16 255
abbrev q59_9 : Array Bool := bl_ 16 511
abbrev q59_10 : Array Bool := bl_ 16 1535
abbrev q59_11 : Array Bool := bl_ 16 3583
abbrev q59_12 : Array Bool := bl_ 16 7679
abbrev q59_13 : Array Bool := bl_ 16 8191
abbrev q59_14 : Array Bool := bl_ 16 16383
abbrev q59_15 : Array Bool := bl_ 16 32767
abbrev q59_16 : Array Bool := bl_ 16 65535
abbrev q59_17 : Array Bool := bl_ 16 1023
abbrev q59_18 : Array Bool := bl_ 16 2047
abbrev q59_19 : Array Bool := bl_ 16 4095
mutual
def impl_HouOk.j0 : Nat → List (S24) → List (S63) → Bool → Option (Bool)
 | 0, _, _, _ => none
 | k + 1, x0, x1, x14 => if x14 = true then (some false) else (impl_HouOk.l0 k x0 x1 x1 (x1.length : Int) 0)
def impl_HouOk.l0 : Nat → List (S24) → List (S63) → List (S63) → Int → Int → Option (Bool)
 | 0, _, _, _, _, _ => none
 | k + 1, x0, x1, x15, x16, x17 => if x17 < x16 then (if 0 ≤ x17 then (if x17 < (x15.length : Int) then (if x17 < (x0.length : Int) then ((impl_TenOk.f k ((rd_T24 x0 x17).f0) ((rd_T24 x0 x17).f1) ((rd_T24 x0 x17).f2) ((rd_T24 x0 x17).f3) ((rd_T24 x0 x17).f4) ((rd_T24 x0 x17).f5) ((rd_T24 x0 x17).f6) ((rd_T63 x15 x17).f0) ((rd_T63 x15 x17).f1) ((rd_T63 x15 x17).f2) ((rd_T63 x15 x17).f3) ((rd_T63 x15 x17).f4) ((rd_T63 x15 x17).f5) ((rd_T63 x15 x17).f6) ((rd_T63 x15 x17).f7)).bind fun t104 => (if t104 = true then (if 0 < (x1.length : Int) then (if ((rd_T63 x15 x17).f0) = ((rd_T63 x1 0).f0) then (impl_HouOk.l0 k x0 x1 x15 x16 (wrap64 (x17 + 1))) else (some false)) else (none)) else (some false))) else (none)) else (none)) else (none)) else (some true)
end
def impl_HouOk.f (k : Nat) (l0 : List (S24)) (l1 : List (S63)) : Option (Bool) := if (l0.length : Int) = 3 then (impl_HouOk.j0 k l0 l1 ((l1.length : Int) != 3)) else (impl_HouOk.j0 k l0 l1 true)
def impl_HouOk.T6 : Bool × List (List Nat × List Nat) := (true, [([], []), ([], []), ([0, 1], [0, 1]), ([2], [2]), ([], []), ([3, 4], [3, 4]), ([5], [5]), ([6, 5], [6]), ([7], [7]), ([8, 7], [7, 8]), ([7], [7]), ([10, 7], [7, 10]), ([11, 7], [7, 11]), ([12, 7], [7, 12]), ([9, 13, 7], [7, 9, 13]), ([7, 14], [7, 14])])
def impl_HouOk.B6 : List Nat := [0, 0, 3, 7, 0, 31, 63, 127, 255, 511, 255, 1279, 3327, 7423, 16383, 32767]
theorem impl_HouOk.tab6 : rtab .any (opsOf Try.f59 6) = impl_HouOk.T6 := by kernel_rfl
theorem impl_HouOk.bits6 : waitsOk impl_HouOk.T6.2 impl_HouOk.B6 = true := by kernel_rfl
set_option maxHeartbeats 8000000 in
set_option maxRecDepth 100000 in
theorem impl_HouOk.calls (k : Nat) (A0 : Option Addr) (c0 : Nat) (l0 : List (S24)) (A1 : Option Addr) (c1 : Nat) (l1 : List (S63)) (r : Bool) (w : World) (hr0 : Kd.C k24 w A0 l0.length l0) (hc0 : l0.length ≤ c0) (hr1 : Kd.C k63 w A1 l1.length l1) (hc1 : l1.length ≤ c1) (h : impl_HouOk.f k l0 l1 = some r) :
  Calls Try.prog 59 #[.slice A0 l0.length c0, .slice A1 l1.length c1] w fun e w' => e = .returned (.bool r) ∧ Below w.heap.size w w' := by
 have hu63 := Try.underlying63; have hu24 := Try.underlying24; have HR0 := yab hr0; have HC0 := yab hc0; clear hr0 hc0; have HR1 := yab hr1; have HC1 := yab hc1; clear hr1 hc1; have HB := yab (Below.refl w.heap.size w); have H : (if (l0.length : Int) = 3 then (impl_HouOk.j0 k l0 l1 ((l1.length : Int) != 3)) else (impl_HouOk.j0 k l0 l1 true)) = some r := h; clear h; have HC3 := yab H; clear H
 go_enter Try.func59, Try.ntmps59
 go_upto_region 1 with (fail)
 go_cut [14] (fun v14 wc => ∃ (kq : Nat) (h9 : Bool), v14 = .bool h9 ∧ Aside0 (impl_HouOk.j0 kq l0 l1 h9 = some r) ∧ Aside0 (kq ≤ k) ∧ Aside0 (Below w.heap.size w wc))
 case first =>
  have H := HC3.out; clear HC3
  by_cases c4 : (l0.length : Int) = 3
  ·
   rw [if_pos c4] at H
   have h0 := beq_iff_eq.mpr c4; have i3 := bne_eq_false_iff_eq.mpr c4; clear c4
   (first | rw [h0] | (simp only [i64_w, i32_w]; rw [h0]) | skip)
   have H' := yab H; clear H
   go_wp2
   go_meet
   case rel => exact ⟨_, (((l1.length : Int) != 3)), (by first | rfl | (simp; done) | (simp [*]; done)), H', ⟨by first | omega | exact Nat.le_refl _⟩, ⟨upH HB.out⟩⟩
  rw [if_neg c4] at H
  have h0 := beq_eq_false_iff_ne.mpr c4; have i3 := bne_iff_ne.mpr c4
  (first | rw [h0] | (simp only [i64_w, i32_w]; rw [h0]) | skip)
  have H' := yab H; clear H
  go_wp2
  go_meet
  case rel => exact ⟨_, (true), (by first | rfl | (simp; done) | (simp [*]; done)), H', ⟨by first | omega | exact Nat.le_refl _⟩, ⟨upH HB.out⟩⟩
 case rest =>
  clear HC3; (try clear c1); (try clear p2); (try clear c4); (try clear h0); (try clear i3); obtain ⟨kq, h9, rfl, HA, HJ2, HB⟩ := hcut
  cases kq with
  | zero => exact absurd HA.out (by simp [impl_HouOk.j0])
  | succ kj2 =>
   have H := HA.out; clear HA
   simp only [impl_HouOk.j0] at H
   by_cases c5 : h9 = true
   ·
    subst c5
    rw [if_pos rfl] at H
    obtain rfl := Option.some.inj H
    go_wp2
    go_ret
    exact ⟨by first | rfl | (simp [*, errW_none, errW_some] <;> rfl), upH HB.out⟩
   replace c5 := Bool.eq_false_iff.mpr c5
   subst c5
   rw [if_neg (show ¬ (false = true) by decide)] at H
   have H' := yab H; clear H
   go_wp2
   (try simp only [Act.put, List.setIfInBounds_toArray, List.set_cons_zero, List.set_cons_succ])
   go_loopg [17] kj2 (fun kq v17 w' => ∃ (a2 : Int), v17 = .int .i64 a2 ∧ Aside0 (impl_HouOk.l0 kq l0 l1 l1 (l1.length : Int) a2 = some r) ∧ Aside0 (kq ≤ kj2) ∧ Aside0 (Below w.heap.size w w'))
   case atStart => exact ⟨(0), (by first | rfl | (simp; done) | (simp [*]; done)), H', ⟨Nat.le_refl _⟩, ⟨upH HB.out⟩⟩
   case round =>
    clear H'; (try clear c1); (try clear p2); (try clear c4); (try clear h0); (try clear i3); (try clear c5); (try clear p2); obtain ⟨a2, rfl, HA, HK2, HB⟩ := hrel
    cases gk with
    | zero => exact absurd HA.out (by simp [impl_HouOk.l0])
    | succ k2 =>
     have H := HA.out; clear HA
     simp only [impl_HouOk.l0] at H
     by_cases c6 : a2 < (l1.length : Int)
     rotate_left
     ·
      rw [if_neg c6] at H
      have o1 : decide (a2 < (l1.length : Int)) = false := decide_eq_false c6; clear c6; obtain rfl := Option.some.inj H
      go_wp2
      go_ret
      exact ⟨by first | rfl | (simp [*, errW_none, errW_some] <;> rfl), upH HB.out⟩
     rw [if_pos c6] at H
     have o1 : decide (a2 < (l1.length : Int)) = true := decide_eq_true c6; clear c6
     by_cases c7 : 0 ≤ a2
     rotate_left
     ·
      rw [if_neg c7] at H
      exact absurd H (by simp)
     rw [if_pos c7] at H
     replace c7 := decide_eq_true c7
     by_cases c8 : a2 < (l1.length : Int)
     rotate_left
     ·
      rw [if_neg c8] at H
      exact absurd H (by simp)
     rw [if_pos c8] at H
     replace c8 := decide_eq_true c8
     by_cases c9 : a2 < (l0.length : Int)
     rotate_left
     ·
      rw [if_neg c9] at H
      exact absurd H (by simp)
     rw [if_pos c9] at H
     replace c9 := decide_eq_true c9; obtain ⟨o2, A10, H⟩ := bindA H; (try dsimp only at H)
     by_cases c11 : o2 = true
     rotate_left
     ·
      replace c11 := Bool.eq_false_iff.mpr c11
      subst c11
      rw [if_neg (show ¬ (false = true) by decide)] at H
      obtain rfl := Option.some.inj H; have p101 : 0 ≤ (a2 : Int) := of_decide_eq_true (by assumption); have q101 : a2 < (l1.length : Int) := of_decide_eq_true (by assumption); obtain ⟨ad101, a5, a6, a7, a8, d2, d3, d4, d5, i0, e4, e5, e6, e7, e8, e9, f8, f9, hl101_4, hi101_4, hl101_5, hi101_5, hl101_6, hi101_6, hl101_7, hi101_7⟩ := at_T63 HR1.out a2 p101 q101
      cases i0
      replace e4 := (upc_ HB.out e4 :); replace e5 := (upc_ HB.out e5 :); replace e6 := (upc_ HB.out e6 :); replace e7 := (upc_ HB.out e7 :); replace e8 := (upc_ HB.out e8 :); replace e9 := (upc_ HB.out e9 :); replace f8 := (upc_ HB.out f8 :); replace f9 := (upc_ HB.out f9 :); have HR101_4 := yab hi101_4; have HC101_4 := yab hl101_4; clear hi101_4 hl101_4; have HR101_5 := yab hi101_5; have HC101_5 := yab hl101_5; clear hi101_5 hl101_5; have HR101_6 := yab hi101_6; have HC101_6 := yab hl101_6; clear hi101_6 hl101_6; have HR101_7 := yab hi101_7; have HC101_7 := yab hl101_7; clear hi101_7 hl101_7; replace p101 := eq_true p101; replace q101 := eq_true q101
      try go_wp2_with (first | ((with_reducible refine gd_ 6 rfl ?_); (try (refine gate_guard (by rfl) ?_; dsimp only)); refine bx_ 6 rfl #[.int .i64 0, .int .i64 0, .int .i64 0, .int .i64 0, .slice none 0 0, .slice none 0 0, .slice none 0 0, .slice none 0 0] 63 ?_; intro a4 hg w24 hbox hb; have a3 := yab (hbox); have g9 := yab ((by rw [hg]; exact (below_size (upH HB.out)) : w.heap.size ≤ a4)); replace HB := yab (below_step (upH HB.out) hb); have i2 := g9; clear hb hbox hg; obtain ⟨m5, m6, m7, m8, m9, n0, n1, n2⟩ := cc8_ a3.out; obtain ⟨n3, n4, n5, n6, n7, n8, n9⟩ := cf7_ a3.out; have o0 := blk_frozen a3.out 7))
      generalize hg_ : ((((((((w24.setCell ⟨a4, 0, none⟩ (.int .i64 ((yaa l1 a2).f0))).setCell ⟨a4, 1, none⟩ (.int .i64 ((yaa l1 a2).f1))).setCell ⟨a4, 2, none⟩ (.int .i64 ((yaa l1 a2).f2))).setCell ⟨a4, 3, none⟩ (.int .i64 ((yaa l1 a2).f3))).setCell ⟨a4, 4, none⟩ (.slice a5 ((yaa l1 a2).f4).length a6)).setCell ⟨a4, 5, none⟩ (.slice a7 ((yaa l1 a2).f5).length a8)).setCell ⟨a4, 6, none⟩ (.slice d2 ((yaa l1 a2).f6).length d3)).setCell ⟨a4, 7, none⟩ (.slice d4 ((yaa l1 a2).f7).length d5)) = w26
      replace a3 : Aside0 (w26.heap[a4]? = some (.cells #[.int .i64 ((yaa l1 a2).f0), .int .i64 ((yaa l1 a2).f1), .int .i64 ((yaa l1 a2).f2), .int .i64 ((yaa l1 a2).f3), .slice a5 ((yaa l1 a2).f4).length a6, .slice a7 ((yaa l1 a2).f5).length a8, .slice d2 ((yaa l1 a2).f6).length d3, .slice d4 ((yaa l1 a2).f7).length d5] 63 (0, 0))) := ⟨by subst hg_; (repeat refine oneB ?_); refine blk_put (cs := #[.int .i64 ((yaa l1 a2).f0), .int .i64 ((yaa l1 a2).f1), .int .i64 ((yaa l1 a2).f2), .int .i64 ((yaa l1 a2).f3), .slice a5 ((yaa l1 a2).f4).length a6, .slice a7 ((yaa l1 a2).f5).length a8, .slice d2 ((yaa l1 a2).f6).length d3, .slice none 0 0]) ?_ 7 _ rfl; refine blk_put (cs := #[.int .i64 ((yaa l1 a2).f0), .int .i64 ((yaa l1 a2).f1), .int .i64 ((yaa l1 a2).f2), .int .i64 ((yaa l1 a2).f3), .slice a5 ((yaa l1 a2).f4).length a6, .slice a7 ((yaa l1 a2).f5).length a8, .slice none 0 0, .slice none 0 0]) ?_ 6 _ rfl; refine blk_put (cs := #[.int .i64 ((yaa l1 a2).f0), .int .i64 ((yaa l1 a2).f1), .int .i64 ((yaa l1 a2).f2), .int .i64 ((yaa l1 a2).f3), .slice a5 ((yaa l1 a2).f4).length a6, .slice none 0 0, .slice none 0 0, .slice none 0 0]) ?_ 5 _ rfl; refine blk_put (cs := #[.int .i64 ((yaa l1 a2).f0), .int .i64 ((yaa l1 a2).f1), .int .i64 ((yaa l1 a2).f2), .int .i64 ((yaa l1 a2).f3), .slice none 0 0, .slice none 0 0, .slice none 0 0, .slice none 0 0]) ?_ 4 _ rfl; refine blk_put (cs := #[.int .i64 ((yaa l1 a2).f0), .int .i64 ((yaa l1 a2).f1), .int .i64 ((yaa l1 a2).f2), .int .i64 0, .slice none 0 0, .slice none 0 0, .slice none 0 0, .slice none 0 0]) ?_ 3 _ rfl; refine blk_put (cs := #[.int .i64 ((yaa l1 a2).f0), .int .i64 ((yaa l1 a2).f1), .int .i64 0, .int .i64 0, .slice none 0 0, .slice none 0 0, .slice none 0 0, .slice none 0 0]) ?_ 2 _ rfl; refine blk_put (cs := #[.int .i64 ((yaa l1 a2).f0), .int .i64 0, .int .i64 0, .int .i64 0, .slice none 0 0, .slice none 0 0, .slice none 0 0, .slice none 0 0]) ?_ 1 _ rfl; refine blk_put (cs := #[.int .i64 0, .int .i64 0, .int .i64 0, .int .i64 0, .slice none 0 0, .slice none 0 0, .slice none 0 0, .slice none 0 0]) ?_ 0 _ rfl; exact upB a3.out⟩
      replace HB : Aside0 (Below w.heap.size w w26) := ⟨by subst hg_; repeat (with_reducible first | exact HB.out | apply below_alloc | apply pw_below_drewN | apply below_drew1 | refine below_set ?_ (Aside0.out ‹_›))⟩
      clear hg_; replace a3 := yab (blk_drew a3.out); replace HB := yab (below_drew1 HB.out); have p103 : 0 ≤ (a2 : Int) := of_decide_eq_true (by assumption); have q103 : a2 < (l0.length : Int) := of_decide_eq_true (by assumption); obtain ⟨ad103, g7, g8, i1, b7, b8, b9, c2, c3, d0, d1, hl103_0, hi103_0⟩ := at_T24 HR0.out a2 p103 q103; have g0 := d1; have g1 := d0; have g2 := c3; have g3 := c2; have g4 := b9; have g5 := b8; have g6 := b7
      cases i1
      replace b7 := (upc_ HB.out b7 :); replace b8 := (upc_ HB.out b8 :); replace b9 := (upc_ HB.out b9 :); replace c2 := (upc_ HB.out c2 :); replace c3 := (upc_ HB.out c3 :); replace d0 := (upc_ HB.out d0 :); replace d1 := (upc_ HB.out d1 :); have HR103_0 := yab hi103_0; have HC103_0 := yab hl103_0; clear hi103_0 hl103_0; replace p103 := eq_true p103; replace q103 := eq_true q103
      refine start_ (n := 16) (S := fun w' => w'.cell? ⟨a4, 0, none⟩ = some (.int .i64 ((yaa l1 a2).f0)) ∧ w'.cell? ⟨a4, 1, none⟩ = some (.int .i64 ((yaa l1 a2).f1)) ∧ w'.cell? ⟨a4, 2, none⟩ = some (.int .i64 ((yaa l1 a2).f2)) ∧ w'.cell? ⟨a4, 3, none⟩ = some (.int .i64 ((yaa l1 a2).f3)) ∧ w'.cell? ⟨a4, 4, none⟩ = some (.slice a5 ((yaa l1 a2).f4).length a6) ∧ w'.cell? ⟨a4, 5, none⟩ = some (.slice a7 ((yaa l1 a2).f5).length a8) ∧ w'.cell? ⟨a4, 6, none⟩ = some (.slice d2 ((yaa l1 a2).f6).length d3) ∧ w'.cell? ⟨a4, 7, none⟩ = some (.slice d4 ((yaa l1 a2).f7).length d5) ∧ w'.cell? (ad103.add ((a2).toNat * 7)) = some (.slice g7 ((yad l0 a2).f0).length g8) ∧ w'.cell? ⟨(ad103.add ((a2).toNat * 7)).block, (ad103.add ((a2).toNat * 7)).off + 1, none⟩ = some (.int .i64 ((yad l0 a2).f1)) ∧ w'.cell? ⟨(ad103.add ((a2).toNat * 7)).block, (ad103.add ((a2).toNat * 7)).off + 2, none⟩ = some (.int .i64 ((yad l0 a2).f2)) ∧ w'.cell? ⟨(ad103.add ((a2).toNat * 7)).block, (ad103.add ((a2).toNat * 7)).off + 3, none⟩ = some (.int .i64 ((yad l0 a2).f3)) ∧ w'.cell? ⟨(ad103.add ((a2).toNat * 7)).block, (ad103.add ((a2).toNat * 7)).off + 4, none⟩ = some (.int .i64 ((yad l0 a2).f4)) ∧ w'.cell? ⟨(ad103.add ((a2).toNat * 7)).block, (ad103.add ((a2).toNat * 7)).off + 5, none⟩ = some (.int .i64 ((yad l0 a2).f5)) ∧ w'.cell? ⟨(ad103.add ((a2).toNat * 7)).block, (ad103.add ((a2).toNat * 7)).off + 6, none⟩ = some (.int .i64 ((yad l0 a2).f6))) (ds := []) q59_0 (by kernel_rfl) rfl rfl ⟨(yac a3.out 0).trans rfl, (yac a3.out 1).trans rfl, (yac a3.out 2).trans rfl, (yac a3.out 3).trans rfl, (yac a3.out 4).trans rfl, (yac a3.out 5).trans rfl, (yac a3.out 6).trans rfl, (yac a3.out 7).trans rfl, (upc_ HB.out g6 :), (upc_ HB.out g5 :), (upc_ HB.out g4 :), (upc_ HB.out g3 :), (upc_ HB.out g2 :), (upc_ HB.out g1 :), (upc_ HB.out g0 :)⟩ (fun hHeld => ?_); refine with_tabW impl_HouOk.tab6 impl_HouOk.bits6 (fun HT_ HW_ => ?_)
      generalize w26.drew = w27 at a3 HB HR103_0 b7 b8 b9 c2 c3 d0 d1 hHeld ⊢
      refine pz_ 0 22 q59_1 HT_ (by kernel_rfl) ?_
      refine pz_ 1 23 q59_2 HT_ (by kernel_rfl) ?_
      refine pz_ 2 24 q59_3 HT_ (by kernel_rfl) ?_
      refine tz_ 3 25 q59_4 HT_ HW_ (by kernel_rfl) hHeld ?_
      refine tz_ 4 26 q59_5 HT_ HW_ (by kernel_rfl) hHeld ?_
      refine one_ (i := 5) (N := some 27) q59_6 rfl rfl (one_of HT_.out (by kernel_rfl)) (by decide) (fun K hK => ?_)
      refine goes_ Try.func39 (by kernel_rfl) rfl #[.agg #[.slice g7 ((yad l0 a2).f0).length g8, .int .i64 ((yad l0 a2).f1), .int .i64 ((yad l0 a2).f2), .int .i64 ((yad l0 a2).f3), .int .i64 ((yad l0 a2).f4), .int .i64 ((yad l0 a2).f5), .int .i64 ((yad l0 a2).f6)], .agg #[.int .i64 ((yaa l1 a2).f0), .int .i64 ((yaa l1 a2).f1), .int .i64 ((yaa l1 a2).f2), .int .i64 ((yaa l1 a2).f3), .slice a5 ((yaa l1 a2).f4).length a6, .slice a7 ((yaa l1 a2).f5).length a8, .slice d2 ((yaa l1 a2).f6).length d3, .slice d4 ((yaa l1 a2).f7).length d5]] (by rfl) rfl rfl (by (try simp only [List.map_toArray, List.map_cons, List.map_nil]); first | done | rfl | (simp only [List.length_drop, List.length_take]; rfl)) ?_
      with_reducible refine (impl_TenOk.calls k2 _ _ ((yad l0 a2).f0) ((yad l0 a2).f1) ((yad l0 a2).f2) ((yad l0 a2).f3) ((yad l0 a2).f4) ((yad l0 a2).f5) ((yad l0 a2).f6) ((yaa l1 a2).f0) ((yaa l1 a2).f1) ((yaa l1 a2).f2) ((yaa l1 a2).f3) _ _ ((yaa l1 a2).f4) _ _ ((yaa l1 a2).f5) _ _ ((yaa l1 a2).f6) _ _ ((yaa l1 a2).f7) false _ ?side1 ?side2 ?side3 ?side4 ?side5 ?side6 ?side7 ?side8 ?side9 ?side10 A10.out).mono ?_
      (case side1 => repeat (first | exact (yae HR103_0.out HB.out) | (with_reducible refine yaf ?_ _) | (with_reducible refine yag ?_ _) | (with_reducible refine Kd.C_drew ?_)))
      (case side2 => exact HC103_0.out)
      (case side3 => repeat (first | exact (yae HR101_4.out HB.out) | (with_reducible refine yaf ?_ _) | (with_reducible refine yag ?_ _) | (with_reducible refine Kd.C_drew ?_)))
      (case side4 => exact HC101_4.out)
      (case side5 => repeat (first | exact (yae HR101_5.out HB.out) | (with_reducible refine yaf ?_ _) | (with_reducible refine yag ?_ _) | (with_reducible refine Kd.C_drew ?_)))
      (case side6 => exact HC101_5.out)
      (case side7 => repeat (first | exact (yae HR101_6.out HB.out) | (with_reducible refine yaf ?_ _) | (with_reducible refine yag ?_ _) | (with_reducible refine Kd.C_drew ?_)))
      (case side8 => exact HC101_6.out)
      (case side9 => repeat (first | exact (yae HR101_7.out HB.out) | (with_reducible refine yaf ?_ _) | (with_reducible refine yag ?_ _) | (with_reducible refine Kd.C_drew ?_)))
      (case side10 => exact HC101_7.out)
      rintro e w28 ⟨rfl, hb⟩; refine ⟨_, rfl, ?_⟩; have n0_ := yab (blk_below (upB a3.out) hb)
      have n1_ := yab (below_step (by repeat (with_reducible first | exact HB.out | apply below_alloc | apply pw_below_drewN | apply below_drew1 | refine below_set ?_ (Aside0.out ‹_›))) hb)
      clear a3; clear HB; have a3 := n0_; have HB := n1_; clear n0_ n1_; (try clear hb); (try clear hb2); (try clear hk); (try clear hi)
      refine hK.out _ _ ⟨(yac a3.out 0).trans rfl, (yac a3.out 1).trans rfl, (yac a3.out 2).trans rfl, (yac a3.out 3).trans rfl, (yac a3.out 4).trans rfl, (yac a3.out 5).trans rfl, (yac a3.out 6).trans rfl, (yac a3.out 7).trans rfl, (upc_ HB.out g6 :), (upc_ HB.out g5 :), (upc_ HB.out g4 :), (upc_ HB.out g3 :), (upc_ HB.out g2 :), (upc_ HB.out g1 :), (upc_ HB.out g0 :)⟩ (fun hHeld => ?_)
      clear hK K
      refine norm_ (a' := ?_) ?_ ?_
      rotate_left
      ·
       show Act.put _ (some 27) _ = _
       simp only [Act.put, List.setIfInBounds_toArray, List.set_cons_zero, List.set_cons_succ, i64_w, i32_w]
       rfl
      refine pz_ 6 28 q59_7 HT_ (by kernel_rfl) ?_
      refine pz_ 7 29 q59_8 HT_ (by kernel_rfl) ?_
      refine pu_ 8 30 q59_9 HT_ (by kernel_rfl) ?_
      refine pu_ 9 31 q59_17 HT_ (by kernel_rfl) ?_
      refine pu_ 10 32 q59_18 HT_ (by kernel_rfl) ?_
      refine pu_ 11 33 q59_19 HT_ (by kernel_rfl) ?_
      refine pu_ 12 34 q59_13 HT_ (by kernel_rfl) ?_
      refine pu_ 13 35 q59_14 HT_ (by kernel_rfl) ?_
      refine pu_ 14 36 q59_15 HT_ (by kernel_rfl) ?_
      refine pz_ 15 37 q59_16 HT_ (by kernel_rfl) ?_
      refine done_ (done_of HT_.out (by kernel_rfl)) ?_
      try go_wp2
      go_ret
      exact ⟨by first | rfl | (simp [*, errW_none, errW_some] <;> rfl), by repeat (with_reducible first | exact HB.out | apply below_alloc | apply pw_below_drewN | apply below_drew1 | refine below_set ?_ (Aside0.out ‹_›))⟩
     subst c11
     rw [if_pos rfl] at H
     by_cases c12 : 0 < (l1.length : Int)
     rotate_left
     ·
      rw [if_neg c12] at H
      exact absurd H (by simp)
     rw [if_pos c12] at H
     have o3 : decide (0 < (l1.length : Int)) = true := decide_eq_true c12; have o4 : decide (0 < l1.length) = true := decide_eq_true (by omega); clear c12
     by_cases c13 : ((yaa l1 a2).f0) = ((yaa l1 0).f0)
     ·
      rw [if_pos c13] at H
      have i5 := beq_iff_eq.mpr c13; have i6 := bne_eq_false_iff_eq.mpr c13; clear c13; have H' := yab H; clear H; have p101 : 0 ≤ (a2 : Int) := of_decide_eq_true (by assumption); have q101 : a2 < (l1.length : Int) := of_decide_eq_true (by assumption); obtain ⟨ad101, a5, a6, a7, a8, d2, d3, d4, d5, i0, e4, e5, e6, e7, e8, e9, f8, f9, hl101_4, hi101_4, hl101_5, hi101_5, hl101_6, hi101_6, hl101_7, hi101_7⟩ := at_T63 HR1.out a2 p101 q101
      cases i0
      replace e4 := (upc_ HB.out e4 :); replace e5 := (upc_ HB.out e5 :); replace e6 := (upc_ HB.out e6 :); replace e7 := (upc_ HB.out e7 :); replace e8 := (upc_ HB.out e8 :); replace e9 := (upc_ HB.out e9 :); replace f8 := (upc_ HB.out f8 :); replace f9 := (upc_ HB.out f9 :); have HR101_4 := yab hi101_4; have HC101_4 := yab hl101_4; clear hi101_4 hl101_4; have HR101_5 := yab hi101_5; have HC101_5 := yab hl101_5; clear hi101_5 hl101_5; have HR101_6 := yab hi101_6; have HC101_6 := yab hl101_6; clear hi101_6 hl101_6; have HR101_7 := yab hi101_7; have HC101_7 := yab hl101_7; clear hi101_7 hl101_7; replace p101 := eq_true p101; replace q101 := eq_true q101
      try go_wp2_with (first | ((with_reducible refine gd_ 6 rfl ?_); (try (refine gate_guard (by rfl) ?_; dsimp only)); refine bx_ 6 rfl #[.int .i64 0, .int .i64 0, .int .i64 0, .int .i64 0, .slice none 0 0, .slice none 0 0, .slice none 0 0, .slice none 0 0] 63 ?_; intro a4 hg w14 hbox hb; have a3 := yab (hbox); have g9 := yab ((by rw [hg]; exact (below_size (upH HB.out)) : w.heap.size ≤ a4)); replace HB := yab (below_step (upH HB.out) hb); have i2 := g9; clear hb hbox hg; obtain ⟨i9, j1, j2, j3, j4, j5, j6, j7⟩ := cc8_ a3.out; obtain ⟨j8, j9, k0, k1, k3, k4, k5⟩ := cf7_ a3.out; have k6 := blk_frozen a3.out 7))
      generalize hg_ : ((((((((w14.setCell ⟨a4, 0, none⟩ (.int .i64 ((yaa l1 a2).f0))).setCell ⟨a4, 1, none⟩ (.int .i64 ((yaa l1 a2).f1))).setCell ⟨a4, 2, none⟩ (.int .i64 ((yaa l1 a2).f2))).setCell ⟨a4, 3, none⟩ (.int .i64 ((yaa l1 a2).f3))).setCell ⟨a4, 4, none⟩ (.slice a5 ((yaa l1 a2).f4).length a6)).setCell ⟨a4, 5, none⟩ (.slice a7 ((yaa l1 a2).f5).length a8)).setCell ⟨a4, 6, none⟩ (.slice d2 ((yaa l1 a2).f6).length d3)).setCell ⟨a4, 7, none⟩ (.slice d4 ((yaa l1 a2).f7).length d5)) = w16
      replace a3 : Aside0 (w16.heap[a4]? = some (.cells #[.int .i64 ((yaa l1 a2).f0), .int .i64 ((yaa l1 a2).f1), .int .i64 ((yaa l1 a2).f2), .int .i64 ((yaa l1 a2).f3), .slice a5 ((yaa l1 a2).f4).length a6, .slice a7 ((yaa l1 a2).f5).length a8, .slice d2 ((yaa l1 a2).f6).length d3, .slice d4 ((yaa l1 a2).f7).length d5] 63 (0, 0))) := ⟨by subst hg_; (repeat refine oneB ?_); refine blk_put (cs := #[.int .i64 ((yaa l1 a2).f0), .int .i64 ((yaa l1 a2).f1), .int .i64 ((yaa l1 a2).f2), .int .i64 ((yaa l1 a2).f3), .slice a5 ((yaa l1 a2).f4).length a6, .slice a7 ((yaa l1 a2).f5).length a8, .slice d2 ((yaa l1 a2).f6).length d3, .slice none 0 0]) ?_ 7 _ rfl; refine blk_put (cs := #[.int .i64 ((yaa l1 a2).f0), .int .i64 ((yaa l1 a2).f1), .int .i64 ((yaa l1 a2).f2), .int .i64 ((yaa l1 a2).f3), .slice a5 ((yaa l1 a2).f4).length a6, .slice a7 ((yaa l1 a2).f5).length a8, .slice none 0 0, .slice none 0 0]) ?_ 6 _ rfl; refine blk_put (cs := #[.int .i64 ((yaa l1 a2).f0), .int .i64 ((yaa l1 a2).f1), .int .i64 ((yaa l1 a2).f2), .int .i64 ((yaa l1 a2).f3), .slice a5 ((yaa l1 a2).f4).length a6, .slice none 0 0, .slice none 0 0, .slice none 0 0]) ?_ 5 _ rfl; refine blk_put (cs := #[.int .i64 ((yaa l1 a2).f0), .int .i64 ((yaa l1 a2).f1), .int .i64 ((yaa l1 a2).f2), .int .i64 ((yaa l1 a2).f3), .slice none 0 0, .slice none 0 0, .slice none 0 0, .slice none 0 0]) ?_ 4 _ rfl; refine blk_put (cs := #[.int .i64 ((yaa l1 a2).f0), .int .i64 ((yaa l1 a2).f1), .int .i64 ((yaa l1 a2).f2), .int .i64 0, .slice none 0 0, .slice none 0 0, .slice none 0 0, .slice none 0 0]) ?_ 3 _ rfl; refine blk_put (cs := #[.int .i64 ((yaa l1 a2).f0), .int .i64 ((yaa l1 a2).f1), .int .i64 0, .int .i64 0, .slice none 0 0, .slice none 0 0, .slice none 0 0, .slice none 0 0]) ?_ 2 _ rfl; refine blk_put (cs := #[.int .i64 ((yaa l1 a2).f0), .int .i64 0, .int .i64 0, .int .i64 0, .slice none 0 0, .slice none 0 0, .slice none 0 0, .slice none 0 0]) ?_ 1 _ rfl; refine blk_put (cs := #[.int .i64 0, .int .i64 0, .int .i64 0, .int .i64 0, .slice none 0 0, .slice none 0 0, .slice none 0 0, .slice none 0 0]) ?_ 0 _ rfl; exact upB a3.out⟩
      replace HB : Aside0 (Below w.heap.size w w16) := ⟨by subst hg_; repeat (with_reducible first | exact HB.out | apply below_alloc | apply pw_below_drewN | apply below_drew1 | refine below_set ?_ (Aside0.out ‹_›))⟩
      clear hg_; replace a3 := yab (blk_drew a3.out); replace HB := yab (below_drew1 HB.out); have p103 : 0 ≤ (a2 : Int) := of_decide_eq_true (by assumption); have q103 : a2 < (l0.length : Int) := of_decide_eq_true (by assumption); obtain ⟨ad103, g7, g8, i1, b7, b8, b9, c2, c3, d0, d1, hl103_0, hi103_0⟩ := at_T24 HR0.out a2 p103 q103; have g0 := d1; have g1 := d0; have g2 := c3; have g3 := c2; have g4 := b9; have g5 := b8; have g6 := b7
      cases i1
      replace b7 := (upc_ HB.out b7 :); replace b8 := (upc_ HB.out b8 :); replace b9 := (upc_ HB.out b9 :); replace c2 := (upc_ HB.out c2 :); replace c3 := (upc_ HB.out c3 :); replace d0 := (upc_ HB.out d0 :); replace d1 := (upc_ HB.out d1 :); have HR103_0 := yab hi103_0; have HC103_0 := yab hl103_0; clear hi103_0 hl103_0; replace p103 := eq_true p103; replace q103 := eq_true q103; have p105 : 0 ≤ (0 : Int) := (by omega); have q105 : 0 < (l1.length : Int) := of_decide_eq_true (by assumption); obtain ⟨ad105, h1, h2, h3, h4, h5, h6, h7, h8, i4, a9, b0, b1, b2, b3, b4, b5, b6, hl105_4, hi105_4, hl105_5, hi105_5, hl105_6, hi105_6, hl105_7, hi105_7⟩ := at_T63 HR1.out 0 p105 q105; have d6 := b6
      (try rw [show ((0 : Int)).toNat = 0 from rfl] at d6)
      (try rw [show 0 * 8 = 0 from rfl] at d6)
      (try rw [Addr.add_zero'] at d6)
      have d7 := b5
      (try rw [show ((0 : Int)).toNat = 0 from rfl] at d7)
      (try rw [show 0 * 8 = 0 from rfl] at d7)
      (try rw [Addr.add_zero'] at d7)
      have d8 := b4
      (try rw [show ((0 : Int)).toNat = 0 from rfl] at d8)
      (try rw [show 0 * 8 = 0 from rfl] at d8)
      (try rw [Addr.add_zero'] at d8)
      have d9 := b3
      (try rw [show ((0 : Int)).toNat = 0 from rfl] at d9)
      (try rw [show 0 * 8 = 0 from rfl] at d9)
      (try rw [Addr.add_zero'] at d9)
      have e0 := b2
      (try rw [show ((0 : Int)).toNat = 0 from rfl] at e0)
      (try rw [show 0 * 8 = 0 from rfl] at e0)
      (try rw [Addr.add_zero'] at e0)
      have e1 := b1
      (try rw [show ((0 : Int)).toNat = 0 from rfl] at e1)
      (try rw [show 0 * 8 = 0 from rfl] at e1)
      (try rw [Addr.add_zero'] at e1)
      have e2 := b0
      (try rw [show ((0 : Int)).toNat = 0 from rfl] at e2)
      (try rw [show 0 * 8 = 0 from rfl] at e2)
      (try rw [Addr.add_zero'] at e2)
      have e3 := a9
      (try rw [show ((0 : Int)).toNat = 0 from rfl] at e3)
      (try rw [show 0 * 8 = 0 from rfl] at e3)
      (try rw [Addr.add_zero'] at e3)
      obtain rfl : ad101 = ad105 := (by injection i4); have qi105 : (0 < l1.length) = True := eq_true (by omega)
      (try rw [show ((0 : Int)).toNat = 0 from rfl] at a9)
      (try rw [show 0 * 8 = 0 from rfl] at a9)
      (try rw [Addr.add_zero'] at a9)
      (try rw [show ((0 : Int)).toNat = 0 from rfl] at b0)
      (try rw [show 0 * 8 = 0 from rfl] at b0)
      (try rw [Addr.add_zero'] at b0)
      (try rw [show ((0 : Int)).toNat = 0 from rfl] at b1)
      (try rw [show 0 * 8 = 0 from rfl] at b1)
      (try rw [Addr.add_zero'] at b1)
      (try rw [show ((0 : Int)).toNat = 0 from rfl] at b2)
      (try rw [show 0 * 8 = 0 from rfl] at b2)
      (try rw [Addr.add_zero'] at b2)
      (try rw [show ((0 : Int)).toNat = 0 from rfl] at b3)
      (try rw [show 0 * 8 = 0 from rfl] at b3)
      (try rw [Addr.add_zero'] at b3)
      (try rw [show ((0 : Int)).toNat = 0 from rfl] at b4)
      (try rw [show 0 * 8 = 0 from rfl] at b4)
      (try rw [Addr.add_zero'] at b4)
      (try rw [show ((0 : Int)).toNat = 0 from rfl] at b5)
      (try rw [show 0 * 8 = 0 from rfl] at b5)
      (try rw [Addr.add_zero'] at b5)
      (try rw [show ((0 : Int)).toNat = 0 from rfl] at b6)
      (try rw [show 0 * 8 = 0 from rfl] at b6)
      (try rw [Addr.add_zero'] at b6)
      replace a9 := (upc_ HB.out a9 :); replace b0 := (upc_ HB.out b0 :); replace b1 := (upc_ HB.out b1 :); replace b2 := (upc_ HB.out b2 :); replace b3 := (upc_ HB.out b3 :); replace b4 := (upc_ HB.out b4 :); replace b5 := (upc_ HB.out b5 :); replace b6 := (upc_ HB.out b6 :); have HR105_4 := yab hi105_4; have HC105_4 := yab hl105_4; clear hi105_4 hl105_4; have HR105_5 := yab hi105_5; have HC105_5 := yab hl105_5; clear hi105_5 hl105_5; have HR105_6 := yab hi105_6; have HC105_6 := yab hl105_6; clear hi105_6 hl105_6; have HR105_7 := yab hi105_7; have HC105_7 := yab hl105_7; clear hi105_7 hl105_7; replace p105 := eq_true p105; replace q105 := eq_true q105
      refine start_ (n := 16) (S := fun w' => w'.cell? ⟨a4, 0, none⟩ = some (.int .i64 ((yaa l1 a2).f0)) ∧ w'.cell? ⟨a4, 1, none⟩ = some (.int .i64 ((yaa l1 a2).f1)) ∧ w'.cell? ⟨a4, 2, none⟩ = some (.int .i64 ((yaa l1 a2).f2)) ∧ w'.cell? ⟨a4, 3, none⟩ = some (.int .i64 ((yaa l1 a2).f3)) ∧ w'.cell? ⟨a4, 4, none⟩ = some (.slice a5 ((yaa l1 a2).f4).length a6) ∧ w'.cell? ⟨a4, 5, none⟩ = some (.slice a7 ((yaa l1 a2).f5).length a8) ∧ w'.cell? ⟨a4, 6, none⟩ = some (.slice d2 ((yaa l1 a2).f6).length d3) ∧ w'.cell? ⟨a4, 7, none⟩ = some (.slice d4 ((yaa l1 a2).f7).length d5) ∧ w'.cell? (ad103.add ((a2).toNat * 7)) = some (.slice g7 ((yad l0 a2).f0).length g8) ∧ w'.cell? ⟨(ad103.add ((a2).toNat * 7)).block, (ad103.add ((a2).toNat * 7)).off + 1, none⟩ = some (.int .i64 ((yad l0 a2).f1)) ∧ w'.cell? ⟨(ad103.add ((a2).toNat * 7)).block, (ad103.add ((a2).toNat * 7)).off + 2, none⟩ = some (.int .i64 ((yad l0 a2).f2)) ∧ w'.cell? ⟨(ad103.add ((a2).toNat * 7)).block, (ad103.add ((a2).toNat * 7)).off + 3, none⟩ = some (.int .i64 ((yad l0 a2).f3)) ∧ w'.cell? ⟨(ad103.add ((a2).toNat * 7)).block, (ad103.add ((a2).toNat * 7)).off + 4, none⟩ = some (.int .i64 ((yad l0 a2).f4)) ∧ w'.cell? ⟨(ad103.add ((a2).toNat * 7)).block, (ad103.add ((a2).toNat * 7)).off + 5, none⟩ = some (.int .i64 ((yad l0 a2).f5)) ∧ w'.cell? ⟨(ad103.add ((a2).toNat * 7)).block, (ad103.add ((a2).toNat * 7)).off + 6, none⟩ = some (.int .i64 ((yad l0 a2).f6)) ∧ w'.cell? ad101 = some (.int .i64 ((yaa l1 0).f0)) ∧ w'.cell? ⟨ad101.block, ad101.off + 1, none⟩ = some (.int .i64 ((yaa l1 0).f1)) ∧ w'.cell? ⟨ad101.block, ad101.off + 2, none⟩ = some (.int .i64 ((yaa l1 0).f2)) ∧ w'.cell? ⟨ad101.block, ad101.off + 3, none⟩ = some (.int .i64 ((yaa l1 0).f3)) ∧ w'.cell? ⟨ad101.block, ad101.off + 4, none⟩ = some (.slice h1 ((yaa l1 0).f4).length h2) ∧ w'.cell? ⟨ad101.block, ad101.off + 5, none⟩ = some (.slice h3 ((yaa l1 0).f5).length h4) ∧ w'.cell? ⟨ad101.block, ad101.off + 6, none⟩ = some (.slice h5 ((yaa l1 0).f6).length h6) ∧ w'.cell? ⟨ad101.block, ad101.off + 7, none⟩ = some (.slice h7 ((yaa l1 0).f7).length h8)) (ds := []) q59_0 (by kernel_rfl) rfl rfl ⟨(yac a3.out 0).trans rfl, (yac a3.out 1).trans rfl, (yac a3.out 2).trans rfl, (yac a3.out 3).trans rfl, (yac a3.out 4).trans rfl, (yac a3.out 5).trans rfl, (yac a3.out 6).trans rfl, (yac a3.out 7).trans rfl, (upc_ HB.out g6 :), (upc_ HB.out g5 :), (upc_ HB.out g4 :), (upc_ HB.out g3 :), (upc_ HB.out g2 :), (upc_ HB.out g1 :), (upc_ HB.out g0 :), (upc_ HB.out e3 :), (upc_ HB.out e2 :), (upc_ HB.out e1 :), (upc_ HB.out e0 :), (upc_ HB.out d9 :), (upc_ HB.out d8 :), (upc_ HB.out d7 :), (upc_ HB.out d6 :)⟩ (fun hHeld => ?_); refine with_tabW impl_HouOk.tab6 impl_HouOk.bits6 (fun HT_ HW_ => ?_)
      generalize w16.drew = w17 at a3 HB HR103_0 HR105_4 HR105_5 HR105_6 HR105_7 b7 b8 b9 c2 c3 d0 d1 a9 b0 b1 b2 b3 b4 b5 b6 hHeld ⊢
      refine pz_ 0 22 q59_1 HT_ (by kernel_rfl) ?_
      refine pz_ 1 23 q59_2 HT_ (by kernel_rfl) ?_
      refine pz_ 2 24 q59_3 HT_ (by kernel_rfl) ?_
      refine tz_ 3 25 q59_4 HT_ HW_ (by kernel_rfl) hHeld ?_
      refine tz_ 4 26 q59_5 HT_ HW_ (by kernel_rfl) hHeld ?_
      refine one_ (i := 5) (N := some 27) q59_6 rfl rfl (one_of HT_.out (by kernel_rfl)) (by decide) (fun K hK => ?_)
      refine goes_ Try.func39 (by kernel_rfl) rfl #[.agg #[.slice g7 ((yad l0 a2).f0).length g8, .int .i64 ((yad l0 a2).f1), .int .i64 ((yad l0 a2).f2), .int .i64 ((yad l0 a2).f3), .int .i64 ((yad l0 a2).f4), .int .i64 ((yad l0 a2).f5), .int .i64 ((yad l0 a2).f6)], .agg #[.int .i64 ((yaa l1 a2).f0), .int .i64 ((yaa l1 a2).f1), .int .i64 ((yaa l1 a2).f2), .int .i64 ((yaa l1 a2).f3), .slice a5 ((yaa l1 a2).f4).length a6, .slice a7 ((yaa l1 a2).f5).length a8, .slice d2 ((yaa l1 a2).f6).length d3, .slice d4 ((yaa l1 a2).f7).length d5]] (by rfl) rfl rfl (by (try simp only [List.map_toArray, List.map_cons, List.map_nil]); first | done | rfl | (simp only [List.length_drop, List.length_take]; rfl)) ?_
      with_reducible refine (impl_TenOk.calls k2 _ _ ((yad l0 a2).f0) ((yad l0 a2).f1) ((yad l0 a2).f2) ((yad l0 a2).f3) ((yad l0 a2).f4) ((yad l0 a2).f5) ((yad l0 a2).f6) ((yaa l1 a2).f0) ((yaa l1 a2).f1) ((yaa l1 a2).f2) ((yaa l1 a2).f3) _ _ ((yaa l1 a2).f4) _ _ ((yaa l1 a2).f5) _ _ ((yaa l1 a2).f6) _ _ ((yaa l1 a2).f7) true _ ?side1 ?side2 ?side3 ?side4 ?side5 ?side6 ?side7 ?side8 ?side9 ?side10 A10.out).mono ?_
      (case side1 => repeat (first | exact (yae HR103_0.out HB.out) | (with_reducible refine yaf ?_ _) | (with_reducible refine yag ?_ _) | (with_reducible refine Kd.C_drew ?_)))
      (case side2 => exact HC103_0.out)
      (case side3 => repeat (first | exact (yae HR101_4.out HB.out) | (with_reducible refine yaf ?_ _) | (with_reducible refine yag ?_ _) | (with_reducible refine Kd.C_drew ?_)))
      (case side4 => exact HC101_4.out)
      (case side5 => repeat (first | exact (yae HR101_5.out HB.out) | (with_reducible refine yaf ?_ _) | (with_reducible refine yag ?_ _) | (with_reducible refine Kd.C_drew ?_)))
      (case side6 => exact HC101_5.out)
      (case side7 => repeat (first | exact (yae HR101_6.out HB.out) | (with_reducible refine yaf ?_ _) | (with_reducible refine yag ?_ _) | (with_reducible refine Kd.C_drew ?_)))
      (case side8 => exact HC101_6.out)
      (case side9 => repeat (first | exact (yae HR101_7.out HB.out) | (with_reducible refine yaf ?_ _) | (with_reducible refine yag ?_ _) | (with_reducible refine Kd.C_drew ?_)))
      (case side10 => exact HC101_7.out)
      rintro e w18 ⟨rfl, hb⟩; refine ⟨_, rfl, ?_⟩; have n0_ := yab (blk_below (upB a3.out) hb)
      have n1_ := yab (below_step (by repeat (with_reducible first | exact HB.out | apply below_alloc | apply pw_below_drewN | apply below_drew1 | refine below_set ?_ (Aside0.out ‹_›))) hb)
      clear a3; clear HB; have a3 := n0_; have HB := n1_; clear n0_ n1_; (try clear hb); (try clear hb2); (try clear hk); (try clear hi)
      refine hK.out _ _ ⟨(yac a3.out 0).trans rfl, (yac a3.out 1).trans rfl, (yac a3.out 2).trans rfl, (yac a3.out 3).trans rfl, (yac a3.out 4).trans rfl, (yac a3.out 5).trans rfl, (yac a3.out 6).trans rfl, (yac a3.out 7).trans rfl, (upc_ HB.out g6 :), (upc_ HB.out g5 :), (upc_ HB.out g4 :), (upc_ HB.out g3 :), (upc_ HB.out g2 :), (upc_ HB.out g1 :), (upc_ HB.out g0 :), (upc_ HB.out e3 :), (upc_ HB.out e2 :), (upc_ HB.out e1 :), (upc_ HB.out e0 :), (upc_ HB.out d9 :), (upc_ HB.out d8 :), (upc_ HB.out d7 :), (upc_ HB.out d6 :)⟩ (fun hHeld => ?_)
      clear hK K
      refine norm_ (a' := ?_) ?_ ?_
      rotate_left
      ·
       show Act.put _ (some 27) _ = _
       simp only [Act.put, List.setIfInBounds_toArray, List.set_cons_zero, List.set_cons_succ, i64_w, i32_w]
       rfl
      refine pz_ 6 28 q59_7 HT_ (by kernel_rfl) ?_
      refine pz_ 7 29 q59_8 HT_ (by kernel_rfl) ?_
      refine pz_ 8 30 q59_9 HT_ (by kernel_rfl) ?_
      refine pz_ 10 32 q59_10 HT_ (by kernel_rfl) ?_
      refine pz_ 11 33 q59_11 HT_ (by kernel_rfl) ?_
      refine pz_ 12 34 q59_12 HT_ (by kernel_rfl) ?_
      refine tz_ 9 31 q59_13 HT_ HW_ (by kernel_rfl) hHeld ?_
      refine tz_ 13 35 q59_14 HT_ HW_ (by kernel_rfl) hHeld ?_
      refine pz_ 14 36 q59_15 HT_ (by kernel_rfl) ?_
      refine pz_ 15 37 q59_16 HT_ (by kernel_rfl) ?_
      refine done_ (done_of HT_.out (by kernel_rfl)) ?_
      try go_wp2
      go_roundg k2
      case measure => have := HJ2.out; have := HK2.out; omega
      case rel => exact ⟨(wrap64 (a2 + 1)), (by first | rfl | (simp; done) | (simp [*]; done)), H', ⟨by have := HJ2.out; have := HK2.out; omega⟩, ⟨by repeat (with_reducible first | exact HB.out | apply below_alloc | apply pw_below_drewN | apply below_drew1 | refine below_set ?_ (Aside0.out ‹_›))⟩⟩
     rw [if_neg c13] at H
     have i5 := beq_eq_false_iff_ne.mpr c13; have i6 := bne_iff_ne.mpr c13; obtain rfl := Option.some.inj H; have p101 : 0 ≤ (a2 : Int) := of_decide_eq_true (by assumption); have q101 : a2 < (l1.length : Int) := of_decide_eq_true (by assumption); obtain ⟨ad101, a5, a6, a7, a8, d2, d3, d4, d5, i0, e4, e5, e6, e7, e8, e9, f8, f9, hl101_4, hi101_4, hl101_5, hi101_5, hl101_6, hi101_6, hl101_7, hi101_7⟩ := at_T63 HR1.out a2 p101 q101
     cases i0
     replace e4 := (upc_ HB.out e4 :); replace e5 := (upc_ HB.out e5 :); replace e6 := (upc_ HB.out e6 :); replace e7 := (upc_ HB.out e7 :); replace e8 := (upc_ HB.out e8 :); replace e9 := (upc_ HB.out e9 :); replace f8 := (upc_ HB.out f8 :); replace f9 := (upc_ HB.out f9 :); have HR101_4 := yab hi101_4; have HC101_4 := yab hl101_4; clear hi101_4 hl101_4; have HR101_5 := yab hi101_5; have HC101_5 := yab hl101_5; clear hi101_5 hl101_5; have HR101_6 := yab hi101_6; have HC101_6 := yab hl101_6; clear hi101_6 hl101_6; have HR101_7 := yab hi101_7; have HC101_7 := yab hl101_7; clear hi101_7 hl101_7; replace p101 := eq_true p101; replace q101 := eq_true q101
     try go_wp2_with (first | ((with_reducible refine gd_ 6 rfl ?_); (try (refine gate_guard (by rfl) ?_; dsimp only)); refine bx_ 6 rfl #[.int .i64 0, .int .i64 0, .int .i64 0, .int .i64 0, .slice none 0 0, .slice none 0 0, .slice none 0 0, .slice none 0 0] 63 ?_; intro a4 hg w19 hbox hb; have a3 := yab (hbox); have g9 := yab ((by rw [hg]; exact (below_size (upH HB.out)) : w.heap.size ≤ a4)); replace HB := yab (below_step (upH HB.out) hb); have i2 := g9; clear hb hbox hg; obtain ⟨k7, k8, k9, l2, l3, l4, l5, l6⟩ := cc8_ a3.out; obtain ⟨l7, l8, l9, m0, m1, m2, m3⟩ := cf7_ a3.out; have m4 := blk_frozen a3.out 7))
     generalize hg_ : ((((((((w19.setCell ⟨a4, 0, none⟩ (.int .i64 ((yaa l1 a2).f0))).setCell ⟨a4, 1, none⟩ (.int .i64 ((yaa l1 a2).f1))).setCell ⟨a4, 2, none⟩ (.int .i64 ((yaa l1 a2).f2))).setCell ⟨a4, 3, none⟩ (.int .i64 ((yaa l1 a2).f3))).setCell ⟨a4, 4, none⟩ (.slice a5 ((yaa l1 a2).f4).length a6)).setCell ⟨a4, 5, none⟩ (.slice a7 ((yaa l1 a2).f5).length a8)).setCell ⟨a4, 6, none⟩ (.slice d2 ((yaa l1 a2).f6).length d3)).setCell ⟨a4, 7, none⟩ (.slice d4 ((yaa l1 a2).f7).length d5)) = w21
     replace a3 : Aside0 (w21.heap[a4]? = some (.cells #[.int .i64 ((yaa l1 a2).f0), .int .i64 ((yaa l1 a2).f1), .int .i64 ((yaa l1 a2).f2), .int .i64 ((yaa l1 a2).f3), .slice a5 ((yaa l1 a2).f4).length a6, .slice a7 ((yaa l1 a2).f5).length a8, .slice d2 ((yaa l1 a2).f6).length d3, .slice d4 ((yaa l1 a2).f7).length d5] 63 (0, 0))) := ⟨by subst hg_; (repeat refine oneB ?_); refine blk_put (cs := #[.int .i64 ((yaa l1 a2).f0), .int .i64 ((yaa l1 a2).f1), .int .i64 ((yaa l1 a2).f2), .int .i64 ((yaa l1 a2).f3), .slice a5 ((yaa l1 a2).f4).length a6, .slice a7 ((yaa l1 a2).f5).length a8, .slice d2 ((yaa l1 a2).f6).length d3, .slice none 0 0]) ?_ 7 _ rfl; refine blk_put (cs := #[.int .i64 ((yaa l1 a2).f0), .int .i64 ((yaa l1 a2).f1), .int .i64 ((yaa l1 a2).f2), .int .i64 ((yaa l1 a2).f3), .slice a5 ((yaa l1 a2).f4).length a6, .slice a7 ((yaa l1 a2).f5).length a8, .slice none 0 0, .slice none 0 0]) ?_ 6 _ rfl; refine blk_put (cs := #[.int .i64 ((yaa l1 a2).f0), .int .i64 ((yaa l1 a2).f1), .int .i64 ((yaa l1 a2).f2), .int .i64 ((yaa l1 a2).f3), .slice a5 ((yaa l1 a2).f4).length a6, .slice none 0 0, .slice none 0 0, .slice none 0 0]) ?_ 5 _ rfl; refine blk_put (cs := #[.int .i64 ((yaa l1 a2).f0), .int .i64 ((yaa l1 a2).f1), .int .i64 ((yaa l1 a2).f2), .int .i64 ((yaa l1 a2).f3), .slice none 0 0, .slice none 0 0, .slice none 0 0, .slice none 0 0]) ?_ 4 _ rfl; refine blk_put (cs := #[.int .i64 ((yaa l1 a2).f0), .int .i64 ((yaa l1 a2).f1), .int .i64 ((yaa l1 a2).f2), .int .i64 0, .slice none 0 0, .slice none 0 0, .slice none 0 0, .slice none 0 0]) ?_ 3 _ rfl; refine blk_put (cs := #[.int .i64 ((yaa l1 a2).f0), .int .i64 ((yaa l1 a2).f1), .int .i64 0, .int .i64 0, .slice none 0 0, .slice none 0 0, .slice none 0 0, .slice none 0 0]) ?_ 2 _ rfl; refine blk_put (cs := #[.int .i64 ((yaa l1 a2).f0), .int .i64 0, .int .i64 0, .int .i64 0, .slice none 0 0, .slice none 0 0, .slice none 0 0, .slice none 0 0]) ?_ 1 _ rfl; refine blk_put (cs := #[.int .i64 0, .int .i64 0, .int .i64 0, .int .i64 0, .slice none 0 0, .slice none 0 0, .slice none 0 0, .slice none 0 0]) ?_ 0 _ rfl; exact upB a3.out⟩
     replace HB : Aside0 (Below w.heap.size w w21) := ⟨by subst hg_; repeat (with_reducible first | exact HB.out | apply below_alloc | apply pw_below_drewN | apply below_drew1 | refine below_set ?_ (Aside0.out ‹_›))⟩
     clear hg_; replace a3 := yab (blk_drew a3.out); replace HB := yab (below_drew1 HB.out); have p103 : 0 ≤ (a2 : Int) := of_decide_eq_true (by assumption); have q103 : a2 < (l0.length : Int) := of_decide_eq_true (by assumption); obtain ⟨ad103, g7, g8, i1, b7, b8, b9, c2, c3, d0, d1, hl103_0, hi103_0⟩ := at_T24 HR0.out a2 p103 q103; have g0 := d1; have g1 := d0; have g2 := c3; have g3 := c2; have g4 := b9; have g5 := b8; have g6 := b7
     cases i1
     replace b7 := (upc_ HB.out b7 :); replace b8 := (upc_ HB.out b8 :); replace b9 := (upc_ HB.out b9 :); replace c2 := (upc_ HB.out c2 :); replace c3 := (upc_ HB.out c3 :); replace d0 := (upc_ HB.out d0 :); replace d1 := (upc_ HB.out d1 :); have HR103_0 := yab hi103_0; have HC103_0 := yab hl103_0; clear hi103_0 hl103_0; replace p103 := eq_true p103; replace q103 := eq_true q103; have p105 : 0 ≤ (0 : Int) := (by omega); have q105 : 0 < (l1.length : Int) := of_decide_eq_true (by assumption); obtain ⟨ad105, h1, h2, h3, h4, h5, h6, h7, h8, i4, a9, b0, b1, b2, b3, b4, b5, b6, hl105_4, hi105_4, hl105_5, hi105_5, hl105_6, hi105_6, hl105_7, hi105_7⟩ := at_T63 HR1.out 0 p105 q105; have d6 := b6
     (try rw [show ((0 : Int)).toNat = 0 from rfl] at d6)
     (try rw [show 0 * 8 = 0 from rfl] at d6)
     (try rw [Addr.add_zero'] at d6)
     have d7 := b5
     (try rw [show ((0 : Int)).toNat = 0 from rfl] at d7)
     (try rw [show 0 * 8 = 0 from rfl] at d7)
     (try rw [Addr.add_zero'] at d7)
     have d8 := b4
     (try rw [show ((0 : Int)).toNat = 0 from rfl] at d8)
     (try rw [show 0 * 8 = 0 from rfl] at d8)
     (try rw [Addr.add_zero'] at d8)
     have d9 := b3
     (try rw [show ((0 : Int)).toNat = 0 from rfl] at d9)
     (try rw [show 0 * 8 = 0 from rfl] at d9)
     (try rw [Addr.add_zero'] at d9)
     have e0 := b2
     (try rw [show ((0 : Int)).toNat = 0 from rfl] at e0)
     (try rw [show 0 * 8 = 0 from rfl] at e0)
     (try rw [Addr.add_zero'] at e0)
     have e1 := b1
     (try rw [show ((0 : Int)).toNat = 0 from rfl] at e1)
     (try rw [show 0 * 8 = 0 from rfl] at e1)
     (try rw [Addr.add_zero'] at e1)
     have e2 := b0
     (try rw [show ((0 : Int)).toNat = 0 from rfl] at e2)
     (try rw [show 0 * 8 = 0 from rfl] at e2)
     (try rw [Addr.add_zero'] at e2)
     have e3 := a9
     (try rw [show ((0 : Int)).toNat = 0 from rfl] at e3)
     (try rw [show 0 * 8 = 0 from rfl] at e3)
     (try rw [Addr.add_zero'] at e3)
     obtain rfl : ad101 = ad105 := (by injection i4); have qi105 : (0 < l1.length) = True := eq_true (by omega)
     (try rw [show ((0 : Int)).toNat = 0 from rfl] at a9)
     (try rw [show 0 * 8 = 0 from rfl] at a9)
     (try rw [Addr.add_zero'] at a9)
     (try rw [show ((0 : Int)).toNat = 0 from rfl] at b0)
     (try rw [show 0 * 8 = 0 from rfl] at b0)
     (try rw [Addr.add_zero'] at b0)
     (try rw [show ((0 : Int)).toNat = 0 from rfl] at b1)
     (try rw [show 0 * 8 = 0 from rfl] at b1)
     (try rw [Addr.add_zero'] at b1)
     (try rw [show ((0 : Int)).toNat = 0 from rfl] at b2)
     (try rw [show 0 * 8 = 0 from rfl] at b2)
     (try rw [Addr.add_zero'] at b2)
     (try rw [show ((0 : Int)).toNat = 0 from rfl] at b3)
     (try rw [show 0 * 8 = 0 from rfl] at b3)
     (try rw [Addr.add_zero'] at b3)
     (try rw [show ((0 : Int)).toNat = 0 from rfl] at b4)
     (try rw [show 0 * 8 = 0 from rfl] at b4)
     (try rw [Addr.add_zero'] at b4)
     (try rw [show ((0 : Int)).toNat = 0 from rfl] at b5)
     (try rw [show 0 * 8 = 0 from rfl] at b5)
     (try rw [Addr.add_zero'] at b5)
     (try rw [show ((0 : Int)).toNat = 0 from rfl] at b6)
     (try rw [show 0 * 8 = 0 from rfl] at b6)
     (try rw [Addr.add_zero'] at b6)
     replace a9 := (upc_ HB.out a9 :); replace b0 := (upc_ HB.out b0 :); replace b1 := (upc_ HB.out b1 :); replace b2 := (upc_ HB.out b2 :); replace b3 := (upc_ HB.out b3 :); replace b4 := (upc_ HB.out b4 :); replace b5 := (upc_ HB.out b5 :); replace b6 := (upc_ HB.out b6 :); have HR105_4 := yab hi105_4; have HC105_4 := yab hl105_4; clear hi105_4 hl105_4; have HR105_5 := yab hi105_5; have HC105_5 := yab hl105_5; clear hi105_5 hl105_5; have HR105_6 := yab hi105_6; have HC105_6 := yab hl105_6; clear hi105_6 hl105_6; have HR105_7 := yab hi105_7; have HC105_7 := yab hl105_7; clear hi105_7 hl105_7; replace p105 := eq_true p105; replace q105 := eq_true q105
     refine start_ (n := 16) (S := fun w' => w'.cell? ⟨a4, 0, none⟩ = some (.int .i64 ((yaa l1 a2).f0)) ∧ w'.cell? ⟨a4, 1, none⟩ = some (.int .i64 ((yaa l1 a2).f1)) ∧ w'.cell? ⟨a4, 2, none⟩ = some (.int .i64 ((yaa l1 a2).f2)) ∧ w'.cell? ⟨a4, 3, none⟩ = some (.int .i64 ((yaa l1 a2).f3)) ∧ w'.cell? ⟨a4, 4, none⟩ = some (.slice a5 ((yaa l1 a2).f4).length a6) ∧ w'.cell? ⟨a4, 5, none⟩ = some (.slice a7 ((yaa l1 a2).f5).length a8) ∧ w'.cell? ⟨a4, 6, none⟩ = some (.slice d2 ((yaa l1 a2).f6).length d3) ∧ w'.cell? ⟨a4, 7, none⟩ = some (.slice d4 ((yaa l1 a2).f7).length d5) ∧ w'.cell? (ad103.add ((a2).toNat * 7)) = some (.slice g7 ((yad l0 a2).f0).length g8) ∧ w'.cell? ⟨(ad103.add ((a2).toNat * 7)).block, (ad103.add ((a2).toNat * 7)).off + 1, none⟩ = some (.int .i64 ((yad l0 a2).f1)) ∧ w'.cell? ⟨(ad103.add ((a2).toNat * 7)).block, (ad103.add ((a2).toNat * 7)).off + 2, none⟩ = some (.int .i64 ((yad l0 a2).f2)) ∧ w'.cell? ⟨(ad103.add ((a2).toNat * 7)).block, (ad103.add ((a2).toNat * 7)).off + 3, none⟩ = some (.int .i64 ((yad l0 a2).f3)) ∧ w'.cell? ⟨(ad103.add ((a2).toNat * 7)).block, (ad103.add ((a2).toNat * 7)).off + 4, none⟩ = some (.int .i64 ((yad l0 a2).f4)) ∧ w'.cell? ⟨(ad103.add ((a2).toNat * 7)).block, (ad103.add ((a2).toNat * 7)).off + 5, none⟩ = some (.int .i64 ((yad l0 a2).f5)) ∧ w'.cell? ⟨(ad103.add ((a2).toNat * 7)).block, (ad103.add ((a2).toNat * 7)).off + 6, none⟩ = some (.int .i64 ((yad l0 a2).f6)) ∧ w'.cell? ad101 = some (.int .i64 ((yaa l1 0).f0)) ∧ w'.cell? ⟨ad101.block, ad101.off + 1, none⟩ = some (.int .i64 ((yaa l1 0).f1)) ∧ w'.cell? ⟨ad101.block, ad101.off + 2, none⟩ = some (.int .i64 ((yaa l1 0).f2)) ∧ w'.cell? ⟨ad101.block, ad101.off + 3, none⟩ = some (.int .i64 ((yaa l1 0).f3)) ∧ w'.cell? ⟨ad101.block, ad101.off + 4, none⟩ = some (.slice h1 ((yaa l1 0).f4).length h2) ∧ w'.cell? ⟨ad101.block, ad101.off + 5, none⟩ = some (.slice h3 ((yaa l1 0).f5).length h4) ∧ w'.cell? ⟨ad101.block, ad101.off + 6, none⟩ = some (.slice h5 ((yaa l1 0).f6).length h6) ∧ w'.cell? ⟨ad101.block, ad101.off + 7, none⟩ = some (.slice h7 ((yaa l1 0).f7).length h8)) (ds := []) q59_0 (by kernel_rfl) rfl rfl ⟨(yac a3.out 0).trans rfl, (yac a3.out 1).trans rfl, (yac a3.out 2).trans rfl, (yac a3.out 3).trans rfl, (yac a3.out 4).trans rfl, (yac a3.out 5).trans rfl, (yac a3.out 6).trans rfl, (yac a3.out 7).trans rfl, (upc_ HB.out g6 :), (upc_ HB.out g5 :), (upc_ HB.out g4 :), (upc_ HB.out g3 :), (upc_ HB.out g2 :), (upc_ HB.out g1 :), (upc_ HB.out g0 :), (upc_ HB.out e3 :), (upc_ HB.out e2 :), (upc_ HB.out e1 :), (upc_ HB.out e0 :), (upc_ HB.out d9 :), (upc_ HB.out d8 :), (upc_ HB.out d7 :), (upc_ HB.out d6 :)⟩ (fun hHeld => ?_); refine with_tabW impl_HouOk.tab6 impl_HouOk.bits6 (fun HT_ HW_ => ?_)
     generalize w21.drew = w22 at a3 HB HR103_0 HR105_4 HR105_5 HR105_6 HR105_7 b7 b8 b9 c2 c3 d0 d1 a9 b0 b1 b2 b3 b4 b5 b6 hHeld ⊢
     refine pz_ 0 22 q59_1 HT_ (by kernel_rfl) ?_
     refine pz_ 1 23 q59_2 HT_ (by kernel_rfl) ?_
     refine pz_ 2 24 q59_3 HT_ (by kernel_rfl) ?_
     refine tz_ 3 25 q59_4 HT_ HW_ (by kernel_rfl) hHeld ?_
     refine tz_ 4 26 q59_5 HT_ HW_ (by kernel_rfl) hHeld ?_
     refine one_ (i := 5) (N := some 27) q59_6 rfl rfl (one_of HT_.out (by kernel_rfl)) (by decide) (fun K hK => ?_)
     refine goes_ Try.func39 (by kernel_rfl) rfl #[.agg #[.slice g7 ((yad l0 a2).f0).length g8, .int .i64 ((yad l0 a2).f1), .int .i64 ((yad l0 a2).f2), .int .i64 ((yad l0 a2).f3), .int .i64 ((yad l0 a2).f4), .int .i64 ((yad l0 a2).f5), .int .i64 ((yad l0 a2).f6)], .agg #[.int .i64 ((yaa l1 a2).f0), .int .i64 ((yaa l1 a2).f1), .int .i64 ((yaa l1 a2).f2), .int .i64 ((yaa l1 a2).f3), .slice a5 ((yaa l1 a2).f4).length a6, .slice a7 ((yaa l1 a2).f5).length a8, .slice d2 ((yaa l1 a2).f6).length d3, .slice d4 ((yaa l1 a2).f7).length d5]] (by rfl) rfl rfl (by (try simp only [List.map_toArray, List.map_cons, List.map_nil]); first | done | rfl | (simp only [List.length_drop, List.length_take]; rfl)) ?_
     with_reducible refine (impl_TenOk.calls k2 _ _ ((yad l0 a2).f0) ((yad l0 a2).f1) ((yad l0 a2).f2) ((yad l0 a2).f3) ((yad l0 a2).f4) ((yad l0 a2).f5) ((yad l0 a2).f6) ((yaa l1 a2).f0) ((yaa l1 a2).f1) ((yaa l1 a2).f2) ((yaa l1 a2).f3) _ _ ((yaa l1 a2).f4) _ _ ((yaa l1 a2).f5) _ _ ((yaa l1 a2).f6) _ _ ((yaa l1 a2).f7) true _ ?side1 ?side2 ?side3 ?side4 ?side5 ?side6 ?side7 ?side8 ?side9 ?side10 A10.out).mono ?_
     (case side1 => repeat (first | exact (yae HR103_0.out HB.out) | (with_reducible refine yaf ?_ _) | (with_reducible refine yag ?_ _) | (with_reducible refine Kd.C_drew ?_)))
     (case side2 => exact HC103_0.out)
     (case side3 => repeat (first | exact (yae HR101_4.out HB.out) | (with_reducible refine yaf ?_ _) | (with_reducible refine yag ?_ _) | (with_reducible refine Kd.C_drew ?_)))
     (case side4 => exact HC101_4.out)
     (case side5 => repeat (first | exact (yae HR101_5.out HB.out) | (with_reducible refine yaf ?_ _) | (with_reducible refine yag ?_ _) | (with_reducible refine Kd.C_drew ?_)))
     (case side6 => exact HC101_5.out)
     (case side7 => repeat (first | exact (yae HR101_6.out HB.out) | (with_reducible refine yaf ?_ _) | (with_reducible refine yag ?_ _) | (with_reducible refine Kd.C_drew ?_)))
     (case side8 => exact HC101_6.out)
     (case side9 => repeat (first | exact (yae HR101_7.out HB.out) | (with_reducible refine yaf ?_ _) | (with_reducible refine yag ?_ _) | (with_reducible refine Kd.C_drew ?_)))
     (case side10 => exact HC101_7.out)
     rintro e w23 ⟨rfl, hb⟩; refine ⟨_, rfl, ?_⟩; have n0_ := yab (blk_below (upB a3.out) hb)
     have n1_ := yab (below_step (by repeat (with_reducible first | exact HB.out | apply below_alloc | apply pw_below_drewN | apply below_drew1 | refine below_set ?_ (Aside0.out ‹_›))) hb)
     clear a3; clear HB; have a3 := n0_; have HB := n1_; clear n0_ n1_; (try clear hb); (try clear hb2); (try clear hk); (try clear hi)
     refine hK.out _ _ ⟨(yac a3.out 0).trans rfl, (yac a3.out 1).trans rfl, (yac a3.out 2).trans rfl, (yac a3.out 3).trans rfl, (yac a3.out 4).trans rfl, (yac a3.out 5).trans rfl, (yac a3.out 6).trans rfl, (yac a3.out 7).trans rfl, (upc_ HB.out g6 :), (upc_ HB.out g5 :), (upc_ HB.out g4 :), (upc_ HB.out g3 :), (upc_ HB.out g2 :), (upc_ HB.out g1 :), (upc_ HB.out g0 :), (upc_ HB.out e3 :), (upc_ HB.out e2 :), (upc_ HB.out e1 :), (upc_ HB.out e0 :), (upc_ HB.out d9 :), (upc_ HB.out d8 :), (upc_ HB.out d7 :), (upc_ HB.out d6 :)⟩ (fun hHeld => ?_)
     clear hK K
     refine norm_ (a' := ?_) ?_ ?_
     rotate_left
     ·
      show Act.put _ (some 27) _ = _
      simp only [Act.put, List.setIfInBounds_toArray, List.set_cons_zero, List.set_cons_succ, i64_w, i32_w]
      rfl
     refine pz_ 6 28 q59_7 HT_ (by kernel_rfl) ?_
     refine pz_ 7 29 q59_8 HT_ (by kernel_rfl) ?_
     refine pz_ 8 30 q59_9 HT_ (by kernel_rfl) ?_
     refine pz_ 10 32 q59_10 HT_ (by kernel_rfl) ?_
     refine pz_ 11 33 q59_11 HT_ (by kernel_rfl) ?_
     refine pz_ 12 34 q59_12 HT_ (by kernel_rfl) ?_
     refine tz_ 9 31 q59_13 HT_ HW_ (by kernel_rfl) hHeld ?_
     refine tz_ 13 35 q59_14 HT_ HW_ (by kernel_rfl) hHeld ?_
     refine pz_ 14 36 q59_15 HT_ (by kernel_rfl) ?_
     refine pz_ 15 37 q59_16 HT_ (by kernel_rfl) ?_
     refine done_ (done_of HT_.out (by kernel_rfl)) ?_
     try go_wp2
     go_ret
     exact ⟨by first | rfl | (simp [*, errW_none, errW_some] <;> rfl), by repeat (with_reducible first | exact HB.out | apply below_alloc | apply pw_below_drewN | apply below_drew1 | refine below_set ?_ (Aside0.out ‹_›))⟩
end
section
open Go.Proofs.YtgpkkkmapgnhkaaW.PrintWords.Aside0 renaming mk → yaa
open Go.Proofs.YtgpkkkmapgnhkaaW.PrintWords.Kd renaming S_alloc → yab, S_drewN → yac, C_alloc → yad, C_drewN → yae, S_drew → yaf, C_drew → yag, S_below → yai
open Go.Proofs.YtgpkkkmapgnhkaaW.PrintWords renaming below_step → yah
def laws_FnExactHouOk.f (k : Nat) (l0 : List (S30)) (l1 : List (S83)) : Option (Bool) := (laws_szTenCfgS.f k l0 1048576).bind fun t101 => (if t101 < 0 then (some true) else ((laws_szTenStateS.f k l1 t101).bind fun t102 => (if t102 < 0 then (some true) else ((laws_toTenCfgS.f k l0).bind fun t103 => ((laws_toTenStateS.f k l1).bind fun t106 => ((spec_HouOk.f k t103 t106).bind fun t109 => ((laws_toTenCfgS.f k l0).bind fun t110 => ((laws_toTenStateS.f k l1).bind fun t113 => ((impl_HouOk.f k t110 t113).bind fun t116 => (if (t116 != t109) = true then (some false) else ((laws_toTenCfgS.f k l0).bind fun t117 => ((laws_eqTenCfgS.f k t110 t117).bind fun t120 => (if t120 = true then ((laws_toTenStateS.f k l1).bind fun t121 => ((laws_eqTenStateS.f k t113 t121).bind fun t124 => (if t124 = true then (some true) else (some false)))) else (some false))))))))))))))
set_option maxHeartbeats 8000000 in
set_option maxRecDepth 100000 in
theorem laws_FnExactHouOk.calls (k : Nat) (A0 : Option Addr) (c0 : Nat) (l0 : List (S30)) (A1 : Option Addr) (c1 : Nat) (l1 : List (S83)) (r : Bool) (w : World) (hr0 : Kd.C k30 w A0 l0.length l0) (hc0 : l0.length ≤ c0) (hr1 : Kd.C k83 w A1 l1.length l1) (hc1 : l1.length ≤ c1) (h : laws_FnExactHouOk.f k l0 l1 = some r) (hrt : r = true) :
  Calls Try.prog 12 #[.slice A0 l0.length c0, .slice A1 l1.length c1] w fun e w' => e = .returned (.bool r) ∧ Below w.heap.size w w' := by
 have HR0 := yaa hr0; have HC0 := yaa hc0; clear hr0 hc0; have HR1 := yaa hr1; have HC1 := yaa hc1; clear hr1 hc1; have HB := yaa (Below.refl w.heap.size w); have H : ((laws_szTenCfgS.f k l0 1048576).bind fun a7 => (if a7 < 0 then (some true) else ((laws_szTenStateS.f k l1 a7).bind fun b3 => (if b3 < 0 then (some true) else ((laws_toTenCfgS.f k l0).bind fun b4 => ((laws_toTenStateS.f k l1).bind fun b5 => ((spec_HouOk.f k b4 b5).bind fun a8 => ((laws_toTenCfgS.f k l0).bind fun b0 => ((laws_toTenStateS.f k l1).bind fun b1 => ((impl_HouOk.f k b0 b1).bind fun a9 => (if (a9 != a8) = true then (some false) else ((laws_toTenCfgS.f k l0).bind fun b6 => ((laws_eqTenCfgS.f k b0 b6).bind fun b8 => (if b8 = true then ((laws_toTenStateS.f k l1).bind fun b7 => ((laws_eqTenStateS.f k b1 b7).bind fun b9 => (if b9 = true then (some true) else (some false)))) else (some false))))))))))))))) = some r := h; clear h; obtain ⟨a7, A3, H⟩ := bindA H; (try dsimp only at H)
 by_cases c4 : a7 < 0
 ·
  rw [if_pos c4] at H
  have d1 : decide (a7 < 0) = true := decide_eq_true c4; clear c4; obtain rfl := Option.some.inj H
  go_enter Try.func12, Try.ntmps12
  go_wp2_with (first | ((with_reducible refine gc_ 44 rfl ?_); refine gl_ (some 12) rfl Try.func44 #[.slice A0 l0.length c0, .int .i64 1048576] ?_; (with_reducible refine (laws_szTenCfgS.calls k _ _ l0 1048576 a7 _ ?side1 ?side2 A3.out).mono ?_); (case side1 => repeat (first | exact HR0.out | (with_reducible refine yad ?_ _) | (with_reducible refine yae ?_ _) | (with_reducible refine yag ?_))); (case side2 => exact HC0.out); rintro e w5 ⟨rfl, hb⟩; refine ⟨_, rfl, ?_⟩; replace HB := yaa (yah (upH HB.out) hb); (try clear hb)))
  go_ret
  exact ⟨by first | rfl | (simp [*, errW_none, errW_some] <;> rfl), upH HB.out⟩
 rw [if_neg c4] at H
 have d1 : decide (a7 < 0) = false := decide_eq_false c4; clear c4; obtain ⟨b3, A6, H⟩ := bindA H; (try dsimp only at H)
 by_cases c7 : b3 < 0
 ·
  rw [if_pos c7] at H
  have d2 : decide (b3 < 0) = true := decide_eq_true c7; clear c7; obtain rfl := Option.some.inj H
  go_enter Try.func12, Try.ntmps12
  go_wp2_with (first | ((with_reducible refine gc_ 44 rfl ?_); refine gl_ (some 12) rfl Try.func44 #[.slice A0 l0.length c0, .int .i64 1048576] ?_; (with_reducible refine (laws_szTenCfgS.calls k _ _ l0 1048576 a7 _ ?side1 ?side2 A3.out).mono ?_); (case side1 => repeat (first | exact HR0.out | (with_reducible refine yad ?_ _) | (with_reducible refine yae ?_ _) | (with_reducible refine yag ?_))); (case side2 => exact HC0.out); rintro e w8 ⟨rfl, hb⟩; refine ⟨_, rfl, ?_⟩; replace HB := yaa (yah (upH HB.out) hb); (try clear hb)) | ((with_reducible refine gc_ 56 rfl ?_); refine gl_ (some 17) rfl Try.func56 #[.slice A1 l1.length c1, .int .i64 a7] ?_; (with_reducible refine (laws_szTenStateS.calls k _ _ l1 a7 b3 _ ?side1 ?side2 A6.out).mono ?_); (case side1 => repeat (first | exact (Kd.C_below HR1.out HB.out) | (with_reducible refine yad ?_ _) | (with_reducible refine yae ?_ _) | (with_reducible refine yag ?_))); (case side2 => exact HC1.out); rintro e w9 ⟨rfl, hb⟩; refine ⟨_, rfl, ?_⟩; replace HB := yaa (yah (upH HB.out) hb); (try clear hb)))
  go_ret
  exact ⟨by first | rfl | (simp [*, errW_none, errW_some] <;> rfl), upH HB.out⟩
 rw [if_neg c7] at H
 have d2 : decide (b3 < 0) = false := decide_eq_false c7; clear c7; obtain ⟨b4, A10, H⟩ := bindA H; (try dsimp only at H); obtain ⟨b5, A11, H⟩ := bindA H; (try dsimp only at H); obtain ⟨a8, A12, H⟩ := bindA H; (try dsimp only at H); obtain ⟨b0, A13, H⟩ := bindA H; (try dsimp only at H); obtain ⟨b1, A14, H⟩ := bindA H; (try dsimp only at H); obtain ⟨a9, A15, H⟩ := bindA H; (try dsimp only at H)
 by_cases c16 : (a9 != a8) = true
 ·
  rw [if_pos c16] at H
  have c2 : (a9 != a8) = true := c16
  (try (have c3 : decide (a9 = a8) = false := by simpa using c16))
  (try (have c5 : (a9 == a8) = false := by simpa using c16))
  (try (have e7 : ¬ (a9 = a8) := by simpa using c16))
  clear c16
  rw [hrt] at H
  exact absurd H (by simp)
 rw [if_neg c16] at H
 have c2 : (a9 != a8) = false := (by simpa using c16)
 (try (have c3 : decide (a9 = a8) = true := by simpa using c16))
 (try (have c5 : (a9 == a8) = true := by simpa using c16))
 clear c16; obtain ⟨b6, A17, H⟩ := bindA H; (try dsimp only at H); obtain ⟨b8, A18, H⟩ := bindA H; (try dsimp only at H)
 by_cases c19 : b8 = true
 ·
  subst c19
  rw [if_pos rfl] at H
  obtain ⟨b7, A20, H⟩ := bindA H; (try dsimp only at H); obtain ⟨b9, A21, H⟩ := bindA H; (try dsimp only at H)
  by_cases c22 : b9 = true
  ·
   subst c22
   rw [if_pos rfl] at H
   obtain rfl := Option.some.inj H
   go_enter Try.func12, Try.ntmps12
   go_wp2_with (first | ((with_reducible refine gc_ 44 rfl ?_); refine gl_ (some 12) rfl Try.func44 #[.slice A0 l0.length c0, .int .i64 1048576] ?_; (with_reducible refine (laws_szTenCfgS.calls k _ _ l0 1048576 a7 _ ?side1 ?side2 A3.out).mono ?_); (case side1 => repeat (first | exact HR0.out | (with_reducible refine yad ?_ _) | (with_reducible refine yae ?_ _) | (with_reducible refine yag ?_))); (case side2 => exact HC0.out); rintro e w23 ⟨rfl, hb⟩; refine ⟨_, rfl, ?_⟩; replace HB := yaa (yah (upH HB.out) hb); (try clear hb)) | ((with_reducible refine gc_ 56 rfl ?_); refine gl_ (some 17) rfl Try.func56 #[.slice A1 l1.length c1, .int .i64 a7] ?_; (with_reducible refine (laws_szTenStateS.calls k _ _ l1 a7 b3 _ ?side1 ?side2 A6.out).mono ?_); (case side1 => repeat (first | exact (Kd.C_below HR1.out HB.out) | (with_reducible refine yad ?_ _) | (with_reducible refine yae ?_ _) | (with_reducible refine yag ?_))); (case side2 => exact HC1.out); rintro e w24 ⟨rfl, hb⟩; refine ⟨_, rfl, ?_⟩; replace HB := yaa (yah (upH HB.out) hb); (try clear hb)) | ((with_reducible refine gc_ 46 rfl ?_); refine gl_ (some 21) rfl Try.func46 #[.slice A0 l0.length c0] ?_; (with_reducible refine (laws_toTenCfgS.calls k _ _ l0 b4 _ ?side1 ?side2 A10.out).mono ?_); (case side1 => repeat (first | exact (Kd.C_below HR0.out HB.out) | (with_reducible refine yad ?_ _) | (with_reducible refine yae ?_ _) | (with_reducible refine yag ?_))); (case side2 => exact HC0.out); rintro e w25 ⟨e8, rfl, ho0, hb⟩; refine ⟨_, rfl, ?_⟩; have a2 := yaa (Kd.S_lower ho0 (below_size (upH HB.out))); replace HB := yaa (yah (upH HB.out) hb); (try clear hb ho0)) | ((with_reducible refine gc_ 58 rfl ?_); refine gl_ (some 23) rfl Try.func58 #[.slice A1 l1.length c1] ?_; (with_reducible refine (laws_toTenStateS.calls k _ _ l1 b5 _ ?side1 ?side2 A11.out).mono ?_); (case side1 => repeat (first | exact (Kd.C_below HR1.out HB.out) | (with_reducible refine yad ?_ _) | (with_reducible refine yae ?_ _) | (with_reducible refine yag ?_))); (case side2 => exact HC1.out); rintro e w26 ⟨e9, rfl, ho0, hb⟩; refine ⟨_, rfl, ?_⟩; replace a2 := yaa (yai (by (with_reducible repeat (first | apply yab | apply yac | apply yaf)); exact a2.out) hb); have a3 := yaa (Kd.R_lower ho0 (below_size (upH HB.out))); replace HB := yaa (yah (upH HB.out) hb); (try clear hb ho0); obtain ⟨d3, d4, d5⟩ := Kd.S_slice a2.out; subst d5; obtain ⟨d6, d7, d8⟩ := Kd.R_slice a3.out; subst d8) | ((with_reducible refine gc_ 57 rfl ?_); refine gl_ (some 24) rfl Try.func57 #[.slice d3 b4.length d4, .slice d6 b5.length d7] ?_; (with_reducible refine (spec_HouOk.calls k _ _ b4 _ _ b5 a8 _ ?side1 ?side2 ?side3 ?side4 A12.out).mono ?_); (case side1 => repeat (first | exact (Kd.S_reads' a2.out).2.2 | (with_reducible refine yad ?_ _) | (with_reducible refine yae ?_ _) | (with_reducible refine yag ?_))); (case side2 => exact (Kd.S_reads' a2.out).2.1); (case side3 => repeat (first | exact (Kd.R_reads' a3.out).2.2 | (with_reducible refine yad ?_ _) | (with_reducible refine yae ?_ _) | (with_reducible refine yag ?_))); (case side4 => exact (Kd.R_reads' a3.out).2.1); rintro e w29 ⟨rfl, hb⟩; refine ⟨_, rfl, ?_⟩; replace a2 := yaa (yai (by (with_reducible repeat (first | apply yab | apply yac | apply yaf)); exact a2.out) hb); replace a3 := yaa (Kd.R_below (upR a3.out) hb); replace HB := yaa (yah (upH HB.out) hb); (try clear hb)) | ((with_reducible refine gc_ 46 rfl ?_); refine gl_ (some 26) rfl Try.func46 #[.slice A0 l0.length c0] ?_; (with_reducible refine (laws_toTenCfgS.calls k _ _ l0 b0 _ ?side1 ?side2 A13.out).mono ?_); (case side1 => repeat (first | exact (Kd.C_below HR0.out HB.out) | (with_reducible refine yad ?_ _) | (with_reducible refine yae ?_ _) | (with_reducible refine yag ?_))); (case side2 => exact HC0.out); rintro e w30 ⟨f0, rfl, ho0, hb⟩; refine ⟨_, rfl, ?_⟩; replace a3 := yaa (Kd.R_below (upR a3.out) hb); have a4 := yaa (Kd.S_lower (Kd.S_new' ho0 (Kd.S_lt (by (with_reducible repeat (first | apply yab | apply yac | apply yaf)); exact a2.out))) (below_size (upH HB.out))); replace a2 := yaa (Kd.S_elder' (by (with_reducible repeat (first | apply yab | apply yac | apply yaf)); exact a2.out) (Kd.S_base ho0) hb); replace HB := yaa (yah (upH HB.out) hb); (try clear hb ho0)) | ((with_reducible refine gc_ 58 rfl ?_); refine gl_ (some 28) rfl Try.func58 #[.slice A1 l1.length c1] ?_; (with_reducible refine (laws_toTenStateS.calls k _ _ l1 b1 _ ?side1 ?side2 A14.out).mono ?_); (case side1 => repeat (first | exact (Kd.C_below HR1.out HB.out) | (with_reducible refine yad ?_ _) | (with_reducible refine yae ?_ _) | (with_reducible refine yag ?_))); (case side2 => exact HC1.out); rintro e w31 ⟨f1, rfl, ho0, hb⟩; refine ⟨_, rfl, ?_⟩; replace a2 := yaa (yai (by (with_reducible repeat (first | apply yab | apply yac | apply yaf)); exact a2.out) hb); replace a4 := yaa (yai (by (with_reducible repeat (first | apply yab | apply yac | apply yaf)); exact a4.out) hb); have a5 := yaa (Kd.R_lower (Kd.R_new' ho0 (Kd.R_lt (upR a3.out))) (below_size (upH HB.out))); replace a3 := yaa (Kd.R_elder' (upR a3.out) (Kd.R_base ho0) hb); replace HB := yaa (yah (upH HB.out) hb); (try clear hb ho0); obtain ⟨c6, c8, d9⟩ := Kd.S_slice a4.out; subst d9; obtain ⟨c9, d0, e0⟩ := Kd.R_slice a5.out; subst e0) | ((with_reducible refine gc_ 59 rfl ?_); refine gl_ (some 31) rfl Try.func59 #[.slice c6 b0.length c8, .slice c9 b1.length d0] ?_; (with_reducible refine (impl_HouOk.calls k _ _ b0 _ _ b1 a9 _ ?side1 ?side2 ?side3 ?side4 A15.out).mono ?_); (case side1 => repeat (first | exact (Kd.S_reads' a4.out).2.2 | (with_reducible refine yad ?_ _) | (with_reducible refine yae ?_ _) | (with_reducible refine yag ?_))); (case side2 => exact (Kd.S_reads' a4.out).2.1); (case side3 => repeat (first | exact (Kd.R_reads' a5.out).2.2 | (with_reducible refine yad ?_ _) | (with_reducible refine yae ?_ _) | (with_reducible refine yag ?_))); (case side4 => exact (Kd.R_reads' a5.out).2.1); rintro e w34 ⟨rfl, hb⟩; refine ⟨_, rfl, ?_⟩; replace a2 := yaa (yai (by (with_reducible repeat (first | apply yab | apply yac | apply yaf)); exact a2.out) hb); replace a3 := yaa (Kd.R_below (upR a3.out) hb); replace a4 := yaa (yai (by (with_reducible repeat (first | apply yab | apply yac | apply yaf)); exact a4.out) hb); replace a5 := yaa (Kd.R_below (upR a5.out) hb); replace HB := yaa (yah (upH HB.out) hb); (try clear hb)) | ((with_reducible refine gc_ 46 rfl ?_); refine gl_ (some 37) rfl Try.func46 #[.slice A0 l0.length c0] ?_; (with_reducible refine (laws_toTenCfgS.calls k _ _ l0 b6 _ ?side1 ?side2 A17.out).mono ?_); (case side1 => repeat (first | exact (Kd.C_below HR0.out HB.out) | (with_reducible refine yad ?_ _) | (with_reducible refine yae ?_ _) | (with_reducible refine yag ?_))); (case side2 => exact HC0.out); rintro e w35 ⟨f2, rfl, ho0, hb⟩; refine ⟨_, rfl, ?_⟩; replace a3 := yaa (Kd.R_below (upR a3.out) hb); replace a5 := yaa (Kd.R_below (upR a5.out) hb); have a6 := yaa (Kd.S_lower (Kd.S_new' (Kd.S_new' ho0 (Kd.S_lt (by (with_reducible repeat (first | apply yab | apply yac | apply yaf)); exact a2.out))) (Kd.S_lt (by (with_reducible repeat (first | apply yab | apply yac | apply yaf)); exact a4.out))) (below_size (upH HB.out))); replace a2 := yaa (Kd.S_elder' (by (with_reducible repeat (first | apply yab | apply yac | apply yaf)); exact a2.out) (Kd.S_base ho0) hb); replace a4 := yaa (Kd.S_elder' (by (with_reducible repeat (first | apply yab | apply yac | apply yaf)); exact a4.out) (Kd.S_base ho0) hb); replace HB := yaa (yah (upH HB.out) hb); (try clear hb ho0); obtain ⟨e1, e2, e3⟩ := Kd.S_slice a6.out; subst e3) | ((with_reducible refine gc_ 49 rfl ?_); refine gl_ (some 38) rfl Try.func49 #[.slice c6 b0.length c8, .slice e1 b6.length e2] ?_; (with_reducible refine (laws_eqTenCfgS.calls k _ _ b0 _ _ b6 true _ ?side1 ?side2 ?side3 ?side4 A18.out).mono ?_); (case side1 => repeat (first | exact (Kd.S_reads' a4.out).2.2 | (with_reducible refine yad ?_ _) | (with_reducible refine yae ?_ _) | (with_reducible refine yag ?_))); (case side2 => exact (Kd.S_reads' a4.out).2.1); (case side3 => repeat (first | exact (Kd.S_reads' a6.out).2.2 | (with_reducible refine yad ?_ _) | (with_reducible refine yae ?_ _) | (with_reducible refine yag ?_))); (case side4 => exact (Kd.S_reads' a6.out).2.1); rintro e w37 ⟨rfl, hb⟩; refine ⟨_, rfl, ?_⟩; replace a2 := yaa (yai (by (with_reducible repeat (first | apply yab | apply yac | apply yaf)); exact a2.out) hb); replace a3 := yaa (Kd.R_below (upR a3.out) hb); replace a4 := yaa (yai (by (with_reducible repeat (first | apply yab | apply yac | apply yaf)); exact a4.out) hb); replace a5 := yaa (Kd.R_below (upR a5.out) hb); replace a6 := yaa (yai (by (with_reducible repeat (first | apply yab | apply yac | apply yaf)); exact a6.out) hb); replace HB := yaa (yah (upH HB.out) hb); (try clear hb)) | ((with_reducible refine gc_ 58 rfl ?_); refine gl_ (some 42) rfl Try.func58 #[.slice A1 l1.length c1] ?_; (with_reducible refine (laws_toTenStateS.calls k _ _ l1 b7 _ ?side1 ?side2 A20.out).mono ?_); (case side1 => repeat (first | exact (Kd.C_below HR1.out HB.out) | (with_reducible refine yad ?_ _) | (with_reducible refine yae ?_ _) | (with_reducible refine yag ?_))); (case side2 => exact HC1.out); rintro e w38 ⟨f3, rfl, ho0, hb⟩; refine ⟨_, rfl, ?_⟩; replace a2 := yaa (yai (by (with_reducible repeat (first | apply yab | apply yac | apply yaf)); exact a2.out) hb); replace a4 := yaa (yai (by (with_reducible repeat (first | apply yab | apply yac | apply yaf)); exact a4.out) hb); replace a6 := yaa (yai (by (with_reducible repeat (first | apply yab | apply yac | apply yaf)); exact a6.out) hb); have b2 := yaa (Kd.R_lower (Kd.R_new' (Kd.R_new' ho0 (Kd.R_lt (upR a3.out))) (Kd.R_lt (upR a5.out))) (below_size (upH HB.out))); replace a3 := yaa (Kd.R_elder' (upR a3.out) (Kd.R_base ho0) hb); replace a5 := yaa (Kd.R_elder' (upR a5.out) (Kd.R_base ho0) hb); replace HB := yaa (yah (upH HB.out) hb); (try clear hb ho0); obtain ⟨e4, e5, e6⟩ := Kd.R_slice b2.out; subst e6) | ((with_reducible refine gc_ 48 rfl ?_); refine gl_ (some 43) rfl Try.func48 #[.slice c9 b1.length d0, .slice e4 b7.length e5] ?_; (with_reducible refine (laws_eqTenStateS.calls k _ _ b1 _ _ b7 true _ ?side1 ?side2 ?side3 ?side4 A21.out).mono ?_); (case side1 => repeat (first | exact (Kd.R_reads' a5.out).2.2 | (with_reducible refine yad ?_ _) | (with_reducible refine yae ?_ _) | (with_reducible refine yag ?_))); (case side2 => exact (Kd.R_reads' a5.out).2.1); (case side3 => repeat (first | exact (Kd.R_reads' b2.out).2.2 | (with_reducible refine yad ?_ _) | (with_reducible refine yae ?_ _) | (with_reducible refine yag ?_))); (case side4 => exact (Kd.R_reads' b2.out).2.1); rintro e w40 ⟨rfl, hb⟩; refine ⟨_, rfl, ?_⟩; replace a2 := yaa (yai (by (with_reducible repeat (first | apply yab | apply yac | apply yaf)); exact a2.out) hb); replace a3 := yaa (Kd.R_below (upR a3.out) hb); replace a4 := yaa (yai (by (with_reducible repeat (first | apply yab | apply yac | apply yaf)); exact a4.out) hb); replace a5 := yaa (Kd.R_below (upR a5.out) hb); replace a6 := yaa (yai (by (with_reducible repeat (first | apply yab | apply yac | apply yaf)); exact a6.out) hb); replace b2 := yaa (Kd.R_below (upR b2.out) hb); replace HB := yaa (yah (upH HB.out) hb); (try clear hb)))
   go_ret
   exact ⟨by first | rfl | (simp [*, errW_none, errW_some] <;> rfl), upH HB.out⟩
  replace c22 := Bool.eq_false_iff.mpr c22
  subst c22
  rw [if_neg (show ¬ (false = true) by decide)] at H
  rw [hrt] at H
  exact absurd H (by simp)
 replace c19 := Bool.eq_false_iff.mpr c19
 subst c19
 rw [if_neg (show ¬ (false = true) by decide)] at H
 rw [hrt] at H
 exact absurd H (by simp)
end
end Go.Proofs.Ytgpkkkmapgnhkaa.X
namespace Go.Proofs.Ytgpkkkmapgnhkaa.Opn
open Go.RowKit Go.Proofs.YtgpkkkmapgnhkaaW.PrintWords
def Opens (P : Program) (t : TypeId) {α : Type} (d : Kd α) (good : α → Prop) : Prop :=
  P.cellsOf t = d.sz ∧ ∀ (H : Type) (enc : TypeId × Value → H) (w : World) (n : Nat) (cs : List Value) (x : DataW H × List MemPlace),
    DataW.trod enc P w 0 (fun _ => true) true n t cs = some x → ∃ a : α, d.K w a cs ∧ good a
theorem opens_int {P : Program} {t : TypeId} {k : IntKind} (ht : P.underlying t = some (.int k)) (hc : P.cellsOf t = 1) :
    Opens P t (Kd.int k) (fun x => (Lit.int k x).wf = true) :=
  ⟨hc, fun H enc w n cs x h => by
    obtain ⟨m, rfl, _, hw⟩ := DataW.trod_int ht h
    exact ⟨m, rfl, hw⟩⟩
theorem opens_string {P : Program} {t : TypeId} (ht : P.underlying t = some .string) (hc : P.cellsOf t = 1) :
    Opens P t Kd.string (fun s => s.size ≤ maxLen) :=
  ⟨hc, fun H enc w n cs x h => by
    obtain ⟨m, rfl, _, hs⟩ := DataW.trod_string ht h
    exact ⟨m, rfl, hs⟩⟩
theorem list_of_get {α : Type} {n : Nat} {R : Nat → α → Prop} : (∀ i, i < n → ∃ a, R i a) → ∃ l : List α, l.length = n ∧ ∀ (i : Nat) (a : α), l[i]? = some a → R i a := by
  induction n with
  | zero => intro _; exact ⟨[], rfl, fun i a h => by simp at h⟩
  | succ n ih =>
    intro h
    obtain ⟨l, hl, hr⟩ := ih (fun i hi => h i (by omega))
    obtain ⟨a, ha⟩ := h n (by omega)
    refine ⟨l ++ [a], by simp [hl], fun i b hb => ?_⟩
    rcases Nat.lt_or_ge i n with hi | hi
    · rw [List.getElem?_append_left (by omega)] at hb
      exact hr i b hb
    · have : i = n := by
        have := (List.getElem?_eq_some_iff.1 hb).1
        simp at this
        omega
      subst this
      subst hl
      have : a = b := by simpa using hb
      subst this
      exact ha
theorem opens_slice {P : Program} {t e : TypeId} {α : Type} {d : Kd α} {good : α → Prop} (ht : P.underlying t = some (.slice e)) (hc : P.cellsOf t = 1) (he : Opens P e d good) :
    Opens P t (Kd.slice e d) (fun l => l.length ≤ maxLen ∧ ∀ a ∈ l, good a) :=
  ⟨hc, fun H enc w n cs x h => by
    rcases DataW.trod_slice ht h with ⟨rfl, _⟩ | ⟨a, len, cap, elems, rest, m, _, rfl, _, _, hlc, hcm, hel, hget, _, _⟩
    · exact ⟨[], ⟨none, 0, rfl, Nat.le_refl _, rfl, by simp, fun h => by simp at h⟩, by simp, by simp⟩
    · have each : ∀ i, i < len → ∃ y : α, good y ∧ ∃ c : List Value, c.length = d.sz ∧ d.K w y c ∧ ∀ j u, c[j]? = some u → w.cell? (a.add (i * d.sz + j)) = some u := by
        intro i hi
        have hg := hget i hi
        rw [List.getElem?_eq_getElem (by omega), he.1] at hg
        obtain ⟨c, hcs, htr⟩ := Option.bind_eq_some_iff.1 hg
        obtain ⟨_, hcl, hcell⟩ := World.cells?_some hcs
        obtain ⟨y, hK, hgood⟩ := he.2 H enc w m c _ htr
        refine ⟨y, hgood, c, hcl, hK, fun j u hu => ?_⟩
        have hj : j < d.sz := by
          have := (List.getElem?_eq_some_iff.1 hu).1
          omega
        rw [← Addr.add_add, hcell j hj, hu]
      obtain ⟨l, hl, hr⟩ := list_of_get each
      refine ⟨l, ⟨some a, cap, ?_, by omega, rfl, ?_, fun _ => ⟨a, rfl, fun j p hj => (hr j p hj).2⟩⟩, by omega, fun y hy => ?_⟩
      · rw [hl]
      · have : maxLen = 9223372036854775807 := rfl
        omega
      · obtain ⟨i, hi⟩ := List.getElem?_of_mem hy
        exact (hr i y hi).1⟩
def OpensF (P : Program) (fs : List Field) (off : Nat) {α : Type} (d : Kd α) (good : α → Prop) : Prop :=
  ∀ (H : Type) (enc : TypeId × Value → H) (w : World) (n : Nat) (cs : List Value), cs.length = off + d.sz →
    (∀ f ∈ fs, ∃ x, DataW.trod enc P w 0 (fun _ => true) true n f.type ((cs.drop f.offset).take (P.cellsOf f.type)) = some x) →
    ∃ a : α, d.K w a (cs.drop off) ∧ good a
theorem opensF_one {P : Program} {f : Field} {off : Nat} {α : Type} {d : Kd α} {good : α → Prop} (ho : f.offset = off) (h : Opens P f.type d good) : OpensF P [f] off d good := by
  intro H enc w n cs hl hx
  obtain ⟨x, hx⟩ := hx f (by simp)
  obtain ⟨a, hK, hg⟩ := h.2 H enc w n _ x hx
  rw [ho, h.1, List.take_of_length_le (by rw [List.length_drop]; omega)] at hK
  exact ⟨a, hK, hg⟩
theorem opensF_cons {P : Program} {f : Field} {fs : List Field} {off : Nat} {α β : Type} {d : Kd α} {d2 : Kd β} {good : α → Prop} {good2 : β → Prop} (ho : f.offset = off) (h : Opens P f.type d good) (h2 : OpensF P fs (off + d.sz) d2 good2) :
    OpensF P (f :: fs) off (Kd.pair d d2) (fun x => good x.1 ∧ good2 x.2) := by
  intro H enc w n cs hl hx
  have hs : (Kd.pair d d2).sz = d.sz + d2.sz := rfl
  obtain ⟨x, hx0⟩ := hx f (by simp)
  obtain ⟨a, hK, hg⟩ := h.2 H enc w n _ x hx0
  obtain ⟨b, hK2, hg2⟩ := h2 H enc w n cs (by omega) (fun f' hf' => hx f' (by simp [hf']))
  rw [ho, h.1] at hK
  refine ⟨(a, b), ⟨_, _, ?_, hK, hK2⟩, hg, hg2⟩
  rw [← List.drop_drop, List.take_append_drop]
theorem opens_struct {P : Program} {t : TypeId} {fs : Array Field} {α : Type} {d : Kd α} {good : α → Prop} (ht : P.underlying t = some (.struct fs)) (hc : P.cellsOf t = d.sz) (h : OpensF P fs.toList 0 d good) : Opens P t d good :=
  ⟨hc, fun H enc w n cs x hx => by
    obtain ⟨xs, m, _, _, hl, hxl, hget⟩ := DataW.trod_struct ht hx
    have := h H enc w m cs (by omega) (fun f hf => by
      obtain ⟨i, hi⟩ := List.getElem?_of_mem hf
      have hi' : fs[i]? = some f := by simpa using hi
      have hlt : i < xs.length := by
        have := (List.getElem?_eq_some_iff.1 hi).1
        simp at this
        omega
      exact ⟨xs[i], by rw [hget i f hi', List.getElem?_eq_getElem hlt]⟩)
    simpa using this⟩
theorem opens_iso {P : Program} {t : TypeId} {α β : Type} {d : Kd α} {good : α → Prop} {f : β → α} (g : α → β) (hfg : ∀ a, f (g a) = a) (h : Opens P t d good) : Opens P t (Kd.iso d f) (fun x => good (f x)) :=
  ⟨h.1, fun H enc w n cs x hx => by
    obtain ⟨a, hK, hg⟩ := h.2 H enc w n cs x hx
    exact ⟨g a, by show d.K w (f (g a)) cs; rw [hfg]; exact hK, by show good (f (g a)); rw [hfg]; exact hg⟩⟩
theorem Opens.of_trod {P : Program} {t : TypeId} {α : Type} {d : Kd α} {good : α → Prop} (h : Opens P t d good) {H : Type} {enc : TypeId × Value → H} {w : World} {v : Value} {x : DataW H} {ps : List MemPlace}
    (ht : DataW.Trod enc P w 0 (fun _ => true) true t v x ps) : ∃ a : α, d.K w a v.cells.toList ∧ good a := by
  obtain ⟨n, hn⟩ := ht
  exact h.2 H enc w n _ _ hn
end Go.Proofs.Ytgpkkkmapgnhkaa.Opn
namespace Go.Proofs.Ytgpkkkmapgnhkaa.X
open Go.RowKit Go.Proofs.YtgpkkkmapgnhkaaW.PrintWords Go.Proofs.Ytgpkkkmapgnhkaa.Opn
set_option linter.unusedVariables false
def g148 (x : S148) : Prop := (Lit.int .i64 x.f0).wf = true ∧ (Lit.int .i64 x.f1).wf = true ∧ (Lit.int .i64 x.f2).wf = true ∧ (Lit.int .i64 x.f3).wf = true ∧ (Lit.int .i64 x.f4).wf = true
set_option maxRecDepth 100000 in
theorem op148 : Opens Try.prog 148 k148 g148 :=
  opens_iso (d := (Kd.pair (Kd.int .i64) (Kd.pair (Kd.int .i64) (Kd.pair (Kd.int .i64) (Kd.pair (Kd.int .i64) (Kd.int .i64)))))) (fun p => ⟨p.1, p.2.1, p.2.2.1, p.2.2.2.1, p.2.2.2.2⟩) (fun _ => rfl) (good := fun p => (Lit.int .i64 p.1).wf = true ∧ (Lit.int .i64 p.2.1).wf = true ∧ (Lit.int .i64 p.2.2.1).wf = true ∧ (Lit.int .i64 p.2.2.2.1).wf = true ∧ (Lit.int .i64 p.2.2.2.2).wf = true) (opens_struct Try.underlying148 (by kernel_rfl) (opensF_cons rfl (opens_int Try.underlying3 (by kernel_rfl)) (opensF_cons rfl (opens_int Try.underlying3 (by kernel_rfl)) (opensF_cons rfl (opens_int Try.underlying3 (by kernel_rfl)) (opensF_cons rfl (opens_int Try.underlying3 (by kernel_rfl)) (opensF_one rfl (opens_int Try.underlying3 (by kernel_rfl))))))))
def g165 (x : S165) : Prop := (Lit.int .i64 x.f0).wf = true ∧ x.f1.size ≤ maxLen ∧ (x.f2.length ≤ maxLen ∧ ∀ y ∈ x.f2, g148 y) ∧ (Lit.int .i64 x.f3).wf = true
set_option maxRecDepth 100000 in
theorem op165 : Opens Try.prog 165 k165 g165 :=
  opens_iso (d := (Kd.pair (Kd.int .i64) (Kd.pair Kd.string (Kd.pair (Kd.slice 148 k148) (Kd.int .i64))))) (fun p => ⟨p.1, p.2.1, p.2.2.1, p.2.2.2⟩) (fun _ => rfl) (good := fun p => (Lit.int .i64 p.1).wf = true ∧ p.2.1.size ≤ maxLen ∧ (p.2.2.1.length ≤ maxLen ∧ ∀ y ∈ p.2.2.1, g148 y) ∧ (Lit.int .i64 p.2.2.2).wf = true) (opens_struct Try.underlying165 (by kernel_rfl) (opensF_cons rfl (opens_int Try.underlying3 (by kernel_rfl)) (opensF_cons rfl (opens_string Try.underlying9 (by kernel_rfl)) (opensF_cons rfl (opens_slice Try.underlying35 (by kernel_rfl) op148) (opensF_one rfl (opens_int Try.underlying3 (by kernel_rfl)))))))
def g167 (x : S167) : Prop := x.f0.size ≤ maxLen ∧ (Lit.int .i64 x.f1).wf = true ∧ (x.f2.length ≤ maxLen ∧ ∀ y ∈ x.f2, (Lit.int .u8 y).wf = true)
set_option maxRecDepth 100000 in
theorem op167 : Opens Try.prog 167 k167 g167 :=
  opens_iso (d := (Kd.pair Kd.string (Kd.pair (Kd.int .i64) (Kd.slice 5 (Kd.int .u8))))) (fun p => ⟨p.1, p.2.1, p.2.2⟩) (fun _ => rfl) (good := fun p => p.1.size ≤ maxLen ∧ (Lit.int .i64 p.2.1).wf = true ∧ (p.2.2.length ≤ maxLen ∧ ∀ y ∈ p.2.2, (Lit.int .u8 y).wf = true)) (opens_struct Try.underlying167 (by kernel_rfl) (opensF_cons rfl (opens_string Try.underlying9 (by kernel_rfl)) (opensF_cons rfl (opens_int Try.underlying3 (by kernel_rfl)) (opensF_one rfl (opens_slice Try.underlying22 (by kernel_rfl) (opens_int Try.underlying5 (by kernel_rfl)))))))
def g169 (x : S169) : Prop := (Lit.int .i64 x.f0).wf = true ∧ (Lit.int .i64 x.f1).wf = true ∧ (x.f2.length ≤ maxLen ∧ ∀ y ∈ x.f2, (Lit.int .u8 y).wf = true)
set_option maxRecDepth 100000 in
theorem op169 : Opens Try.prog 169 k169 g169 :=
  opens_iso (d := (Kd.pair (Kd.int .i64) (Kd.pair (Kd.int .i64) (Kd.slice 5 (Kd.int .u8))))) (fun p => ⟨p.1, p.2.1, p.2.2⟩) (fun _ => rfl) (good := fun p => (Lit.int .i64 p.1).wf = true ∧ (Lit.int .i64 p.2.1).wf = true ∧ (p.2.2.length ≤ maxLen ∧ ∀ y ∈ p.2.2, (Lit.int .u8 y).wf = true)) (opens_struct Try.underlying169 (by kernel_rfl) (opensF_cons rfl (opens_int Try.underlying3 (by kernel_rfl)) (opensF_cons rfl (opens_int Try.underlying3 (by kernel_rfl)) (opensF_one rfl (opens_slice Try.underlying22 (by kernel_rfl) (opens_int Try.underlying5 (by kernel_rfl)))))))
def g30 (x : S30) : Prop := (x.f0.length ≤ maxLen ∧ ∀ y ∈ x.f0, (Lit.int .u8 y).wf = true) ∧ (Lit.int .i64 x.f1).wf = true ∧ (Lit.int .i64 x.f2).wf = true ∧ (Lit.int .i64 x.f3).wf = true ∧ (Lit.int .i64 x.f4).wf = true ∧ (Lit.int .i64 x.f5).wf = true ∧ (Lit.int .i64 x.f6).wf = true
set_option maxRecDepth 100000 in
theorem op30 : Opens Try.prog 30 k30 g30 :=
  opens_iso (d := (Kd.pair (Kd.slice 5 (Kd.int .u8)) (Kd.pair (Kd.int .i64) (Kd.pair (Kd.int .i64) (Kd.pair (Kd.int .i64) (Kd.pair (Kd.int .i64) (Kd.pair (Kd.int .i64) (Kd.int .i64)))))))) (fun p => ⟨p.1, p.2.1, p.2.2.1, p.2.2.2.1, p.2.2.2.2.1, p.2.2.2.2.2.1, p.2.2.2.2.2.2⟩) (fun _ => rfl) (good := fun p => (p.1.length ≤ maxLen ∧ ∀ y ∈ p.1, (Lit.int .u8 y).wf = true) ∧ (Lit.int .i64 p.2.1).wf = true ∧ (Lit.int .i64 p.2.2.1).wf = true ∧ (Lit.int .i64 p.2.2.2.1).wf = true ∧ (Lit.int .i64 p.2.2.2.2.1).wf = true ∧ (Lit.int .i64 p.2.2.2.2.2.1).wf = true ∧ (Lit.int .i64 p.2.2.2.2.2.2).wf = true) (opens_struct Try.underlying30 (by kernel_rfl) (opensF_cons rfl (opens_slice Try.underlying22 (by kernel_rfl) (opens_int Try.underlying5 (by kernel_rfl))) (opensF_cons rfl (opens_int Try.underlying3 (by kernel_rfl)) (opensF_cons rfl (opens_int Try.underlying3 (by kernel_rfl)) (opensF_cons rfl (opens_int Try.underlying3 (by kernel_rfl)) (opensF_cons rfl (opens_int Try.underlying3 (by kernel_rfl)) (opensF_cons rfl (opens_int Try.underlying3 (by kernel_rfl)) (opensF_one rfl (opens_int Try.underlying3 (by kernel_rfl))))))))))
def g83 (x : S83) : Prop := (Lit.int .i64 x.f0).wf = true ∧ (Lit.int .i64 x.f1).wf = true ∧ (Lit.int .i64 x.f2).wf = true ∧ (Lit.int .i64 x.f3).wf = true ∧ (x.f4.length ≤ maxLen ∧ ∀ y ∈ x.f4, g165 y) ∧ (x.f5.length ≤ maxLen ∧ ∀ y ∈ x.f5, g167 y) ∧ (x.f6.length ≤ maxLen ∧ ∀ y ∈ x.f6, y.size ≤ maxLen) ∧ (x.f7.length ≤ maxLen ∧ ∀ y ∈ x.f7, g169 y)
set_option maxRecDepth 100000 in
theorem op83 : Opens Try.prog 83 k83 g83 :=
  opens_iso (d := (Kd.pair (Kd.int .i64) (Kd.pair (Kd.int .i64) (Kd.pair (Kd.int .i64) (Kd.pair (Kd.int .i64) (Kd.pair (Kd.slice 165 k165) (Kd.pair (Kd.slice 167 k167) (Kd.pair (Kd.slice 9 Kd.string) (Kd.slice 169 k169))))))))) (fun p => ⟨p.1, p.2.1, p.2.2.1, p.2.2.2.1, p.2.2.2.2.1, p.2.2.2.2.2.1, p.2.2.2.2.2.2.1, p.2.2.2.2.2.2.2⟩) (fun _ => rfl) (good := fun p => (Lit.int .i64 p.1).wf = true ∧ (Lit.int .i64 p.2.1).wf = true ∧ (Lit.int .i64 p.2.2.1).wf = true ∧ (Lit.int .i64 p.2.2.2.1).wf = true ∧ (p.2.2.2.2.1.length ≤ maxLen ∧ ∀ y ∈ p.2.2.2.2.1, g165 y) ∧ (p.2.2.2.2.2.1.length ≤ maxLen ∧ ∀ y ∈ p.2.2.2.2.2.1, g167 y) ∧ (p.2.2.2.2.2.2.1.length ≤ maxLen ∧ ∀ y ∈ p.2.2.2.2.2.2.1, y.size ≤ maxLen) ∧ (p.2.2.2.2.2.2.2.length ≤ maxLen ∧ ∀ y ∈ p.2.2.2.2.2.2.2, g169 y)) (opens_struct Try.underlying83 (by kernel_rfl) (opensF_cons rfl (opens_int Try.underlying3 (by kernel_rfl)) (opensF_cons rfl (opens_int Try.underlying3 (by kernel_rfl)) (opensF_cons rfl (opens_int Try.underlying3 (by kernel_rfl)) (opensF_cons rfl (opens_int Try.underlying3 (by kernel_rfl)) (opensF_cons rfl (opens_slice Try.underlying79 (by kernel_rfl) op165) (opensF_cons rfl (opens_slice Try.underlying80 (by kernel_rfl) op167) (opensF_cons rfl (opens_slice Try.underlying60 (by kernel_rfl) (opens_string Try.underlying9 (by kernel_rfl))) (opensF_one rfl (opens_slice Try.underlying81 (by kernel_rfl) op169))))))))))
end Go.Proofs.Ytgpkkkmapgnhkaa.X
namespace Go.Proofs.Ytgpkkkmapgnhkaa.X
open Go.RowKit Go.Proofs.YtgpkkkmapgnhkaaW.PrintWords Go.Proofs.YtgpkkkmapgnhkaaW.PrintLast Go.Proofs.YtgpkkkmapgnhkaaW.PrintMore
attribute [local go_sem] max2_int min2_int max_two min_two max_three min_three max_four min_four
set_option linter.unusedVariables false
set_option linter.unusedSimpArgs false
section
open Go.Proofs.YtgpkkkmapgnhkaaW.PrintWords.Aside0 renaming mk → yaa
end
section
open Go.Proofs.YtgpkkkmapgnhkaaW.PrintWords.Aside0 renaming mk → yaa
end
section
def IsS143 (w0 W : World) (g : Nat) (f0 : List Int) (f1 : Int) : Prop := ∃ A0 c0, W.heap[g]? = some (.cells #[.slice A0 f0.length c0, .int .i64 f1] 143 (0, 0)) ∧ w0.heap.size ≤ g ∧ Kd.C (Kd.int .u8) w0 A0 f0.length f0
theorem IsS143.grown {w0 W : World} {g : Nat} {f0 : List Int} {f1 : Int} {W1 : World} {row : Option Nat} (h : IsS143 w0 W g f0 f1) (hw : W.grownBy W1 row) (hne : some g ≠ row) : IsS143 w0 W1 g f0 f1 := by
  obtain ⟨A0, c0, hb, hg, hr0⟩ := h
  exact ⟨A0, c0, blk_grown hb hw hne, hg, hr0⟩
theorem IsS143.kept {w0 W : World} {g : Nat} {f0 : List Int} {f1 : Int} {W1 : World} {S : Nat → Prop} (h : IsS143 w0 W g f0 f1) (hk : Kept W W1 S) (hne : ¬ S g) : IsS143 w0 W1 g f0 f1 := by
  obtain ⟨A0, c0, hb, hg, hr0⟩ := h
  exact ⟨A0, c0, blk_kept hb hk hne, hg, hr0⟩
theorem IsS143.below {w0 W : World} {g : Nat} {f0 : List Int} {f1 : Int} {W1 : World} (h : IsS143 w0 W g f0 f1) (hw : Below W.heap.size W W1) : IsS143 w0 W1 g f0 f1 := h.grown (grown_of_below hw none) (by simp)
theorem IsS143.alloc {w0 W : World} {g : Nat} {f0 : List Int} {f1 : Int} (h : IsS143 w0 W g f0 f1) (o : Obj) : IsS143 w0 (W.alloc o) g f0 f1 := h.below (below_alloc (Below.refl _ _) o)
theorem IsS143.drewN {w0 W : World} {g : Nat} {f0 : List Int} {f1 : Int} (h : IsS143 w0 W g f0 f1) (m : Nat) : IsS143 w0 (W.drewN m) g f0 f1 := h
theorem IsS143.drew {w0 W : World} {g : Nat} {f0 : List Int} {f1 : Int} (h : IsS143 w0 W g f0 f1) : IsS143 w0 W.drew g f0 f1 := h
theorem IsS143.at_ {w0 W : World} {g : Nat} {f0 : List Int} {f1 : Int} {w' : World} {m : Nat} (hq : W.drewN m = w') (h : IsS143 w0 W g f0 f1) : IsS143 w0 w' g f0 f1 := by subst hq; exact IsS143.drewN h m
theorem IsS143.apart {w0 W : World} {g : Nat} {f0 : List Int} {f1 : Int} {α : Type} {d : Kd α} {e : Nat} {base : Nat} {ok : Nat → Prop} {v : Value} {xs : List α} (h : IsS143 w0 W g f0 f1) (ho : d.R e W base ok v xs) (ht : ∀ q, q ∈ e :: d.E → q ≠ 143) : d.R e W base (fun k => ok k ∧ k ≠ g) v xs := by
  obtain ⟨A0, c0, hb, hg, hr0⟩ := h
  exact Kd.R_types ho hb ht
theorem IsS143.own_ne {w0 W : World} {g : Nat} {f0 : List Int} {f1 : Int} {α : Type} {d : Kd α} {e : Nat} {base : Nat} {ok : Nat → Prop} {v : Value} {xs : List α} (h : IsS143 w0 W g f0 f1) (ho : d.R e W base ok v xs) (ht : e ≠ 143) : some g ≠ v.ownBlock := by
  obtain ⟨A0, c0, hb, hg, hr0⟩ := h
  exact Kd.R_ne ho hb ht
theorem IsS143.far {w0 W : World} {g : Nat} {f0 : List Int} {f1 : Int} {p : Addr} (h : IsS143 w0 W g f0 f1) (hne : g ≠ p.block) (u : Value) : IsS143 w0 (W.setCell p u) g f0 f1 := by
  obtain ⟨A0, c0, hb, hg, hr0⟩ := h
  exact ⟨A0, c0, blk_far hb hne u, hg, hr0⟩
theorem IsS143.set_1 {w0 W : World} {g : Nat} {f0 : List Int} {f1 : Int} (h : IsS143 w0 W g f0 f1) (x : Int) : IsS143 w0 (W.setCell ⟨g, 1, none⟩ (.int .i64 x)) g f0 x := by
  obtain ⟨A0, c0, hb, hg, hr0⟩ := h
  exact ⟨A0, c0, by simpa using blk_set hb 1 (.int .i64 x), hg, hr0⟩
theorem IsS143.new (w0 W : World) (A0 : Option Addr) (c0 : Nat) (f0 : List Int) (f1 : Int) (hB : Below w0.heap.size w0 W) (hr0 : Kd.C (Kd.int .u8) w0 A0 f0.length f0) : IsS143 w0 (W.alloc (.cells #[.slice A0 f0.length c0, .int .i64 f1] 143)) W.heap.size f0 f1 := ⟨A0, c0, by simpa using heap_alloc_new W _, hB.size, hr0⟩
end
section
end
section
end
section
open Go.Proofs.YtgpkkkmapgnhkaaW.PrintWords.Aside0 renaming mk → yaa
open Go.Proofs.Ytgpkkkmapgnhkaa.X.IsS143 renaming alloc → yab, drewN → yac, set_1 → yad, drew → yae
open Go.Proofs.YtgpkkkmapgnhkaaW.PrintWords.KeepBut renaming set_ → yaf
open Go.Proofs.YtgpkkkmapgnhkaaW.PrintWords renaming pw_below_drewN → yag
end
section
open Go.Proofs.YtgpkkkmapgnhkaaW.PrintWords.Aside0 renaming mk → yaa
open Go.Proofs.Ytgpkkkmapgnhkaa.X.IsS143 renaming alloc → yab, drewN → yac, set_1 → yad, far → yae, drew → yaf, apart → yar, below → yba
open Go.Proofs.YtgpkkkmapgnhkaaW.PrintWords.KeepBut renaming set_ → yag, trans → yal, blk → yaq, of_below → yax
open Go.Proofs.YtgpkkkmapgnhkaaW.PrintWords renaming below_set → yah, pw_below_drewN → yai, keep_drewN → yaj, keep_alloc → yak, keep_drew → yam, below_alloc → yao, below_drew1 → yap, blk_put → yav, below_step → ybb, blk_below → ybd
open Go.Proofs.YtgpkkkmapgnhkaaW.PrintWords.Kd renaming R_far → yat, R_mono → yau, R_types → ybc
open Go.Proofs.Ytgpkkkmapgnhkaa.X renaming IsS143 → yaz
end
section
end
section
end
end Go.Proofs.Ytgpkkkmapgnhkaa.X
