/- Lemmas and contracts for the law FnExactAskOk, part 3: of the program's functions, and over data alone. No condition. -/
import Derived.Test.YtgpkkkmapgnhkaaMFnExactAskOk1
import Derived.Test.YtgpkkkmapgnhkaaMFnExactAskOk2
import Derived.Test.YtgpkkkmapgnhkaaWWords
import Derived.ChangeArms
import Derived.WideShapes
import Derived.DataElems
import Derived.DataReads
import Derived.KernelRfl
namespace Go.Proofs.Ytgpkkkmapgnhkaa.X
open Go.RowKit Go.Proofs.YtgpkkkmapgnhkaaW.PrintWords Go.Proofs.YtgpkkkmapgnhkaaW.PrintLast Go.Proofs.YtgpkkkmapgnhkaaW.PrintMore
attribute [local go_sem] max2_int min2_int max_two min_two max_three min_three max_four min_four   -- for this text's walks alone
set_option linter.unusedVariables false
set_option linter.unusedSimpArgs false

/-! ### laws_eqUrlAsk: function 24 -/
def laws_eqUrlAsk.f (k : Nat) (l0_0 : List (S146)) (a0_1 : ByteArray) (a0_2 : Int) (l1_0 : List (S146)) (a1_1 : ByteArray) (a1_2 : Int) : Option (Bool) := (laws_eqOpOpS.f k l0_0 l1_0).bind fun t354 => (if t354 = true then (if a0_1.toList = a1_1.toList then (if a0_2 = a1_2 then (some true) else (some false)) else (some false)) else (some false))
theorem laws_eqUrlAsk.mono : ∀ a0 a1 a2 a3 a4 a5 k, LeO (laws_eqUrlAsk.f k a0 a1 a2 a3 a4 a5) (laws_eqUrlAsk.f (k + 1) a0 a1 a2 a3 a4 a5) := by
  intro a0 a1 a2 a3 a4 a5 k
  unfold laws_eqUrlAsk.f
  repeat' first
      | (with_reducible exact laws_eqOpOpS.mono _ _ _)
      | (with_reducible exact LeO.refl _)
      | (with_reducible exact LeO.none _)
      | (with_reducible refine LeO.ite ?_ ?_)
      | (with_reducible refine LeO.bind ?_ (fun _ => ?_))
      | exact laws_eqOpOpS.mono _ _ _
      | exact LeO.none _
      | refine LeO.ite ?_ ?_
      | refine LeO.bind ?_ (fun _ => ?_)
set_option maxHeartbeats 8000000 in
set_option maxRecDepth 100000 in
theorem laws_eqUrlAsk.calls (k : Nat) (A0_0 : Option Addr) (c0_0 : Nat) (l0_0 : List (S146)) (a0_1 : ByteArray) (a0_2 : Int) (A1_0 : Option Addr) (c1_0 : Nat) (l1_0 : List (S146)) (a1_1 : ByteArray) (a1_2 : Int) (r : Bool) (w : World) (hr0_0 : Kd.C k146 w A0_0 l0_0.length l0_0) (hc0_0 : l0_0.length ≤ c0_0) (hr1_0 : Kd.C k146 w A1_0 l1_0.length l1_0) (hc1_0 : l1_0.length ≤ c1_0) (h : laws_eqUrlAsk.f k l0_0 a0_1 a0_2 l1_0 a1_1 a1_2 = some r) :
    Calls Try.prog 24 #[.agg #[.slice A0_0 l0_0.length c0_0, .string a0_1, .int .i64 a0_2], .agg #[.slice A1_0 l1_0.length c1_0, .string a1_1, .int .i64 a1_2]] w fun e w' => e = .returned (.bool r) ∧ Below w.heap.size w w' := by
  have hu42 := Try.underlying42
  have HR0_0 := Aside0.mk hr0_0
  have HC0_0 := Aside0.mk hc0_0
  clear hr0_0 hc0_0
  have HR1_0 := Aside0.mk hr1_0
  have HC1_0 := Aside0.mk hc1_0
  clear hr1_0 hc1_0
  have HB := Aside0.mk (Below.refl w.heap.size w)
  have H : ((laws_eqOpOpS.f k l0_0 l1_0).bind fun t354 => (if t354 = true then (if a0_1.toList = a1_1.toList then (if a0_2 = a1_2 then (some true) else (some false)) else (some false)) else (some false))) = some r := h
  clear h
  replace H := Option.bind_eq_some_iff.mp H
  obtain ⟨t354, A30, H⟩ := H
  replace H : (if t354 = true then (if a0_1.toList = a1_1.toList then (if a0_2 = a1_2 then (some true) else (some false)) else (some false)) else (some false)) = some r := H
  have A3 := Aside0.mk A30
  clear A30
  by_cases c4 : t354 = true
  · subst c4
    have H1 : (if a0_1.toList = a1_1.toList then (if a0_2 = a1_2 then (some true) else (some false)) else (some false)) = some r := by rw [if_pos rfl] at H; exact H
    clear H
    have H := H1
    clear H1
    by_cases c5 : a0_1.toList = a1_1.toList
    · rw [if_pos c5] at H
      have c5b0 : (a0_1.toList == a1_1.toList) = true := beq_iff_eq.mpr c5
      have c5b1 : (a0_1.toList != a1_1.toList) = false := bne_eq_false_iff_eq.mpr c5
      clear c5
      by_cases c6 : a0_2 = a1_2
      · rw [if_pos c6] at H
        have c6b0 : (a0_2 == a1_2) = true := beq_iff_eq.mpr c6
        have c6b1 : (a0_2 != a1_2) = false := bne_eq_false_iff_eq.mpr c6
        clear c6
        obtain rfl := Option.some.inj H
        go_enter Try.func24, Try.ntmps24
        go_wp2_with (first | ((with_reducible refine gate_dst (N := 2) rfl ?_); refine box_event ?hg (N := 2) ?hd (cs := #[.slice A0_0 l0_0.length c0_0, .string a0_1, .int .i64 a0_2]) (t := 42) ?hr ?_; (case hd => rfl); (case hg => rfl); (case hr => first | (go_simp; done) | (go_simp; rfl)); intro gb352 hg w7 hbox hb; have n0_ := Aside0.mk (below_step (by repeat (first | (with_reducible first | exact HB.out | apply below_alloc | apply pw_below_drewN | apply below_drew1) | exact HB.out)) hb); have n1_ := Aside0.mk (hbox); have n2_ := Aside0.mk ((by rw [hg]; exact (below_size (by repeat (first | (with_reducible first | exact HB.out | apply below_alloc | apply pw_below_drewN | apply below_drew1) | exact HB.out))) : w.heap.size ≤ gb352)); have n3_ := Aside0.mk ((by rw [hg]; exact (below_size (by repeat (first | (with_reducible first | exact HB.out | apply below_alloc | apply pw_below_drewN | apply below_drew1) | exact HB.out))) : w.heap.size ≤ gb352)); clear HB; have HB := n0_; have BK352 := n1_; have GW352 := n2_; have GE352 := n3_; clear n0_ n1_ n2_ n3_; clear hb hbox hg) | ((with_reducible refine gate_dst (N := 3) rfl ?_); refine box_event ?hg (N := 3) ?hd (cs := #[.slice A1_0 l1_0.length c1_0, .string a1_1, .int .i64 a1_2]) (t := 42) ?hr ?_; (case hd => rfl); (case hg => rfl); (case hr => first | (go_simp; done) | (go_simp; rfl)); intro gb353 hg w8 hbox hb; have n0_ := Aside0.mk (blk_below (g := gb352) (o := .cells #[.slice A0_0 l0_0.length c0_0, .string a0_1, .int .i64 a0_2] 42 (0, 0)) (by (with_reducible repeat (first | refine blk_drewN ?_ _ | refine blk_drew ?_ | refine blk_alloc ?_ _)); exact BK352.out) hb); have n1_ := Aside0.mk (below_step (by repeat (first | (with_reducible first | exact HB.out | apply below_alloc | apply pw_below_drewN | apply below_drew1 | refine below_set ?_ GE352.out) | exact HB.out)) hb); have n2_ := Aside0.mk (hbox); have n3_ := Aside0.mk ((by rw [hg]; exact (below_size (by repeat (first | (with_reducible first | exact HB.out | apply below_alloc | apply pw_below_drewN | apply below_drew1 | refine below_set ?_ GE352.out) | exact HB.out))) : w.heap.size ≤ gb353)); have n4_ := Aside0.mk ((by rw [hg]; exact (below_size (by repeat (first | (with_reducible first | exact HB.out | apply below_alloc | apply pw_below_drewN | apply below_drew1 | refine below_set ?_ GE352.out) | exact HB.out))) : w.heap.size ≤ gb353)); have n5_ := Aside0.mk ((by rw [hg]; exact Nat.ne_of_lt (blk_lt (g := gb352) (o := .cells #[.slice A0_0 l0_0.length c0_0, .string a0_1, .int .i64 a0_2] 42 (0, 0)) (by (with_reducible repeat (first | refine blk_drewN ?_ _ | refine blk_drew ?_ | refine blk_alloc ?_ _)); exact BK352.out)) : gb352 ≠ gb353)); have n6_ := Aside0.mk ((by rw [hg]; exact Nat.ne_of_gt (blk_lt (g := gb352) (o := .cells #[.slice A0_0 l0_0.length c0_0, .string a0_1, .int .i64 a0_2] 42 (0, 0)) (by (with_reducible repeat (first | refine blk_drewN ?_ _ | refine blk_drew ?_ | refine blk_alloc ?_ _)); exact BK352.out)) : gb353 ≠ gb352)); clear BK352; clear HB; have BK352 := n0_; have HB := n1_; have BK353 := n2_; have GW353 := n3_; have GE353 := n4_; have NB352_353 := n5_; have NB353_352 := n6_; clear n0_ n1_ n2_ n3_ n4_ n5_ n6_; clear hb hbox hg; have hnb9 := NB352_353.out; have hnc9 := NB353_352.out; have hcz10_0 : w8.cell? ⟨gb352, 0, none⟩ = some (.slice A0_0 l0_0.length c0_0) := (blk_cell BK352.out 0).trans rfl; have hcz10_1 : w8.cell? ⟨gb352, 1, none⟩ = some (.string a0_1) := (blk_cell BK352.out 1).trans rfl; have hcz10_2 : w8.cell? ⟨gb352, 2, none⟩ = some (.int .i64 a0_2) := (blk_cell BK352.out 2).trans rfl; have hfz10_0 := blk_frozen BK352.out 0; have hfz10_1 := blk_frozen BK352.out 1; have hfz10_2 := blk_frozen BK352.out 2; have hcz11_0 : w8.cell? ⟨gb353, 0, none⟩ = some (.slice A1_0 l1_0.length c1_0) := (blk_cell BK353.out 0).trans rfl; have hcz11_1 : w8.cell? ⟨gb353, 1, none⟩ = some (.string a1_1) := (blk_cell BK353.out 1).trans rfl; have hcz11_2 : w8.cell? ⟨gb353, 2, none⟩ = some (.int .i64 a1_2) := (blk_cell BK353.out 2).trans rfl; have hfz11_0 := blk_frozen BK353.out 0; have hfz11_1 := blk_frozen BK353.out 1; have hfz11_2 := blk_frozen BK353.out 2) | ((with_reducible refine gate_callee (f := 74) rfl ?_); refine goesL_ (some 9) rfl rfl Try.func74 (by kernel_rfl) rfl #[.slice A0_0 l0_0.length c0_0, .slice A1_0 l1_0.length c1_0] rfl (by (try simp only [List.map_toArray, List.map_cons, List.map_nil]); first | done | rfl | (simp only [List.length_drop, List.length_take]; rfl)) ?_; (with_reducible refine (laws_eqOpOpS.calls k _ _ l0_0 _ _ l1_0 true _ ?side1 ?side2 ?side3 ?side4 A3.out).mono ?_); (case side1 => repeat (first | exact (Kd.C_below HR0_0.out HB.out) | (with_reducible refine Kd.C_alloc ?_ _) | (with_reducible refine Kd.C_drewN ?_ _) | (with_reducible refine Kd.C_drew ?_))); (case side2 => exact HC0_0.out); (case side3 => repeat (first | exact (Kd.C_below HR1_0.out HB.out) | (with_reducible refine Kd.C_alloc ?_ _) | (with_reducible refine Kd.C_drewN ?_ _) | (with_reducible refine Kd.C_drew ?_))); (case side4 => exact HC1_0.out); rintro e w12 ⟨rfl, hb⟩; refine ⟨_, rfl, ?_⟩; have n0_ := Aside0.mk (blk_below (g := gb352) (o := .cells #[.slice A0_0 l0_0.length c0_0, .string a0_1, .int .i64 a0_2] 42 (0, 0)) (by (with_reducible repeat (first | refine blk_drewN ?_ _ | refine blk_drew ?_ | refine blk_alloc ?_ _)); exact BK352.out) hb); have n1_ := Aside0.mk (blk_below (g := gb353) (o := .cells #[.slice A1_0 l1_0.length c1_0, .string a1_1, .int .i64 a1_2] 42 (0, 0)) (by (with_reducible repeat (first | refine blk_drewN ?_ _ | refine blk_drew ?_ | refine blk_alloc ?_ _)); exact BK353.out) hb); have n2_ := Aside0.mk (below_step (by repeat (first | (with_reducible first | exact HB.out | apply below_alloc | apply pw_below_drewN | apply below_drew1 | refine below_set ?_ GE352.out | refine below_set ?_ GE353.out) | exact HB.out)) hb); clear BK352; clear BK353; clear HB; have BK352 := n0_; have BK353 := n1_; have HB := n2_; clear n0_ n1_ n2_; (try clear hb); (try clear hb2); (try clear hk); (try clear hi); have hcz13_0 : w12.cell? ⟨gb352, 0, none⟩ = some (.slice A0_0 l0_0.length c0_0) := (blk_cell BK352.out 0).trans rfl; have hcz13_1 : w12.cell? ⟨gb352, 1, none⟩ = some (.string a0_1) := (blk_cell BK352.out 1).trans rfl; have hcz13_2 : w12.cell? ⟨gb352, 2, none⟩ = some (.int .i64 a0_2) := (blk_cell BK352.out 2).trans rfl; have hfz13_0 := blk_frozen BK352.out 0; have hfz13_1 := blk_frozen BK352.out 1; have hfz13_2 := blk_frozen BK352.out 2; have hcz14_0 : w12.cell? ⟨gb353, 0, none⟩ = some (.slice A1_0 l1_0.length c1_0) := (blk_cell BK353.out 0).trans rfl; have hcz14_1 : w12.cell? ⟨gb353, 1, none⟩ = some (.string a1_1) := (blk_cell BK353.out 1).trans rfl; have hcz14_2 : w12.cell? ⟨gb353, 2, none⟩ = some (.int .i64 a1_2) := (blk_cell BK353.out 2).trans rfl; have hfz14_0 := blk_frozen BK353.out 0; have hfz14_1 := blk_frozen BK353.out 1; have hfz14_2 := blk_frozen BK353.out 2))
        go_ret
        exact ⟨by first | rfl | (simp [errW_none, errW_some] <;> rfl) | (simp [*, errW_none, errW_some] <;> rfl), by repeat (first | (with_reducible first | exact HB.out | apply below_alloc | apply pw_below_drewN | apply below_drew1 | refine below_set ?_ GE352.out | refine below_set ?_ GE353.out) | exact HB.out)⟩
      · rw [if_neg c6] at H
        have c6b0 : (a0_2 == a1_2) = false := beq_eq_false_iff_ne.mpr c6
        have c6b1 : (a0_2 != a1_2) = true := bne_iff_ne.mpr c6
        obtain rfl := Option.some.inj H
        go_enter Try.func24, Try.ntmps24
        go_wp2_with (first | ((with_reducible refine gate_dst (N := 2) rfl ?_); refine box_event ?hg (N := 2) ?hd (cs := #[.slice A0_0 l0_0.length c0_0, .string a0_1, .int .i64 a0_2]) (t := 42) ?hr ?_; (case hd => rfl); (case hg => rfl); (case hr => first | (go_simp; done) | (go_simp; rfl)); intro gb352 hg w15 hbox hb; have n0_ := Aside0.mk (below_step (by repeat (first | (with_reducible first | exact HB.out | apply below_alloc | apply pw_below_drewN | apply below_drew1) | exact HB.out)) hb); have n1_ := Aside0.mk (hbox); have n2_ := Aside0.mk ((by rw [hg]; exact (below_size (by repeat (first | (with_reducible first | exact HB.out | apply below_alloc | apply pw_below_drewN | apply below_drew1) | exact HB.out))) : w.heap.size ≤ gb352)); have n3_ := Aside0.mk ((by rw [hg]; exact (below_size (by repeat (first | (with_reducible first | exact HB.out | apply below_alloc | apply pw_below_drewN | apply below_drew1) | exact HB.out))) : w.heap.size ≤ gb352)); clear HB; have HB := n0_; have BK352 := n1_; have GW352 := n2_; have GE352 := n3_; clear n0_ n1_ n2_ n3_; clear hb hbox hg) | ((with_reducible refine gate_dst (N := 3) rfl ?_); refine box_event ?hg (N := 3) ?hd (cs := #[.slice A1_0 l1_0.length c1_0, .string a1_1, .int .i64 a1_2]) (t := 42) ?hr ?_; (case hd => rfl); (case hg => rfl); (case hr => first | (go_simp; done) | (go_simp; rfl)); intro gb353 hg w16 hbox hb; have n0_ := Aside0.mk (blk_below (g := gb352) (o := .cells #[.slice A0_0 l0_0.length c0_0, .string a0_1, .int .i64 a0_2] 42 (0, 0)) (by (with_reducible repeat (first | refine blk_drewN ?_ _ | refine blk_drew ?_ | refine blk_alloc ?_ _)); exact BK352.out) hb); have n1_ := Aside0.mk (below_step (by repeat (first | (with_reducible first | exact HB.out | apply below_alloc | apply pw_below_drewN | apply below_drew1 | refine below_set ?_ GE352.out) | exact HB.out)) hb); have n2_ := Aside0.mk (hbox); have n3_ := Aside0.mk ((by rw [hg]; exact (below_size (by repeat (first | (with_reducible first | exact HB.out | apply below_alloc | apply pw_below_drewN | apply below_drew1 | refine below_set ?_ GE352.out) | exact HB.out))) : w.heap.size ≤ gb353)); have n4_ := Aside0.mk ((by rw [hg]; exact (below_size (by repeat (first | (with_reducible first | exact HB.out | apply below_alloc | apply pw_below_drewN | apply below_drew1 | refine below_set ?_ GE352.out) | exact HB.out))) : w.heap.size ≤ gb353)); have n5_ := Aside0.mk ((by rw [hg]; exact Nat.ne_of_lt (blk_lt (g := gb352) (o := .cells #[.slice A0_0 l0_0.length c0_0, .string a0_1, .int .i64 a0_2] 42 (0, 0)) (by (with_reducible repeat (first | refine blk_drewN ?_ _ | refine blk_drew ?_ | refine blk_alloc ?_ _)); exact BK352.out)) : gb352 ≠ gb353)); have n6_ := Aside0.mk ((by rw [hg]; exact Nat.ne_of_gt (blk_lt (g := gb352) (o := .cells #[.slice A0_0 l0_0.length c0_0, .string a0_1, .int .i64 a0_2] 42 (0, 0)) (by (with_reducible repeat (first | refine blk_drewN ?_ _ | refine blk_drew ?_ | refine blk_alloc ?_ _)); exact BK352.out)) : gb353 ≠ gb352)); clear BK352; clear HB; have BK352 := n0_; have HB := n1_; have BK353 := n2_; have GW353 := n3_; have GE353 := n4_; have NB352_353 := n5_; have NB353_352 := n6_; clear n0_ n1_ n2_ n3_ n4_ n5_ n6_; clear hb hbox hg; have hnb17 := NB352_353.out; have hnc17 := NB353_352.out; have hcz18_0 : w16.cell? ⟨gb352, 0, none⟩ = some (.slice A0_0 l0_0.length c0_0) := (blk_cell BK352.out 0).trans rfl; have hcz18_1 : w16.cell? ⟨gb352, 1, none⟩ = some (.string a0_1) := (blk_cell BK352.out 1).trans rfl; have hcz18_2 : w16.cell? ⟨gb352, 2, none⟩ = some (.int .i64 a0_2) := (blk_cell BK352.out 2).trans rfl; have hfz18_0 := blk_frozen BK352.out 0; have hfz18_1 := blk_frozen BK352.out 1; have hfz18_2 := blk_frozen BK352.out 2; have hcz19_0 : w16.cell? ⟨gb353, 0, none⟩ = some (.slice A1_0 l1_0.length c1_0) := (blk_cell BK353.out 0).trans rfl; have hcz19_1 : w16.cell? ⟨gb353, 1, none⟩ = some (.string a1_1) := (blk_cell BK353.out 1).trans rfl; have hcz19_2 : w16.cell? ⟨gb353, 2, none⟩ = some (.int .i64 a1_2) := (blk_cell BK353.out 2).trans rfl; have hfz19_0 := blk_frozen BK353.out 0; have hfz19_1 := blk_frozen BK353.out 1; have hfz19_2 := blk_frozen BK353.out 2) | ((with_reducible refine gate_callee (f := 74) rfl ?_); refine goesL_ (some 9) rfl rfl Try.func74 (by kernel_rfl) rfl #[.slice A0_0 l0_0.length c0_0, .slice A1_0 l1_0.length c1_0] rfl (by (try simp only [List.map_toArray, List.map_cons, List.map_nil]); first | done | rfl | (simp only [List.length_drop, List.length_take]; rfl)) ?_; (with_reducible refine (laws_eqOpOpS.calls k _ _ l0_0 _ _ l1_0 true _ ?side1 ?side2 ?side3 ?side4 A3.out).mono ?_); (case side1 => repeat (first | exact (Kd.C_below HR0_0.out HB.out) | (with_reducible refine Kd.C_alloc ?_ _) | (with_reducible refine Kd.C_drewN ?_ _) | (with_reducible refine Kd.C_drew ?_))); (case side2 => exact HC0_0.out); (case side3 => repeat (first | exact (Kd.C_below HR1_0.out HB.out) | (with_reducible refine Kd.C_alloc ?_ _) | (with_reducible refine Kd.C_drewN ?_ _) | (with_reducible refine Kd.C_drew ?_))); (case side4 => exact HC1_0.out); rintro e w20 ⟨rfl, hb⟩; refine ⟨_, rfl, ?_⟩; have n0_ := Aside0.mk (blk_below (g := gb352) (o := .cells #[.slice A0_0 l0_0.length c0_0, .string a0_1, .int .i64 a0_2] 42 (0, 0)) (by (with_reducible repeat (first | refine blk_drewN ?_ _ | refine blk_drew ?_ | refine blk_alloc ?_ _)); exact BK352.out) hb); have n1_ := Aside0.mk (blk_below (g := gb353) (o := .cells #[.slice A1_0 l1_0.length c1_0, .string a1_1, .int .i64 a1_2] 42 (0, 0)) (by (with_reducible repeat (first | refine blk_drewN ?_ _ | refine blk_drew ?_ | refine blk_alloc ?_ _)); exact BK353.out) hb); have n2_ := Aside0.mk (below_step (by repeat (first | (with_reducible first | exact HB.out | apply below_alloc | apply pw_below_drewN | apply below_drew1 | refine below_set ?_ GE352.out | refine below_set ?_ GE353.out) | exact HB.out)) hb); clear BK352; clear BK353; clear HB; have BK352 := n0_; have BK353 := n1_; have HB := n2_; clear n0_ n1_ n2_; (try clear hb); (try clear hb2); (try clear hk); (try clear hi); have hcz21_0 : w20.cell? ⟨gb352, 0, none⟩ = some (.slice A0_0 l0_0.length c0_0) := (blk_cell BK352.out 0).trans rfl; have hcz21_1 : w20.cell? ⟨gb352, 1, none⟩ = some (.string a0_1) := (blk_cell BK352.out 1).trans rfl; have hcz21_2 : w20.cell? ⟨gb352, 2, none⟩ = some (.int .i64 a0_2) := (blk_cell BK352.out 2).trans rfl; have hfz21_0 := blk_frozen BK352.out 0; have hfz21_1 := blk_frozen BK352.out 1; have hfz21_2 := blk_frozen BK352.out 2; have hcz22_0 : w20.cell? ⟨gb353, 0, none⟩ = some (.slice A1_0 l1_0.length c1_0) := (blk_cell BK353.out 0).trans rfl; have hcz22_1 : w20.cell? ⟨gb353, 1, none⟩ = some (.string a1_1) := (blk_cell BK353.out 1).trans rfl; have hcz22_2 : w20.cell? ⟨gb353, 2, none⟩ = some (.int .i64 a1_2) := (blk_cell BK353.out 2).trans rfl; have hfz22_0 := blk_frozen BK353.out 0; have hfz22_1 := blk_frozen BK353.out 1; have hfz22_2 := blk_frozen BK353.out 2))
        go_ret
        exact ⟨by first | rfl | (simp [errW_none, errW_some] <;> rfl) | (simp [*, errW_none, errW_some] <;> rfl), by repeat (first | (with_reducible first | exact HB.out | apply below_alloc | apply pw_below_drewN | apply below_drew1 | refine below_set ?_ GE352.out | refine below_set ?_ GE353.out) | exact HB.out)⟩
    · rw [if_neg c5] at H
      have c5b0 : (a0_1.toList == a1_1.toList) = false := beq_eq_false_iff_ne.mpr c5
      have c5b1 : (a0_1.toList != a1_1.toList) = true := bne_iff_ne.mpr c5
      obtain rfl := Option.some.inj H
      go_enter Try.func24, Try.ntmps24
      go_wp2_with (first | ((with_reducible refine gate_dst (N := 2) rfl ?_); refine box_event ?hg (N := 2) ?hd (cs := #[.slice A0_0 l0_0.length c0_0, .string a0_1, .int .i64 a0_2]) (t := 42) ?hr ?_; (case hd => rfl); (case hg => rfl); (case hr => first | (go_simp; done) | (go_simp; rfl)); intro gb352 hg w23 hbox hb; have n0_ := Aside0.mk (below_step (by repeat (first | (with_reducible first | exact HB.out | apply below_alloc | apply pw_below_drewN | apply below_drew1) | exact HB.out)) hb); have n1_ := Aside0.mk (hbox); have n2_ := Aside0.mk ((by rw [hg]; exact (below_size (by repeat (first | (with_reducible first | exact HB.out | apply below_alloc | apply pw_below_drewN | apply below_drew1) | exact HB.out))) : w.heap.size ≤ gb352)); have n3_ := Aside0.mk ((by rw [hg]; exact (below_size (by repeat (first | (with_reducible first | exact HB.out | apply below_alloc | apply pw_below_drewN | apply below_drew1) | exact HB.out))) : w.heap.size ≤ gb352)); clear HB; have HB := n0_; have BK352 := n1_; have GW352 := n2_; have GE352 := n3_; clear n0_ n1_ n2_ n3_; clear hb hbox hg) | ((with_reducible refine gate_dst (N := 3) rfl ?_); refine box_event ?hg (N := 3) ?hd (cs := #[.slice A1_0 l1_0.length c1_0, .string a1_1, .int .i64 a1_2]) (t := 42) ?hr ?_; (case hd => rfl); (case hg => rfl); (case hr => first | (go_simp; done) | (go_simp; rfl)); intro gb353 hg w24 hbox hb; have n0_ := Aside0.mk (blk_below (g := gb352) (o := .cells #[.slice A0_0 l0_0.length c0_0, .string a0_1, .int .i64 a0_2] 42 (0, 0)) (by (with_reducible repeat (first | refine blk_drewN ?_ _ | refine blk_drew ?_ | refine blk_alloc ?_ _)); exact BK352.out) hb); have n1_ := Aside0.mk (below_step (by repeat (first | (with_reducible first | exact HB.out | apply below_alloc | apply pw_below_drewN | apply below_drew1 | refine below_set ?_ GE352.out) | exact HB.out)) hb); have n2_ := Aside0.mk (hbox); have n3_ := Aside0.mk ((by rw [hg]; exact (below_size (by repeat (first | (with_reducible first | exact HB.out | apply below_alloc | apply pw_below_drewN | apply below_drew1 | refine below_set ?_ GE352.out) | exact HB.out))) : w.heap.size ≤ gb353)); have n4_ := Aside0.mk ((by rw [hg]; exact (below_size (by repeat (first | (with_reducible first | exact HB.out | apply below_alloc | apply pw_below_drewN | apply below_drew1 | refine below_set ?_ GE352.out) | exact HB.out))) : w.heap.size ≤ gb353)); have n5_ := Aside0.mk ((by rw [hg]; exact Nat.ne_of_lt (blk_lt (g := gb352) (o := .cells #[.slice A0_0 l0_0.length c0_0, .string a0_1, .int .i64 a0_2] 42 (0, 0)) (by (with_reducible repeat (first | refine blk_drewN ?_ _ | refine blk_drew ?_ | refine blk_alloc ?_ _)); exact BK352.out)) : gb352 ≠ gb353)); have n6_ := Aside0.mk ((by rw [hg]; exact Nat.ne_of_gt (blk_lt (g := gb352) (o := .cells #[.slice A0_0 l0_0.length c0_0, .string a0_1, .int .i64 a0_2] 42 (0, 0)) (by (with_reducible repeat (first | refine blk_drewN ?_ _ | refine blk_drew ?_ | refine blk_alloc ?_ _)); exact BK352.out)) : gb353 ≠ gb352)); clear BK352; clear HB; have BK352 := n0_; have HB := n1_; have BK353 := n2_; have GW353 := n3_; have GE353 := n4_; have NB352_353 := n5_; have NB353_352 := n6_; clear n0_ n1_ n2_ n3_ n4_ n5_ n6_; clear hb hbox hg; have hnb25 := NB352_353.out; have hnc25 := NB353_352.out; have hcz26_0 : w24.cell? ⟨gb352, 0, none⟩ = some (.slice A0_0 l0_0.length c0_0) := (blk_cell BK352.out 0).trans rfl; have hcz26_1 : w24.cell? ⟨gb352, 1, none⟩ = some (.string a0_1) := (blk_cell BK352.out 1).trans rfl; have hcz26_2 : w24.cell? ⟨gb352, 2, none⟩ = some (.int .i64 a0_2) := (blk_cell BK352.out 2).trans rfl; have hfz26_0 := blk_frozen BK352.out 0; have hfz26_1 := blk_frozen BK352.out 1; have hfz26_2 := blk_frozen BK352.out 2; have hcz27_0 : w24.cell? ⟨gb353, 0, none⟩ = some (.slice A1_0 l1_0.length c1_0) := (blk_cell BK353.out 0).trans rfl; have hcz27_1 : w24.cell? ⟨gb353, 1, none⟩ = some (.string a1_1) := (blk_cell BK353.out 1).trans rfl; have hcz27_2 : w24.cell? ⟨gb353, 2, none⟩ = some (.int .i64 a1_2) := (blk_cell BK353.out 2).trans rfl; have hfz27_0 := blk_frozen BK353.out 0; have hfz27_1 := blk_frozen BK353.out 1; have hfz27_2 := blk_frozen BK353.out 2) | ((with_reducible refine gate_callee (f := 74) rfl ?_); refine goesL_ (some 9) rfl rfl Try.func74 (by kernel_rfl) rfl #[.slice A0_0 l0_0.length c0_0, .slice A1_0 l1_0.length c1_0] rfl (by (try simp only [List.map_toArray, List.map_cons, List.map_nil]); first | done | rfl | (simp only [List.length_drop, List.length_take]; rfl)) ?_; (with_reducible refine (laws_eqOpOpS.calls k _ _ l0_0 _ _ l1_0 true _ ?side1 ?side2 ?side3 ?side4 A3.out).mono ?_); (case side1 => repeat (first | exact (Kd.C_below HR0_0.out HB.out) | (with_reducible refine Kd.C_alloc ?_ _) | (with_reducible refine Kd.C_drewN ?_ _) | (with_reducible refine Kd.C_drew ?_))); (case side2 => exact HC0_0.out); (case side3 => repeat (first | exact (Kd.C_below HR1_0.out HB.out) | (with_reducible refine Kd.C_alloc ?_ _) | (with_reducible refine Kd.C_drewN ?_ _) | (with_reducible refine Kd.C_drew ?_))); (case side4 => exact HC1_0.out); rintro e w28 ⟨rfl, hb⟩; refine ⟨_, rfl, ?_⟩; have n0_ := Aside0.mk (blk_below (g := gb352) (o := .cells #[.slice A0_0 l0_0.length c0_0, .string a0_1, .int .i64 a0_2] 42 (0, 0)) (by (with_reducible repeat (first | refine blk_drewN ?_ _ | refine blk_drew ?_ | refine blk_alloc ?_ _)); exact BK352.out) hb); have n1_ := Aside0.mk (blk_below (g := gb353) (o := .cells #[.slice A1_0 l1_0.length c1_0, .string a1_1, .int .i64 a1_2] 42 (0, 0)) (by (with_reducible repeat (first | refine blk_drewN ?_ _ | refine blk_drew ?_ | refine blk_alloc ?_ _)); exact BK353.out) hb); have n2_ := Aside0.mk (below_step (by repeat (first | (with_reducible first | exact HB.out | apply below_alloc | apply pw_below_drewN | apply below_drew1 | refine below_set ?_ GE352.out | refine below_set ?_ GE353.out) | exact HB.out)) hb); clear BK352; clear BK353; clear HB; have BK352 := n0_; have BK353 := n1_; have HB := n2_; clear n0_ n1_ n2_; (try clear hb); (try clear hb2); (try clear hk); (try clear hi); have hcz29_0 : w28.cell? ⟨gb352, 0, none⟩ = some (.slice A0_0 l0_0.length c0_0) := (blk_cell BK352.out 0).trans rfl; have hcz29_1 : w28.cell? ⟨gb352, 1, none⟩ = some (.string a0_1) := (blk_cell BK352.out 1).trans rfl; have hcz29_2 : w28.cell? ⟨gb352, 2, none⟩ = some (.int .i64 a0_2) := (blk_cell BK352.out 2).trans rfl; have hfz29_0 := blk_frozen BK352.out 0; have hfz29_1 := blk_frozen BK352.out 1; have hfz29_2 := blk_frozen BK352.out 2; have hcz30_0 : w28.cell? ⟨gb353, 0, none⟩ = some (.slice A1_0 l1_0.length c1_0) := (blk_cell BK353.out 0).trans rfl; have hcz30_1 : w28.cell? ⟨gb353, 1, none⟩ = some (.string a1_1) := (blk_cell BK353.out 1).trans rfl; have hcz30_2 : w28.cell? ⟨gb353, 2, none⟩ = some (.int .i64 a1_2) := (blk_cell BK353.out 2).trans rfl; have hfz30_0 := blk_frozen BK353.out 0; have hfz30_1 := blk_frozen BK353.out 1; have hfz30_2 := blk_frozen BK353.out 2))
      go_ret
      exact ⟨by first | rfl | (simp [errW_none, errW_some] <;> rfl) | (simp [*, errW_none, errW_some] <;> rfl), by repeat (first | (with_reducible first | exact HB.out | apply below_alloc | apply pw_below_drewN | apply below_drew1 | refine below_set ?_ GE352.out | refine below_set ?_ GE353.out) | exact HB.out)⟩
  · replace c4 := Bool.eq_false_iff.mpr c4
    subst c4
    have H1 : (some false) = some r := by rw [if_neg (show ¬ (false = true) by decide)] at H; exact H
    clear H
    have H := H1
    clear H1
    obtain rfl := Option.some.inj H
    go_enter Try.func24, Try.ntmps24
    go_wp2_with (first | ((with_reducible refine gate_dst (N := 2) rfl ?_); refine box_event ?hg (N := 2) ?hd (cs := #[.slice A0_0 l0_0.length c0_0, .string a0_1, .int .i64 a0_2]) (t := 42) ?hr ?_; (case hd => rfl); (case hg => rfl); (case hr => first | (go_simp; done) | (go_simp; rfl)); intro gb352 hg w31 hbox hb; have n0_ := Aside0.mk (below_step (by repeat (first | (with_reducible first | exact HB.out | apply below_alloc | apply pw_below_drewN | apply below_drew1) | exact HB.out)) hb); have n1_ := Aside0.mk (hbox); have n2_ := Aside0.mk ((by rw [hg]; exact (below_size (by repeat (first | (with_reducible first | exact HB.out | apply below_alloc | apply pw_below_drewN | apply below_drew1) | exact HB.out))) : w.heap.size ≤ gb352)); have n3_ := Aside0.mk ((by rw [hg]; exact (below_size (by repeat (first | (with_reducible first | exact HB.out | apply below_alloc | apply pw_below_drewN | apply below_drew1) | exact HB.out))) : w.heap.size ≤ gb352)); clear HB; have HB := n0_; have BK352 := n1_; have GW352 := n2_; have GE352 := n3_; clear n0_ n1_ n2_ n3_; clear hb hbox hg) | ((with_reducible refine gate_dst (N := 3) rfl ?_); refine box_event ?hg (N := 3) ?hd (cs := #[.slice A1_0 l1_0.length c1_0, .string a1_1, .int .i64 a1_2]) (t := 42) ?hr ?_; (case hd => rfl); (case hg => rfl); (case hr => first | (go_simp; done) | (go_simp; rfl)); intro gb353 hg w32 hbox hb; have n0_ := Aside0.mk (blk_below (g := gb352) (o := .cells #[.slice A0_0 l0_0.length c0_0, .string a0_1, .int .i64 a0_2] 42 (0, 0)) (by (with_reducible repeat (first | refine blk_drewN ?_ _ | refine blk_drew ?_ | refine blk_alloc ?_ _)); exact BK352.out) hb); have n1_ := Aside0.mk (below_step (by repeat (first | (with_reducible first | exact HB.out | apply below_alloc | apply pw_below_drewN | apply below_drew1 | refine below_set ?_ GE352.out) | exact HB.out)) hb); have n2_ := Aside0.mk (hbox); have n3_ := Aside0.mk ((by rw [hg]; exact (below_size (by repeat (first | (with_reducible first | exact HB.out | apply below_alloc | apply pw_below_drewN | apply below_drew1 | refine below_set ?_ GE352.out) | exact HB.out))) : w.heap.size ≤ gb353)); have n4_ := Aside0.mk ((by rw [hg]; exact (below_size (by repeat (first | (with_reducible first | exact HB.out | apply below_alloc | apply pw_below_drewN | apply below_drew1 | refine below_set ?_ GE352.out) | exact HB.out))) : w.heap.size ≤ gb353)); have n5_ := Aside0.mk ((by rw [hg]; exact Nat.ne_of_lt (blk_lt (g := gb352) (o := .cells #[.slice A0_0 l0_0.length c0_0, .string a0_1, .int .i64 a0_2] 42 (0, 0)) (by (with_reducible repeat (first | refine blk_drewN ?_ _ | refine blk_drew ?_ | refine blk_alloc ?_ _)); exact BK352.out)) : gb352 ≠ gb353)); have n6_ := Aside0.mk ((by rw [hg]; exact Nat.ne_of_gt (blk_lt (g := gb352) (o := .cells #[.slice A0_0 l0_0.length c0_0, .string a0_1, .int .i64 a0_2] 42 (0, 0)) (by (with_reducible repeat (first | refine blk_drewN ?_ _ | refine blk_drew ?_ | refine blk_alloc ?_ _)); exact BK352.out)) : gb353 ≠ gb352)); clear BK352; clear HB; have BK352 := n0_; have HB := n1_; have BK353 := n2_; have GW353 := n3_; have GE353 := n4_; have NB352_353 := n5_; have NB353_352 := n6_; clear n0_ n1_ n2_ n3_ n4_ n5_ n6_; clear hb hbox hg; have hnb33 := NB352_353.out; have hnc33 := NB353_352.out; have hcz34_0 : w32.cell? ⟨gb352, 0, none⟩ = some (.slice A0_0 l0_0.length c0_0) := (blk_cell BK352.out 0).trans rfl; have hcz34_1 : w32.cell? ⟨gb352, 1, none⟩ = some (.string a0_1) := (blk_cell BK352.out 1).trans rfl; have hcz34_2 : w32.cell? ⟨gb352, 2, none⟩ = some (.int .i64 a0_2) := (blk_cell BK352.out 2).trans rfl; have hfz34_0 := blk_frozen BK352.out 0; have hfz34_1 := blk_frozen BK352.out 1; have hfz34_2 := blk_frozen BK352.out 2; have hcz35_0 : w32.cell? ⟨gb353, 0, none⟩ = some (.slice A1_0 l1_0.length c1_0) := (blk_cell BK353.out 0).trans rfl; have hcz35_1 : w32.cell? ⟨gb353, 1, none⟩ = some (.string a1_1) := (blk_cell BK353.out 1).trans rfl; have hcz35_2 : w32.cell? ⟨gb353, 2, none⟩ = some (.int .i64 a1_2) := (blk_cell BK353.out 2).trans rfl; have hfz35_0 := blk_frozen BK353.out 0; have hfz35_1 := blk_frozen BK353.out 1; have hfz35_2 := blk_frozen BK353.out 2) | ((with_reducible refine gate_callee (f := 74) rfl ?_); refine goesL_ (some 9) rfl rfl Try.func74 (by kernel_rfl) rfl #[.slice A0_0 l0_0.length c0_0, .slice A1_0 l1_0.length c1_0] rfl (by (try simp only [List.map_toArray, List.map_cons, List.map_nil]); first | done | rfl | (simp only [List.length_drop, List.length_take]; rfl)) ?_; (with_reducible refine (laws_eqOpOpS.calls k _ _ l0_0 _ _ l1_0 false _ ?side1 ?side2 ?side3 ?side4 A3.out).mono ?_); (case side1 => repeat (first | exact (Kd.C_below HR0_0.out HB.out) | (with_reducible refine Kd.C_alloc ?_ _) | (with_reducible refine Kd.C_drewN ?_ _) | (with_reducible refine Kd.C_drew ?_))); (case side2 => exact HC0_0.out); (case side3 => repeat (first | exact (Kd.C_below HR1_0.out HB.out) | (with_reducible refine Kd.C_alloc ?_ _) | (with_reducible refine Kd.C_drewN ?_ _) | (with_reducible refine Kd.C_drew ?_))); (case side4 => exact HC1_0.out); rintro e w36 ⟨rfl, hb⟩; refine ⟨_, rfl, ?_⟩; have n0_ := Aside0.mk (blk_below (g := gb352) (o := .cells #[.slice A0_0 l0_0.length c0_0, .string a0_1, .int .i64 a0_2] 42 (0, 0)) (by (with_reducible repeat (first | refine blk_drewN ?_ _ | refine blk_drew ?_ | refine blk_alloc ?_ _)); exact BK352.out) hb); have n1_ := Aside0.mk (blk_below (g := gb353) (o := .cells #[.slice A1_0 l1_0.length c1_0, .string a1_1, .int .i64 a1_2] 42 (0, 0)) (by (with_reducible repeat (first | refine blk_drewN ?_ _ | refine blk_drew ?_ | refine blk_alloc ?_ _)); exact BK353.out) hb); have n2_ := Aside0.mk (below_step (by repeat (first | (with_reducible first | exact HB.out | apply below_alloc | apply pw_below_drewN | apply below_drew1 | refine below_set ?_ GE352.out | refine below_set ?_ GE353.out) | exact HB.out)) hb); clear BK352; clear BK353; clear HB; have BK352 := n0_; have BK353 := n1_; have HB := n2_; clear n0_ n1_ n2_; (try clear hb); (try clear hb2); (try clear hk); (try clear hi)))
    go_ret
    exact ⟨by first | rfl | (simp [errW_none, errW_some] <;> rfl) | (simp [*, errW_none, errW_some] <;> rfl), by repeat (first | (with_reducible first | exact HB.out | apply below_alloc | apply pw_below_drewN | apply below_drew1 | refine below_set ?_ GE352.out | refine below_set ?_ GE353.out) | exact HB.out)⟩

end Go.Proofs.Ytgpkkkmapgnhkaa.X

namespace Go.Proofs.Ytgpkkkmapgnhkaa.X
open Go.RowKit Go.Proofs.YtgpkkkmapgnhkaaW.PrintWords Go.Proofs.YtgpkkkmapgnhkaaW.PrintLast Go.Proofs.YtgpkkkmapgnhkaaW.PrintMore
attribute [local go_sem] max2_int min2_int max_two min_two max_three min_three max_four min_four   -- for this text's walks alone
set_option linter.unusedVariables false
set_option linter.unusedSimpArgs false

/-! ### laws_FnExactAskOk: function 5 -/
def laws_FnExactAskOk.f (k : Nat) (l0_0 : List (S148)) (a0_1 : ByteArray) (a0_2 : Int) : Option (Bool) := (laws_szUrlAsk.f l0_0 a0_1 a0_2 1048576).bind fun t356 => (if t356 < 0 then (some true) else ((laws_toUrlAsk.f k l0_0 a0_1 a0_2).bind fun bt357 => ((spec_AskOk.f k bt357.1 bt357.2.1 bt357.2.2).bind fun t362 => ((laws_toUrlAsk.f k l0_0 a0_1 a0_2).bind fun bt363 => ((impl_AskOk.f k bt363.1 bt363.2.1 bt363.2.2).bind fun t369 => (if (t369 != t362) = true then (some false) else ((laws_toUrlAsk.f k l0_0 a0_1 a0_2).bind fun bt370 => ((laws_eqUrlAsk.f k bt363.1 bt363.2.1 bt363.2.2 bt370.1 bt370.2.1 bt370.2.2).bind fun t375 => (if t375 = true then (some true) else (some false))))))))))
theorem laws_FnExactAskOk.mono : ∀ a0 a1 a2 k, LeO (laws_FnExactAskOk.f k a0 a1 a2) (laws_FnExactAskOk.f (k + 1) a0 a1 a2) := by
  intro a0 a1 a2 k
  unfold laws_FnExactAskOk.f
  repeat' first
      | (with_reducible exact impl_AskOk.mono _ _ _ _)
      | (with_reducible exact laws_eqUrlAsk.mono _ _ _ _ _ _ _)
      | (with_reducible exact laws_toUrlAsk.mono _ _ _ _)
      | (with_reducible exact spec_AskOk.mono _ _ _ _)
      | (with_reducible exact LeO.refl _)
      | (with_reducible exact LeO.none _)
      | (with_reducible refine LeO.ite ?_ ?_)
      | (with_reducible refine LeO.bind ?_ (fun _ => ?_))
      | exact impl_AskOk.mono _ _ _ _
      | exact laws_eqUrlAsk.mono _ _ _ _ _ _ _
      | exact laws_toUrlAsk.mono _ _ _ _
      | exact spec_AskOk.mono _ _ _ _
      | exact LeO.none _
      | refine LeO.ite ?_ ?_
      | refine LeO.bind ?_ (fun _ => ?_)
set_option maxHeartbeats 8000000 in
set_option maxRecDepth 100000 in
theorem laws_FnExactAskOk.calls (k : Nat) (A0_0 : Option Addr) (c0_0 : Nat) (l0_0 : List (S148)) (a0_1 : ByteArray) (a0_2 : Int) (r : Bool) (w : World) (hr0_0 : Kd.C k148 w A0_0 l0_0.length l0_0) (hc0_0 : l0_0.length ≤ c0_0) (h : laws_FnExactAskOk.f k l0_0 a0_1 a0_2 = some r) :
    Calls Try.prog 5 #[.agg #[.slice A0_0 l0_0.length c0_0, .string a0_1, .int .i64 a0_2]] w fun e w' => e = .returned (.bool r) ∧ Below w.heap.size w w' := by
  have hu37 := Try.underlying37
  have hu42 := Try.underlying42
  have HR0_0 := Aside0.mk hr0_0
  have HC0_0 := Aside0.mk hc0_0
  clear hr0_0 hc0_0
  have HB := Aside0.mk (Below.refl w.heap.size w)
  have H : ((laws_szUrlAsk.f l0_0 a0_1 a0_2 1048576).bind fun t356 => (if t356 < 0 then (some true) else ((laws_toUrlAsk.f k l0_0 a0_1 a0_2).bind fun bt357 => ((spec_AskOk.f k bt357.1 bt357.2.1 bt357.2.2).bind fun t362 => ((laws_toUrlAsk.f k l0_0 a0_1 a0_2).bind fun bt363 => ((impl_AskOk.f k bt363.1 bt363.2.1 bt363.2.2).bind fun t369 => (if (t369 != t362) = true then (some false) else ((laws_toUrlAsk.f k l0_0 a0_1 a0_2).bind fun bt370 => ((laws_eqUrlAsk.f k bt363.1 bt363.2.1 bt363.2.2 bt370.1 bt370.2.1 bt370.2.2).bind fun t375 => (if t375 = true then (some true) else (some false))))))))))) = some r := h
  clear h
  replace H := Option.bind_eq_some_iff.mp H
  obtain ⟨t356, A20, H⟩ := H
  replace H : (if t356 < 0 then (some true) else ((laws_toUrlAsk.f k l0_0 a0_1 a0_2).bind fun bt357 => ((spec_AskOk.f k bt357.1 bt357.2.1 bt357.2.2).bind fun t362 => ((laws_toUrlAsk.f k l0_0 a0_1 a0_2).bind fun bt363 => ((impl_AskOk.f k bt363.1 bt363.2.1 bt363.2.2).bind fun t369 => (if (t369 != t362) = true then (some false) else ((laws_toUrlAsk.f k l0_0 a0_1 a0_2).bind fun bt370 => ((laws_eqUrlAsk.f k bt363.1 bt363.2.1 bt363.2.2 bt370.1 bt370.2.1 bt370.2.2).bind fun t375 => (if t375 = true then (some true) else (some false)))))))))) = some r := H
  have A2 := Aside0.mk A20
  clear A20
  by_cases c3 : t356 < 0
  · rw [if_pos c3] at H
    have c3b0 : decide (t356 < 0) = true := decide_eq_true c3
    clear c3
    obtain rfl := Option.some.inj H
    go_enter Try.func5, Try.ntmps5
    go_wp2_with (first | ((with_reducible refine gate_dst (N := 1) rfl ?_); refine box_event ?hg (N := 1) ?hd (cs := #[.slice A0_0 l0_0.length c0_0, .string a0_1, .int .i64 a0_2]) (t := 37) ?hr ?_; (case hd => rfl); (case hg => rfl); (case hr => first | (go_simp; done) | (go_simp; rfl)); intro gb355 hg w4 hbox hb; have n0_ := Aside0.mk (below_step (by repeat (first | (with_reducible first | exact HB.out | apply below_alloc | apply pw_below_drewN | apply below_drew1) | exact HB.out)) hb); have n1_ := Aside0.mk (hbox); have n2_ := Aside0.mk ((by rw [hg]; exact (below_size (by repeat (first | (with_reducible first | exact HB.out | apply below_alloc | apply pw_below_drewN | apply below_drew1) | exact HB.out))) : w.heap.size ≤ gb355)); have n3_ := Aside0.mk ((by rw [hg]; exact (below_size (by repeat (first | (with_reducible first | exact HB.out | apply below_alloc | apply pw_below_drewN | apply below_drew1) | exact HB.out))) : w.heap.size ≤ gb355)); clear HB; have HB := n0_; have BK355 := n1_; have GW355 := n2_; have GE355 := n3_; clear n0_ n1_ n2_ n3_; clear hb hbox hg; have hcz5_0 : w4.cell? ⟨gb355, 0, none⟩ = some (.slice A0_0 l0_0.length c0_0) := (blk_cell BK355.out 0).trans rfl; have hcz5_1 : w4.cell? ⟨gb355, 1, none⟩ = some (.string a0_1) := (blk_cell BK355.out 1).trans rfl; have hcz5_2 : w4.cell? ⟨gb355, 2, none⟩ = some (.int .i64 a0_2) := (blk_cell BK355.out 2).trans rfl; have hfz5_0 := blk_frozen BK355.out 0; have hfz5_1 := blk_frozen BK355.out 1; have hfz5_2 := blk_frozen BK355.out 2) | ((with_reducible refine gate_callee (f := 20) rfl ?_); refine goesL_ (some 9) rfl rfl Try.func20 (by kernel_rfl) rfl #[.agg #[.slice A0_0 l0_0.length c0_0, .string a0_1, .int .i64 a0_2], .int .i64 1048576] rfl (by (try simp only [List.map_toArray, List.map_cons, List.map_nil]); first | done | rfl | (simp only [List.length_drop, List.length_take]; rfl)) ?_; (with_reducible refine (laws_szUrlAsk.calls _ _ l0_0 a0_1 a0_2 1048576 t356 _ ?side1 ?side2 A2.out).mono ?_); (case side1 => repeat (first | exact (Kd.C_below HR0_0.out HB.out) | (with_reducible refine Kd.C_alloc ?_ _) | (with_reducible refine Kd.C_drewN ?_ _) | (with_reducible refine Kd.C_drew ?_))); (case side2 => exact HC0_0.out); rintro e w6 ⟨rfl, hb⟩; refine ⟨_, rfl, ?_⟩; have n0_ := Aside0.mk (blk_below (g := gb355) (o := .cells #[.slice A0_0 l0_0.length c0_0, .string a0_1, .int .i64 a0_2] 37 (0, 0)) (by (with_reducible repeat (first | refine blk_drewN ?_ _ | refine blk_drew ?_ | refine blk_alloc ?_ _)); exact BK355.out) hb); have n1_ := Aside0.mk (below_step (by repeat (first | (with_reducible first | exact HB.out | apply below_alloc | apply pw_below_drewN | apply below_drew1 | refine below_set ?_ GE355.out) | exact HB.out)) hb); clear BK355; clear HB; have BK355 := n0_; have HB := n1_; clear n0_ n1_; (try clear hb); (try clear hb2); (try clear hk); (try clear hi)))
    go_ret
    exact ⟨by first | rfl | (simp [errW_none, errW_some] <;> rfl) | (simp [*, errW_none, errW_some] <;> rfl), by repeat (first | (with_reducible first | exact HB.out | apply below_alloc | apply pw_below_drewN | apply below_drew1 | refine below_set ?_ GE355.out) | exact HB.out)⟩
  · rw [if_neg c3] at H
    have c3b0 : decide (t356 < 0) = false := decide_eq_false c3
    clear c3
    replace H := Option.bind_eq_some_iff.mp H
    obtain ⟨⟨t357, t360, t361⟩, A70, H⟩ := H
    replace H : ((spec_AskOk.f k t357 t360 t361).bind fun t362 => ((laws_toUrlAsk.f k l0_0 a0_1 a0_2).bind fun bt363 => ((impl_AskOk.f k bt363.1 bt363.2.1 bt363.2.2).bind fun t369 => (if (t369 != t362) = true then (some false) else ((laws_toUrlAsk.f k l0_0 a0_1 a0_2).bind fun bt370 => ((laws_eqUrlAsk.f k bt363.1 bt363.2.1 bt363.2.2 bt370.1 bt370.2.1 bt370.2.2).bind fun t375 => (if t375 = true then (some true) else (some false)))))))) = some r := H
    have A7 := Aside0.mk A70
    clear A70
    replace H := Option.bind_eq_some_iff.mp H
    obtain ⟨t362, A80, H⟩ := H
    replace H : ((laws_toUrlAsk.f k l0_0 a0_1 a0_2).bind fun bt363 => ((impl_AskOk.f k bt363.1 bt363.2.1 bt363.2.2).bind fun t369 => (if (t369 != t362) = true then (some false) else ((laws_toUrlAsk.f k l0_0 a0_1 a0_2).bind fun bt370 => ((laws_eqUrlAsk.f k bt363.1 bt363.2.1 bt363.2.2 bt370.1 bt370.2.1 bt370.2.2).bind fun t375 => (if t375 = true then (some true) else (some false))))))) = some r := H
    have A8 := Aside0.mk A80
    clear A80
    replace H := Option.bind_eq_some_iff.mp H
    obtain ⟨⟨t363, t366, t367⟩, A90, H⟩ := H
    replace H : ((impl_AskOk.f k t363 t366 t367).bind fun t369 => (if (t369 != t362) = true then (some false) else ((laws_toUrlAsk.f k l0_0 a0_1 a0_2).bind fun bt370 => ((laws_eqUrlAsk.f k t363 t366 t367 bt370.1 bt370.2.1 bt370.2.2).bind fun t375 => (if t375 = true then (some true) else (some false)))))) = some r := H
    have A9 := Aside0.mk A90
    clear A90
    replace H := Option.bind_eq_some_iff.mp H
    obtain ⟨t369, A100, H⟩ := H
    replace H : (if (t369 != t362) = true then (some false) else ((laws_toUrlAsk.f k l0_0 a0_1 a0_2).bind fun bt370 => ((laws_eqUrlAsk.f k t363 t366 t367 bt370.1 bt370.2.1 bt370.2.2).bind fun t375 => (if t375 = true then (some true) else (some false))))) = some r := H
    have A10 := Aside0.mk A100
    clear A100
    by_cases c11 : (t369 != t362) = true
    · rw [if_pos c11] at H
      have c11b0 : (t369 != t362) = true := c11
      (try (have c11b1 : decide (t369 = t362) = false := by simpa using c11))
      (try (have c11b2 : (t369 == t362) = false := by simpa using c11))
      (try (have c11b3 : ¬ (t369 = t362) := by simpa using c11))
      clear c11
      obtain rfl := Option.some.inj H
      go_enter Try.func5, Try.ntmps5
      go_wp2_with (first | ((with_reducible refine gate_dst (N := 1) rfl ?_); refine box_event ?hg (N := 1) ?hd (cs := #[.slice A0_0 l0_0.length c0_0, .string a0_1, .int .i64 a0_2]) (t := 37) ?hr ?_; (case hd => rfl); (case hg => rfl); (case hr => first | (go_simp; done) | (go_simp; rfl)); intro gb355 hg w12 hbox hb; have n0_ := Aside0.mk (below_step (by repeat (first | (with_reducible first | exact HB.out | apply below_alloc | apply pw_below_drewN | apply below_drew1) | exact HB.out)) hb); have n1_ := Aside0.mk (hbox); have n2_ := Aside0.mk ((by rw [hg]; exact (below_size (by repeat (first | (with_reducible first | exact HB.out | apply below_alloc | apply pw_below_drewN | apply below_drew1) | exact HB.out))) : w.heap.size ≤ gb355)); have n3_ := Aside0.mk ((by rw [hg]; exact (below_size (by repeat (first | (with_reducible first | exact HB.out | apply below_alloc | apply pw_below_drewN | apply below_drew1) | exact HB.out))) : w.heap.size ≤ gb355)); clear HB; have HB := n0_; have BK355 := n1_; have GW355 := n2_; have GE355 := n3_; clear n0_ n1_ n2_ n3_; clear hb hbox hg; have hcz13_0 : w12.cell? ⟨gb355, 0, none⟩ = some (.slice A0_0 l0_0.length c0_0) := (blk_cell BK355.out 0).trans rfl; have hcz13_1 : w12.cell? ⟨gb355, 1, none⟩ = some (.string a0_1) := (blk_cell BK355.out 1).trans rfl; have hcz13_2 : w12.cell? ⟨gb355, 2, none⟩ = some (.int .i64 a0_2) := (blk_cell BK355.out 2).trans rfl; have hfz13_0 := blk_frozen BK355.out 0; have hfz13_1 := blk_frozen BK355.out 1; have hfz13_2 := blk_frozen BK355.out 2) | ((with_reducible refine gate_callee (f := 20) rfl ?_); refine goesL_ (some 9) rfl rfl Try.func20 (by kernel_rfl) rfl #[.agg #[.slice A0_0 l0_0.length c0_0, .string a0_1, .int .i64 a0_2], .int .i64 1048576] rfl (by (try simp only [List.map_toArray, List.map_cons, List.map_nil]); first | done | rfl | (simp only [List.length_drop, List.length_take]; rfl)) ?_; (with_reducible refine (laws_szUrlAsk.calls _ _ l0_0 a0_1 a0_2 1048576 t356 _ ?side1 ?side2 A2.out).mono ?_); (case side1 => repeat (first | exact (Kd.C_below HR0_0.out HB.out) | (with_reducible refine Kd.C_alloc ?_ _) | (with_reducible refine Kd.C_drewN ?_ _) | (with_reducible refine Kd.C_drew ?_))); (case side2 => exact HC0_0.out); rintro e w14 ⟨rfl, hb⟩; refine ⟨_, rfl, ?_⟩; have n0_ := Aside0.mk (blk_below (g := gb355) (o := .cells #[.slice A0_0 l0_0.length c0_0, .string a0_1, .int .i64 a0_2] 37 (0, 0)) (by (with_reducible repeat (first | refine blk_drewN ?_ _ | refine blk_drew ?_ | refine blk_alloc ?_ _)); exact BK355.out) hb); have n1_ := Aside0.mk (below_step (by repeat (first | (with_reducible first | exact HB.out | apply below_alloc | apply pw_below_drewN | apply below_drew1 | refine below_set ?_ GE355.out) | exact HB.out)) hb); clear BK355; clear HB; have BK355 := n0_; have HB := n1_; clear n0_ n1_; (try clear hb); (try clear hb2); (try clear hk); (try clear hi); have hcz15_0 : w14.cell? ⟨gb355, 0, none⟩ = some (.slice A0_0 l0_0.length c0_0) := (blk_cell BK355.out 0).trans rfl; have hcz15_1 : w14.cell? ⟨gb355, 1, none⟩ = some (.string a0_1) := (blk_cell BK355.out 1).trans rfl; have hcz15_2 : w14.cell? ⟨gb355, 2, none⟩ = some (.int .i64 a0_2) := (blk_cell BK355.out 2).trans rfl; have hfz15_0 := blk_frozen BK355.out 0; have hfz15_1 := blk_frozen BK355.out 1; have hfz15_2 := blk_frozen BK355.out 2) | ((with_reducible refine gate_callee (f := 22) rfl ?_); refine goesL_ (some 13) rfl rfl Try.func22 (by kernel_rfl) rfl #[.agg #[.slice A0_0 l0_0.length c0_0, .string a0_1, .int .i64 a0_2]] rfl (by (try simp only [List.map_toArray, List.map_cons, List.map_nil]); first | done | rfl | (simp only [List.length_drop, List.length_take]; rfl)) ?_; (with_reducible refine (laws_toUrlAsk.calls k _ _ l0_0 a0_1 a0_2 t357 t360 t361 _ ?side1 ?side2 A7.out).mono ?_); (case side1 => repeat (first | exact (Kd.C_below HR0_0.out HB.out) | (with_reducible refine Kd.C_alloc ?_ _) | (with_reducible refine Kd.C_drewN ?_ _) | (with_reducible refine Kd.C_drew ?_))); (case side2 => exact HC0_0.out); rintro e w16 ⟨v358, rfl, ho0, hb⟩; refine ⟨_, rfl, ?_⟩; have n0_ := Aside0.mk (Kd.R_lower ho0 (below_size (by repeat (first | (with_reducible first | exact HB.out | apply below_alloc | apply pw_below_drewN | apply below_drew1 | refine below_set ?_ GE355.out) | exact HB.out)))); have n1_ := Aside0.mk (blk_below (g := gb355) (o := .cells #[.slice A0_0 l0_0.length c0_0, .string a0_1, .int .i64 a0_2] 37 (0, 0)) (by (with_reducible repeat (first | refine blk_drewN ?_ _ | refine blk_drew ?_ | refine blk_alloc ?_ _)); exact BK355.out) hb); have n2_ := Aside0.mk (below_step (by repeat (first | (with_reducible first | exact HB.out | apply below_alloc | apply pw_below_drewN | apply below_drew1 | refine below_set ?_ GE355.out) | exact HB.out)) hb); clear BK355; clear HB; have HO359 := n0_; have BK355 := n1_; have HB := n2_; clear n0_ n1_ n2_; (try clear hb); (try clear hb2); (try clear hk); (try clear hi); (try clear ho0); obtain ⟨Ao17, co17, eo17⟩ := Kd.R_slice HO359.out; subst eo17) | ((with_reducible refine gate_callee (f := 21) rfl ?_); refine goesL_ (some 14) rfl rfl Try.func21 (by kernel_rfl) rfl #[.agg #[.slice Ao17 t357.length co17, .string t360, .int .i64 t361]] rfl (by (try simp only [List.map_toArray, List.map_cons, List.map_nil]); first | done | rfl | (simp only [List.length_drop, List.length_take]; rfl)) ?_; (with_reducible refine (spec_AskOk.calls k _ _ t357 t360 t361 t362 _ ?side1 ?side2 A8.out).mono ?_); (case side1 => repeat (first | exact (Kd.R_reads' HO359.out).2.2 | (with_reducible refine Kd.C_alloc ?_ _) | (with_reducible refine Kd.C_drewN ?_ _) | (with_reducible refine Kd.C_drew ?_))); (case side2 => exact (Kd.R_reads' HO359.out).2.1); rintro e w18 ⟨rfl, hb⟩; refine ⟨_, rfl, ?_⟩; have n0_ := Aside0.mk (Kd.R_below (by (with_reducible repeat (first | apply Kd.R_alloc | apply Kd.R_drewN | apply Kd.R_drew)); exact HO359.out) hb); have n1_ := Aside0.mk (blk_below (g := gb355) (o := .cells #[.slice A0_0 l0_0.length c0_0, .string a0_1, .int .i64 a0_2] 37 (0, 0)) (by (with_reducible repeat (first | refine blk_drewN ?_ _ | refine blk_drew ?_ | refine blk_alloc ?_ _)); exact BK355.out) hb); have n2_ := Aside0.mk (below_step (by repeat (first | (with_reducible first | exact HB.out | apply below_alloc | apply pw_below_drewN | apply below_drew1 | refine below_set ?_ GE355.out) | exact HB.out)) hb); clear HO359; clear BK355; clear HB; have HO359 := n0_; have BK355 := n1_; have HB := n2_; clear n0_ n1_ n2_; (try clear hb); (try clear hb2); (try clear hk); (try clear hi); have hcz19_0 : w18.cell? ⟨gb355, 0, none⟩ = some (.slice A0_0 l0_0.length c0_0) := (blk_cell BK355.out 0).trans rfl; have hcz19_1 : w18.cell? ⟨gb355, 1, none⟩ = some (.string a0_1) := (blk_cell BK355.out 1).trans rfl; have hcz19_2 : w18.cell? ⟨gb355, 2, none⟩ = some (.int .i64 a0_2) := (blk_cell BK355.out 2).trans rfl; have hfz19_0 := blk_frozen BK355.out 0; have hfz19_1 := blk_frozen BK355.out 1; have hfz19_2 := blk_frozen BK355.out 2) | ((with_reducible refine gate_callee (f := 22) rfl ?_); refine goesL_ (some 16) rfl rfl Try.func22 (by kernel_rfl) rfl #[.agg #[.slice A0_0 l0_0.length c0_0, .string a0_1, .int .i64 a0_2]] rfl (by (try simp only [List.map_toArray, List.map_cons, List.map_nil]); first | done | rfl | (simp only [List.length_drop, List.length_take]; rfl)) ?_; (with_reducible refine (laws_toUrlAsk.calls k _ _ l0_0 a0_1 a0_2 t363 t366 t367 _ ?side1 ?side2 A9.out).mono ?_); (case side1 => repeat (first | exact (Kd.C_below HR0_0.out HB.out) | (with_reducible refine Kd.C_alloc ?_ _) | (with_reducible refine Kd.C_drewN ?_ _) | (with_reducible refine Kd.C_drew ?_))); (case side2 => exact HC0_0.out); rintro e w20 ⟨v364, rfl, ho0, hb⟩; refine ⟨_, rfl, ?_⟩; have n0_ := Aside0.mk (Kd.R_elder' (by (with_reducible repeat (first | apply Kd.R_alloc | apply Kd.R_drewN | apply Kd.R_drew)); exact HO359.out) (Kd.R_base ho0) hb); have n1_ := Aside0.mk (Kd.R_lower (Kd.R_new' ho0 (Kd.R_lt (by (with_reducible repeat (first | apply Kd.R_alloc | apply Kd.R_drewN | apply Kd.R_drew)); exact HO359.out))) (below_size (by repeat (first | (with_reducible first | exact HB.out | apply below_alloc | apply pw_below_drewN | apply below_drew1 | refine below_set ?_ GE355.out) | exact HB.out)))); have n2_ := Aside0.mk (blk_below (g := gb355) (o := .cells #[.slice A0_0 l0_0.length c0_0, .string a0_1, .int .i64 a0_2] 37 (0, 0)) (by (with_reducible repeat (first | refine blk_drewN ?_ _ | refine blk_drew ?_ | refine blk_alloc ?_ _)); exact BK355.out) hb); have n3_ := Aside0.mk (below_step (by repeat (first | (with_reducible first | exact HB.out | apply below_alloc | apply pw_below_drewN | apply below_drew1 | refine below_set ?_ GE355.out) | exact HB.out)) hb); clear HO359; clear BK355; clear HB; have HO359 := n0_; have HO365 := n1_; have BK355 := n2_; have HB := n3_; clear n0_ n1_ n2_ n3_; (try clear hb); (try clear hb2); (try clear hk); (try clear hi); (try clear ho0)) | ((with_reducible refine gate_dst (N := 5) rfl ?_); refine box_event ?hg (N := 5) ?hd (cs := #[.slice none 0 0, .string (⟨#[]⟩ : ByteArray), .int .i64 0]) (t := 42) ?hr ?_; (case hd => rfl); (case hg => rfl); (case hr => first | (go_simp; done) | (go_simp; rfl)); intro gb368 hg w21 hbox hb; have n0_ := Aside0.mk (Kd.R_below (by (with_reducible repeat (first | apply Kd.R_alloc | apply Kd.R_drewN | apply Kd.R_drew)); exact HO359.out) hb); have n1_ := Aside0.mk (Kd.R_below (by (with_reducible repeat (first | apply Kd.R_alloc | apply Kd.R_drewN | apply Kd.R_drew)); exact HO365.out) hb); have n2_ := Aside0.mk (blk_below (g := gb355) (o := .cells #[.slice A0_0 l0_0.length c0_0, .string a0_1, .int .i64 a0_2] 37 (0, 0)) (by (with_reducible repeat (first | refine blk_drewN ?_ _ | refine blk_drew ?_ | refine blk_alloc ?_ _)); exact BK355.out) hb); have n3_ := Aside0.mk (below_step (by repeat (first | (with_reducible first | exact HB.out | apply below_alloc | apply pw_below_drewN | apply below_drew1 | refine below_set ?_ GE355.out) | exact HB.out)) hb); have n4_ := Aside0.mk (hbox); have n5_ := Aside0.mk ((by rw [hg]; exact (below_size (by repeat (first | (with_reducible first | exact HB.out | apply below_alloc | apply pw_below_drewN | apply below_drew1 | refine below_set ?_ GE355.out) | exact HB.out))) : w.heap.size ≤ gb368)); have n6_ := Aside0.mk ((by rw [hg]; exact (below_size (by repeat (first | (with_reducible first | exact HB.out | apply below_alloc | apply pw_below_drewN | apply below_drew1 | refine below_set ?_ GE355.out) | exact HB.out))) : w.heap.size ≤ gb368)); have n7_ := Aside0.mk ((by rw [hg]; exact Nat.ne_of_lt (blk_lt (g := gb355) (o := .cells #[.slice A0_0 l0_0.length c0_0, .string a0_1, .int .i64 a0_2] 37 (0, 0)) (by (with_reducible repeat (first | refine blk_drewN ?_ _ | refine blk_drew ?_ | refine blk_alloc ?_ _)); exact BK355.out)) : gb355 ≠ gb368)); have n8_ := Aside0.mk ((by rw [hg]; exact Nat.ne_of_gt (blk_lt (g := gb355) (o := .cells #[.slice A0_0 l0_0.length c0_0, .string a0_1, .int .i64 a0_2] 37 (0, 0)) (by (with_reducible repeat (first | refine blk_drewN ?_ _ | refine blk_drew ?_ | refine blk_alloc ?_ _)); exact BK355.out)) : gb368 ≠ gb355)); clear HO359; clear HO365; clear BK355; clear HB; have HO359 := n0_; have HO365 := n1_; have BK355 := n2_; have HB := n3_; have BK368 := n4_; have GW368 := n5_; have GE368 := n6_; have NB355_368 := n7_; have NB368_355 := n8_; clear n0_ n1_ n2_ n3_ n4_ n5_ n6_ n7_ n8_; clear hb hbox hg; obtain ⟨Ao22, co22, eo22⟩ := Kd.R_slice HO365.out; subst eo22; have hnb23 := NB368_355.out; have hnc23 := NB355_368.out; have hcz24_0 : w21.cell? ⟨gb368, 0, none⟩ = some (.slice none 0 0) := (blk_cell BK368.out 0).trans rfl; have hcz24_1 : w21.cell? ⟨gb368, 1, none⟩ = some (.string (⟨#[]⟩ : ByteArray)) := (blk_cell BK368.out 1).trans rfl; have hcz24_2 : w21.cell? ⟨gb368, 2, none⟩ = some (.int .i64 0) := (blk_cell BK368.out 2).trans rfl; have hfz24_0 := blk_frozen BK368.out 0; have hfz24_1 := blk_frozen BK368.out 1; have hfz24_2 := blk_frozen BK368.out 2) | ((with_reducible refine gate_callee (f := 23) rfl ?_); refine goesL_ (some 18) rfl rfl Try.func23 (by kernel_rfl) rfl #[.agg #[.slice Ao22 t363.length co22, .string t366, .int .i64 t367]] rfl (by (try simp only [List.map_toArray, List.map_cons, List.map_nil]); first | done | rfl | (simp only [List.length_drop, List.length_take]; rfl)) ?_; (with_reducible refine (impl_AskOk.calls k _ _ t363 t366 t367 t369 _ ?side1 ?side2 A10.out).mono ?_); (case side1 => refine (Kd.R_reads' (e := 146) (base := w.heap.size) (ok := fun k_ => (True ∧ some k_ ≠ (.slice Ao17 t357.length co17 : Value).ownBlock)) (n := t363.length) (c := co22) ?_).2.2; exact (by (with_reducible repeat (first | apply Kd.R_alloc | apply Kd.R_drewN | apply Kd.R_drew)); exact (Kd.R_mono (Kd.R_far (p := ⟨gb368, 2, none⟩) (Kd.R_far (p := ⟨gb368, 1, none⟩) (Kd.R_far (p := ⟨gb368, 0, none⟩) (Kd.R_types HO365.out BK368.out (by decide)) (fun _ hk => hk.2) (.slice Ao22 t363.length co22)) (fun _ hk => hk.2) (.string t366)) (fun _ hk => hk.2) (.int .i64 t367)) (fun _ h_ => h_.1)))); (case side2 => exact (Kd.R_reads' HO365.out).2.1); rintro e w25 ⟨rfl, hb⟩; refine ⟨_, rfl, ?_⟩; have n0_ := Aside0.mk (Kd.R_below (by (with_reducible repeat (first | apply Kd.R_alloc | apply Kd.R_drewN | apply Kd.R_drew)); exact (Kd.R_mono (Kd.R_far (p := ⟨gb368, 2, none⟩) (Kd.R_far (p := ⟨gb368, 1, none⟩) (Kd.R_far (p := ⟨gb368, 0, none⟩) (Kd.R_types HO359.out BK368.out (by decide)) (fun _ hk => hk.2) (.slice Ao22 t363.length co22)) (fun _ hk => hk.2) (.string t366)) (fun _ hk => hk.2) (.int .i64 t367)) (fun _ h_ => h_.1))) hb); have n1_ := Aside0.mk (Kd.R_below (by (with_reducible repeat (first | apply Kd.R_alloc | apply Kd.R_drewN | apply Kd.R_drew)); exact (Kd.R_mono (Kd.R_far (p := ⟨gb368, 2, none⟩) (Kd.R_far (p := ⟨gb368, 1, none⟩) (Kd.R_far (p := ⟨gb368, 0, none⟩) (Kd.R_types HO365.out BK368.out (by decide)) (fun _ hk => hk.2) (.slice Ao22 t363.length co22)) (fun _ hk => hk.2) (.string t366)) (fun _ hk => hk.2) (.int .i64 t367)) (fun _ h_ => h_.1))) hb); have n2_ := Aside0.mk (blk_below (g := gb355) (o := .cells #[.slice A0_0 l0_0.length c0_0, .string a0_1, .int .i64 a0_2] 37 (0, 0)) (by (with_reducible repeat (first | refine blk_drewN ?_ _ | refine blk_drew ?_ | refine blk_alloc ?_ _)); refine blk_far ?_ NB355_368.out _; (with_reducible repeat (first | refine blk_drewN ?_ _ | refine blk_drew ?_ | refine blk_alloc ?_ _)); refine blk_far ?_ NB355_368.out _; (with_reducible repeat (first | refine blk_drewN ?_ _ | refine blk_drew ?_ | refine blk_alloc ?_ _)); refine blk_far ?_ NB355_368.out _; (with_reducible repeat (first | refine blk_drewN ?_ _ | refine blk_drew ?_ | refine blk_alloc ?_ _)); exact BK355.out) hb); have n3_ := Aside0.mk (blk_below (g := gb368) (o := .cells #[.slice Ao22 t363.length co22, .string t366, .int .i64 t367] 42 (0, 0)) (by (with_reducible repeat (first | refine blk_drewN ?_ _ | refine blk_drew ?_ | refine blk_alloc ?_ _)); refine blk_put (cs := #[.slice Ao22 t363.length co22, .string t366, .int .i64 0]) ?_ 2 _ rfl; (with_reducible repeat (first | refine blk_drewN ?_ _ | refine blk_drew ?_ | refine blk_alloc ?_ _)); refine blk_put (cs := #[.slice Ao22 t363.length co22, .string (⟨#[]⟩ : ByteArray), .int .i64 0]) ?_ 1 _ rfl; (with_reducible repeat (first | refine blk_drewN ?_ _ | refine blk_drew ?_ | refine blk_alloc ?_ _)); refine blk_put (cs := #[.slice none 0 0, .string (⟨#[]⟩ : ByteArray), .int .i64 0]) ?_ 0 _ rfl; (with_reducible repeat (first | refine blk_drewN ?_ _ | refine blk_drew ?_ | refine blk_alloc ?_ _)); exact BK368.out) hb); have n4_ := Aside0.mk (below_step (by repeat (first | (with_reducible first | exact HB.out | apply below_alloc | apply pw_below_drewN | apply below_drew1 | refine below_set ?_ GE355.out | refine below_set ?_ GE368.out) | exact HB.out)) hb); clear HO359; clear HO365; clear BK355; clear BK368; clear HB; have HO359 := n0_; have HO365 := n1_; have BK355 := n2_; have BK368 := n3_; have HB := n4_; clear n0_ n1_ n2_ n3_ n4_; (try clear hb); (try clear hb2); (try clear hk); (try clear hi)))
      go_ret
      exact ⟨by first | rfl | (simp [errW_none, errW_some] <;> rfl) | (simp [*, errW_none, errW_some] <;> rfl), by repeat (first | (with_reducible first | exact HB.out | apply below_alloc | apply pw_below_drewN | apply below_drew1 | refine below_set ?_ GE355.out | refine below_set ?_ GE368.out) | exact HB.out)⟩
    · rw [if_neg c11] at H
      have c11b0 : (t369 != t362) = false := by simpa using c11
      (try (have c11b1 : decide (t369 = t362) = true := by simpa using c11))
      (try (have c11b2 : (t369 == t362) = true := by simpa using c11))
      clear c11
      replace H := Option.bind_eq_some_iff.mp H
      obtain ⟨⟨t370, t373, t374⟩, A260, H⟩ := H
      replace H : ((laws_eqUrlAsk.f k t363 t366 t367 t370 t373 t374).bind fun t375 => (if t375 = true then (some true) else (some false))) = some r := H
      have A26 := Aside0.mk A260
      clear A260
      replace H := Option.bind_eq_some_iff.mp H
      obtain ⟨t375, A270, H⟩ := H
      replace H : (if t375 = true then (some true) else (some false)) = some r := H
      have A27 := Aside0.mk A270
      clear A270
      by_cases c28 : t375 = true
      · subst c28
        have H1 : (some true) = some r := by rw [if_pos rfl] at H; exact H
        clear H
        have H := H1
        clear H1
        obtain rfl := Option.some.inj H
        go_enter Try.func5, Try.ntmps5
        try go_wp2_with (first | ((with_reducible refine gate_dst (N := 1) rfl ?_); refine box_event ?hg (N := 1) ?hd (cs := #[.slice A0_0 l0_0.length c0_0, .string a0_1, .int .i64 a0_2]) (t := 37) ?hr ?_; (case hd => rfl); (case hg => rfl); (case hr => first | (go_simp; done) | (go_simp; rfl)); intro gb355 hg w29 hbox hb; have n0_ := Aside0.mk (below_step (by repeat (first | (with_reducible first | exact HB.out | apply below_alloc | apply pw_below_drewN | apply below_drew1) | exact HB.out)) hb); have n1_ := Aside0.mk (hbox); have n2_ := Aside0.mk ((by rw [hg]; exact (below_size (by repeat (first | (with_reducible first | exact HB.out | apply below_alloc | apply pw_below_drewN | apply below_drew1) | exact HB.out))) : w.heap.size ≤ gb355)); have n3_ := Aside0.mk ((by rw [hg]; exact (below_size (by repeat (first | (with_reducible first | exact HB.out | apply below_alloc | apply pw_below_drewN | apply below_drew1) | exact HB.out))) : w.heap.size ≤ gb355)); clear HB; have HB := n0_; have BK355 := n1_; have GW355 := n2_; have GE355 := n3_; clear n0_ n1_ n2_ n3_; clear hb hbox hg; have hcz30_0 : w29.cell? ⟨gb355, 0, none⟩ = some (.slice A0_0 l0_0.length c0_0) := (blk_cell BK355.out 0).trans rfl; have hcz30_1 : w29.cell? ⟨gb355, 1, none⟩ = some (.string a0_1) := (blk_cell BK355.out 1).trans rfl; have hcz30_2 : w29.cell? ⟨gb355, 2, none⟩ = some (.int .i64 a0_2) := (blk_cell BK355.out 2).trans rfl; have hfz30_0 := blk_frozen BK355.out 0; have hfz30_1 := blk_frozen BK355.out 1; have hfz30_2 := blk_frozen BK355.out 2) | ((with_reducible refine gate_callee (f := 20) rfl ?_); refine goesL_ (some 9) rfl rfl Try.func20 (by kernel_rfl) rfl #[.agg #[.slice A0_0 l0_0.length c0_0, .string a0_1, .int .i64 a0_2], .int .i64 1048576] rfl (by (try simp only [List.map_toArray, List.map_cons, List.map_nil]); first | done | rfl | (simp only [List.length_drop, List.length_take]; rfl)) ?_; (with_reducible refine (laws_szUrlAsk.calls _ _ l0_0 a0_1 a0_2 1048576 t356 _ ?side1 ?side2 A2.out).mono ?_); (case side1 => repeat (first | exact (Kd.C_below HR0_0.out HB.out) | (with_reducible refine Kd.C_alloc ?_ _) | (with_reducible refine Kd.C_drewN ?_ _) | (with_reducible refine Kd.C_drew ?_))); (case side2 => exact HC0_0.out); rintro e w31 ⟨rfl, hb⟩; refine ⟨_, rfl, ?_⟩; have n0_ := Aside0.mk (blk_below (g := gb355) (o := .cells #[.slice A0_0 l0_0.length c0_0, .string a0_1, .int .i64 a0_2] 37 (0, 0)) (by (with_reducible repeat (first | refine blk_drewN ?_ _ | refine blk_drew ?_ | refine blk_alloc ?_ _)); exact BK355.out) hb); have n1_ := Aside0.mk (below_step (by repeat (first | (with_reducible first | exact HB.out | apply below_alloc | apply pw_below_drewN | apply below_drew1 | refine below_set ?_ GE355.out) | exact HB.out)) hb); clear BK355; clear HB; have BK355 := n0_; have HB := n1_; clear n0_ n1_; (try clear hb); (try clear hb2); (try clear hk); (try clear hi); have hcz32_0 : w31.cell? ⟨gb355, 0, none⟩ = some (.slice A0_0 l0_0.length c0_0) := (blk_cell BK355.out 0).trans rfl; have hcz32_1 : w31.cell? ⟨gb355, 1, none⟩ = some (.string a0_1) := (blk_cell BK355.out 1).trans rfl; have hcz32_2 : w31.cell? ⟨gb355, 2, none⟩ = some (.int .i64 a0_2) := (blk_cell BK355.out 2).trans rfl; have hfz32_0 := blk_frozen BK355.out 0; have hfz32_1 := blk_frozen BK355.out 1; have hfz32_2 := blk_frozen BK355.out 2) | ((with_reducible refine gate_callee (f := 22) rfl ?_); refine goesL_ (some 13) rfl rfl Try.func22 (by kernel_rfl) rfl #[.agg #[.slice A0_0 l0_0.length c0_0, .string a0_1, .int .i64 a0_2]] rfl (by (try simp only [List.map_toArray, List.map_cons, List.map_nil]); first | done | rfl | (simp only [List.length_drop, List.length_take]; rfl)) ?_; (with_reducible refine (laws_toUrlAsk.calls k _ _ l0_0 a0_1 a0_2 t357 t360 t361 _ ?side1 ?side2 A7.out).mono ?_); (case side1 => repeat (first | exact (Kd.C_below HR0_0.out HB.out) | (with_reducible refine Kd.C_alloc ?_ _) | (with_reducible refine Kd.C_drewN ?_ _) | (with_reducible refine Kd.C_drew ?_))); (case side2 => exact HC0_0.out); rintro e w33 ⟨v358, rfl, ho0, hb⟩; refine ⟨_, rfl, ?_⟩; have n0_ := Aside0.mk (Kd.R_lower ho0 (below_size (by repeat (first | (with_reducible first | exact HB.out | apply below_alloc | apply pw_below_drewN | apply below_drew1 | refine below_set ?_ GE355.out) | exact HB.out)))); have n1_ := Aside0.mk (blk_below (g := gb355) (o := .cells #[.slice A0_0 l0_0.length c0_0, .string a0_1, .int .i64 a0_2] 37 (0, 0)) (by (with_reducible repeat (first | refine blk_drewN ?_ _ | refine blk_drew ?_ | refine blk_alloc ?_ _)); exact BK355.out) hb); have n2_ := Aside0.mk (below_step (by repeat (first | (with_reducible first | exact HB.out | apply below_alloc | apply pw_below_drewN | apply below_drew1 | refine below_set ?_ GE355.out) | exact HB.out)) hb); clear BK355; clear HB; have HO359 := n0_; have BK355 := n1_; have HB := n2_; clear n0_ n1_ n2_; (try clear hb); (try clear hb2); (try clear hk); (try clear hi); (try clear ho0); obtain ⟨Ao34, co34, eo34⟩ := Kd.R_slice HO359.out; subst eo34) | ((with_reducible refine gate_callee (f := 21) rfl ?_); refine goesL_ (some 14) rfl rfl Try.func21 (by kernel_rfl) rfl #[.agg #[.slice Ao34 t357.length co34, .string t360, .int .i64 t361]] rfl (by (try simp only [List.map_toArray, List.map_cons, List.map_nil]); first | done | rfl | (simp only [List.length_drop, List.length_take]; rfl)) ?_; (with_reducible refine (spec_AskOk.calls k _ _ t357 t360 t361 t362 _ ?side1 ?side2 A8.out).mono ?_); (case side1 => repeat (first | exact (Kd.R_reads' HO359.out).2.2 | (with_reducible refine Kd.C_alloc ?_ _) | (with_reducible refine Kd.C_drewN ?_ _) | (with_reducible refine Kd.C_drew ?_))); (case side2 => exact (Kd.R_reads' HO359.out).2.1); rintro e w35 ⟨rfl, hb⟩; refine ⟨_, rfl, ?_⟩; have n0_ := Aside0.mk (Kd.R_below (by (with_reducible repeat (first | apply Kd.R_alloc | apply Kd.R_drewN | apply Kd.R_drew)); exact HO359.out) hb); have n1_ := Aside0.mk (blk_below (g := gb355) (o := .cells #[.slice A0_0 l0_0.length c0_0, .string a0_1, .int .i64 a0_2] 37 (0, 0)) (by (with_reducible repeat (first | refine blk_drewN ?_ _ | refine blk_drew ?_ | refine blk_alloc ?_ _)); exact BK355.out) hb); have n2_ := Aside0.mk (below_step (by repeat (first | (with_reducible first | exact HB.out | apply below_alloc | apply pw_below_drewN | apply below_drew1 | refine below_set ?_ GE355.out) | exact HB.out)) hb); clear HO359; clear BK355; clear HB; have HO359 := n0_; have BK355 := n1_; have HB := n2_; clear n0_ n1_ n2_; (try clear hb); (try clear hb2); (try clear hk); (try clear hi); have hcz36_0 : w35.cell? ⟨gb355, 0, none⟩ = some (.slice A0_0 l0_0.length c0_0) := (blk_cell BK355.out 0).trans rfl; have hcz36_1 : w35.cell? ⟨gb355, 1, none⟩ = some (.string a0_1) := (blk_cell BK355.out 1).trans rfl; have hcz36_2 : w35.cell? ⟨gb355, 2, none⟩ = some (.int .i64 a0_2) := (blk_cell BK355.out 2).trans rfl; have hfz36_0 := blk_frozen BK355.out 0; have hfz36_1 := blk_frozen BK355.out 1; have hfz36_2 := blk_frozen BK355.out 2) | ((with_reducible refine gate_callee (f := 22) rfl ?_); refine goesL_ (some 16) rfl rfl Try.func22 (by kernel_rfl) rfl #[.agg #[.slice A0_0 l0_0.length c0_0, .string a0_1, .int .i64 a0_2]] rfl (by (try simp only [List.map_toArray, List.map_cons, List.map_nil]); first | done | rfl | (simp only [List.length_drop, List.length_take]; rfl)) ?_; (with_reducible refine (laws_toUrlAsk.calls k _ _ l0_0 a0_1 a0_2 t363 t366 t367 _ ?side1 ?side2 A9.out).mono ?_); (case side1 => repeat (first | exact (Kd.C_below HR0_0.out HB.out) | (with_reducible refine Kd.C_alloc ?_ _) | (with_reducible refine Kd.C_drewN ?_ _) | (with_reducible refine Kd.C_drew ?_))); (case side2 => exact HC0_0.out); rintro e w37 ⟨v364, rfl, ho0, hb⟩; refine ⟨_, rfl, ?_⟩; have n0_ := Aside0.mk (Kd.R_elder' (by (with_reducible repeat (first | apply Kd.R_alloc | apply Kd.R_drewN | apply Kd.R_drew)); exact HO359.out) (Kd.R_base ho0) hb); have n1_ := Aside0.mk (Kd.R_lower (Kd.R_new' ho0 (Kd.R_lt (by (with_reducible repeat (first | apply Kd.R_alloc | apply Kd.R_drewN | apply Kd.R_drew)); exact HO359.out))) (below_size (by repeat (first | (with_reducible first | exact HB.out | apply below_alloc | apply pw_below_drewN | apply below_drew1 | refine below_set ?_ GE355.out) | exact HB.out)))); have n2_ := Aside0.mk (blk_below (g := gb355) (o := .cells #[.slice A0_0 l0_0.length c0_0, .string a0_1, .int .i64 a0_2] 37 (0, 0)) (by (with_reducible repeat (first | refine blk_drewN ?_ _ | refine blk_drew ?_ | refine blk_alloc ?_ _)); exact BK355.out) hb); have n3_ := Aside0.mk (below_step (by repeat (first | (with_reducible first | exact HB.out | apply below_alloc | apply pw_below_drewN | apply below_drew1 | refine below_set ?_ GE355.out) | exact HB.out)) hb); clear HO359; clear BK355; clear HB; have HO359 := n0_; have HO365 := n1_; have BK355 := n2_; have HB := n3_; clear n0_ n1_ n2_ n3_; (try clear hb); (try clear hb2); (try clear hk); (try clear hi); (try clear ho0)) | ((with_reducible refine gate_dst (N := 5) rfl ?_); refine box_event ?hg (N := 5) ?hd (cs := #[.slice none 0 0, .string (⟨#[]⟩ : ByteArray), .int .i64 0]) (t := 42) ?hr ?_; (case hd => rfl); (case hg => rfl); (case hr => first | (go_simp; done) | (go_simp; rfl)); intro gb368 hg w38 hbox hb; have n0_ := Aside0.mk (Kd.R_below (by (with_reducible repeat (first | apply Kd.R_alloc | apply Kd.R_drewN | apply Kd.R_drew)); exact HO359.out) hb); have n1_ := Aside0.mk (Kd.R_below (by (with_reducible repeat (first | apply Kd.R_alloc | apply Kd.R_drewN | apply Kd.R_drew)); exact HO365.out) hb); have n2_ := Aside0.mk (blk_below (g := gb355) (o := .cells #[.slice A0_0 l0_0.length c0_0, .string a0_1, .int .i64 a0_2] 37 (0, 0)) (by (with_reducible repeat (first | refine blk_drewN ?_ _ | refine blk_drew ?_ | refine blk_alloc ?_ _)); exact BK355.out) hb); have n3_ := Aside0.mk (below_step (by repeat (first | (with_reducible first | exact HB.out | apply below_alloc | apply pw_below_drewN | apply below_drew1 | refine below_set ?_ GE355.out) | exact HB.out)) hb); have n4_ := Aside0.mk (hbox); have n5_ := Aside0.mk ((by rw [hg]; exact (below_size (by repeat (first | (with_reducible first | exact HB.out | apply below_alloc | apply pw_below_drewN | apply below_drew1 | refine below_set ?_ GE355.out) | exact HB.out))) : w.heap.size ≤ gb368)); have n6_ := Aside0.mk ((by rw [hg]; exact (below_size (by repeat (first | (with_reducible first | exact HB.out | apply below_alloc | apply pw_below_drewN | apply below_drew1 | refine below_set ?_ GE355.out) | exact HB.out))) : w.heap.size ≤ gb368)); have n7_ := Aside0.mk ((by rw [hg]; exact Nat.ne_of_lt (blk_lt (g := gb355) (o := .cells #[.slice A0_0 l0_0.length c0_0, .string a0_1, .int .i64 a0_2] 37 (0, 0)) (by (with_reducible repeat (first | refine blk_drewN ?_ _ | refine blk_drew ?_ | refine blk_alloc ?_ _)); exact BK355.out)) : gb355 ≠ gb368)); have n8_ := Aside0.mk ((by rw [hg]; exact Nat.ne_of_gt (blk_lt (g := gb355) (o := .cells #[.slice A0_0 l0_0.length c0_0, .string a0_1, .int .i64 a0_2] 37 (0, 0)) (by (with_reducible repeat (first | refine blk_drewN ?_ _ | refine blk_drew ?_ | refine blk_alloc ?_ _)); exact BK355.out)) : gb368 ≠ gb355)); clear HO359; clear HO365; clear BK355; clear HB; have HO359 := n0_; have HO365 := n1_; have BK355 := n2_; have HB := n3_; have BK368 := n4_; have GW368 := n5_; have GE368 := n6_; have NB355_368 := n7_; have NB368_355 := n8_; clear n0_ n1_ n2_ n3_ n4_ n5_ n6_ n7_ n8_; clear hb hbox hg; obtain ⟨Ao39, co39, eo39⟩ := Kd.R_slice HO365.out; subst eo39; have hnb40 := NB368_355.out; have hnc40 := NB355_368.out; have hcz41_0 : w38.cell? ⟨gb368, 0, none⟩ = some (.slice none 0 0) := (blk_cell BK368.out 0).trans rfl; have hcz41_1 : w38.cell? ⟨gb368, 1, none⟩ = some (.string (⟨#[]⟩ : ByteArray)) := (blk_cell BK368.out 1).trans rfl; have hcz41_2 : w38.cell? ⟨gb368, 2, none⟩ = some (.int .i64 0) := (blk_cell BK368.out 2).trans rfl; have hfz41_0 := blk_frozen BK368.out 0; have hfz41_1 := blk_frozen BK368.out 1; have hfz41_2 := blk_frozen BK368.out 2) | ((with_reducible refine gate_callee (f := 23) rfl ?_); refine goesL_ (some 18) rfl rfl Try.func23 (by kernel_rfl) rfl #[.agg #[.slice Ao39 t363.length co39, .string t366, .int .i64 t367]] rfl (by (try simp only [List.map_toArray, List.map_cons, List.map_nil]); first | done | rfl | (simp only [List.length_drop, List.length_take]; rfl)) ?_; (with_reducible refine (impl_AskOk.calls k _ _ t363 t366 t367 t369 _ ?side1 ?side2 A10.out).mono ?_); (case side1 => refine (Kd.R_reads' (e := 146) (base := w.heap.size) (ok := fun k_ => (True ∧ some k_ ≠ (.slice Ao34 t357.length co34 : Value).ownBlock)) (n := t363.length) (c := co39) ?_).2.2; exact (by (with_reducible repeat (first | apply Kd.R_alloc | apply Kd.R_drewN | apply Kd.R_drew)); exact (Kd.R_mono (Kd.R_far (p := ⟨gb368, 2, none⟩) (Kd.R_far (p := ⟨gb368, 1, none⟩) (Kd.R_far (p := ⟨gb368, 0, none⟩) (Kd.R_types HO365.out BK368.out (by decide)) (fun _ hk => hk.2) (.slice Ao39 t363.length co39)) (fun _ hk => hk.2) (.string t366)) (fun _ hk => hk.2) (.int .i64 t367)) (fun _ h_ => h_.1)))); (case side2 => exact (Kd.R_reads' HO365.out).2.1); rintro e w42 ⟨rfl, hb⟩; refine ⟨_, rfl, ?_⟩; have n0_ := Aside0.mk (Kd.R_below (by (with_reducible repeat (first | apply Kd.R_alloc | apply Kd.R_drewN | apply Kd.R_drew)); exact (Kd.R_mono (Kd.R_far (p := ⟨gb368, 2, none⟩) (Kd.R_far (p := ⟨gb368, 1, none⟩) (Kd.R_far (p := ⟨gb368, 0, none⟩) (Kd.R_types HO359.out BK368.out (by decide)) (fun _ hk => hk.2) (.slice Ao39 t363.length co39)) (fun _ hk => hk.2) (.string t366)) (fun _ hk => hk.2) (.int .i64 t367)) (fun _ h_ => h_.1))) hb); have n1_ := Aside0.mk (Kd.R_below (by (with_reducible repeat (first | apply Kd.R_alloc | apply Kd.R_drewN | apply Kd.R_drew)); exact (Kd.R_mono (Kd.R_far (p := ⟨gb368, 2, none⟩) (Kd.R_far (p := ⟨gb368, 1, none⟩) (Kd.R_far (p := ⟨gb368, 0, none⟩) (Kd.R_types HO365.out BK368.out (by decide)) (fun _ hk => hk.2) (.slice Ao39 t363.length co39)) (fun _ hk => hk.2) (.string t366)) (fun _ hk => hk.2) (.int .i64 t367)) (fun _ h_ => h_.1))) hb); have n2_ := Aside0.mk (blk_below (g := gb355) (o := .cells #[.slice A0_0 l0_0.length c0_0, .string a0_1, .int .i64 a0_2] 37 (0, 0)) (by (with_reducible repeat (first | refine blk_drewN ?_ _ | refine blk_drew ?_ | refine blk_alloc ?_ _)); refine blk_far ?_ NB355_368.out _; (with_reducible repeat (first | refine blk_drewN ?_ _ | refine blk_drew ?_ | refine blk_alloc ?_ _)); refine blk_far ?_ NB355_368.out _; (with_reducible repeat (first | refine blk_drewN ?_ _ | refine blk_drew ?_ | refine blk_alloc ?_ _)); refine blk_far ?_ NB355_368.out _; (with_reducible repeat (first | refine blk_drewN ?_ _ | refine blk_drew ?_ | refine blk_alloc ?_ _)); exact BK355.out) hb); have n3_ := Aside0.mk (blk_below (g := gb368) (o := .cells #[.slice Ao39 t363.length co39, .string t366, .int .i64 t367] 42 (0, 0)) (by (with_reducible repeat (first | refine blk_drewN ?_ _ | refine blk_drew ?_ | refine blk_alloc ?_ _)); refine blk_put (cs := #[.slice Ao39 t363.length co39, .string t366, .int .i64 0]) ?_ 2 _ rfl; (with_reducible repeat (first | refine blk_drewN ?_ _ | refine blk_drew ?_ | refine blk_alloc ?_ _)); refine blk_put (cs := #[.slice Ao39 t363.length co39, .string (⟨#[]⟩ : ByteArray), .int .i64 0]) ?_ 1 _ rfl; (with_reducible repeat (first | refine blk_drewN ?_ _ | refine blk_drew ?_ | refine blk_alloc ?_ _)); refine blk_put (cs := #[.slice none 0 0, .string (⟨#[]⟩ : ByteArray), .int .i64 0]) ?_ 0 _ rfl; (with_reducible repeat (first | refine blk_drewN ?_ _ | refine blk_drew ?_ | refine blk_alloc ?_ _)); exact BK368.out) hb); have n4_ := Aside0.mk (below_step (by repeat (first | (with_reducible first | exact HB.out | apply below_alloc | apply pw_below_drewN | apply below_drew1 | refine below_set ?_ GE355.out | refine below_set ?_ GE368.out) | exact HB.out)) hb); clear HO359; clear HO365; clear BK355; clear BK368; clear HB; have HO359 := n0_; have HO365 := n1_; have BK355 := n2_; have BK368 := n3_; have HB := n4_; clear n0_ n1_ n2_ n3_ n4_; (try clear hb); (try clear hb2); (try clear hk); (try clear hi)))
        have n0_ := Aside0.mk (Kd.R_drew HO359.out)
        have n1_ := Aside0.mk (Kd.R_drew HO365.out)
        have n2_ := Aside0.mk (blk_drew BK355.out)
        have n3_ := Aside0.mk (blk_drew BK368.out)
        have n4_ := Aside0.mk (below_drew1 HB.out)
        clear HO359
        clear HO365
        clear BK355
        clear BK368
        clear HB
        have HO359 := n0_
        have HO365 := n1_
        have BK355 := n2_
        have BK368 := n3_
        have HB := n4_
        clear n0_ n1_ n2_ n3_ n4_
        refine start_ (n := 5) (S := fun w' => w'.cell? ⟨gb368, 0, none⟩ = some (.slice Ao39 t363.length co39) ∧ w'.cell? ⟨gb368, 1, none⟩ = some (.string t366) ∧ w'.cell? ⟨gb368, 2, none⟩ = some (.int .i64 t367) ∧ w'.cell? ⟨gb355, 0, none⟩ = some (.slice A0_0 l0_0.length c0_0) ∧ w'.cell? ⟨gb355, 1, none⟩ = some (.string a0_1) ∧ w'.cell? ⟨gb355, 2, none⟩ = some (.int .i64 a0_2)) (ds := []) #[false, false, false, false, false] (by kernel_rfl) rfl rfl ⟨(blk_cell BK368.out 0).trans rfl, (blk_cell BK368.out 1).trans rfl, (blk_cell BK368.out 2).trans rfl, (blk_cell BK355.out 0).trans rfl, (blk_cell BK355.out 1).trans rfl, (blk_cell BK355.out 2).trans rfl⟩ (fun hHeld => ?_)
        generalize w42.drew = w43 at HO359 HO365 BK355 BK368 HB hHeld ⊢
        refine take_ (i := 0) (N := some 22) (v := ?_) (a' := ?_) #[true, false, false, false, false] rfl rfl (by kernel_rfl) (fun _ _ _ h => h) (Or.inl ⟨by rfl, ?_⟩) hHeld ?_ ?_
        rotate_left
        · rintro w' ⟨s0, s1, s2, s3, s4, s5⟩
          go_simp
          with_reducible rfl
        rotate_left
        · simp only [Act.put, List.setIfInBounds_toArray, List.set_cons_zero, List.set_cons_succ, i64_w, i32_w]
          rfl
        refine take_ (i := 1) (N := some 23) (v := ?_) (a' := ?_) #[true, true, false, false, false] rfl rfl (by kernel_rfl) (fun _ _ _ h => h) (Or.inl ⟨by rfl, ?_⟩) hHeld ?_ ?_
        rotate_left
        · rintro w' ⟨s0, s1, s2, s3, s4, s5⟩
          go_simp
          with_reducible rfl
        rotate_left
        · simp only [Act.put, List.setIfInBounds_toArray, List.set_cons_zero, List.set_cons_succ, i64_w, i32_w]
          rfl
        refine one_ (i := 2) (N := some 24) #[true, true, true, false, false] rfl rfl (by kernel_rfl) (by decide) (fun K hK => ?_)
        refine goes_ Try.func22 (by kernel_rfl) rfl #[.agg #[.slice A0_0 l0_0.length c0_0, .string a0_1, .int .i64 a0_2]] (by rfl) rfl rfl (by (try simp only [List.map_toArray, List.map_cons, List.map_nil]); first | done | rfl | (simp only [List.length_drop, List.length_take]; rfl)) ?_
        with_reducible refine (laws_toUrlAsk.calls k _ _ l0_0 a0_1 a0_2 t370 t373 t374 _ ?side1 ?side2 A26.out).mono ?_
        (case side1 => repeat (first | exact (Kd.C_below HR0_0.out HB.out) | (with_reducible refine Kd.C_alloc ?_ _) | (with_reducible refine Kd.C_drewN ?_ _) | (with_reducible refine Kd.C_drew ?_)))
        (case side2 => exact HC0_0.out)
        rintro e w44 ⟨v371, rfl, ho0, hb⟩
        refine ⟨_, rfl, ?_⟩
        have n0_ := Aside0.mk (Kd.R_elder' (by (with_reducible repeat (first | apply Kd.R_alloc | apply Kd.R_drewN | apply Kd.R_drew)); exact HO359.out) (Kd.R_base ho0) hb)
        have n1_ := Aside0.mk (Kd.R_elder' (by (with_reducible repeat (first | apply Kd.R_alloc | apply Kd.R_drewN | apply Kd.R_drew)); exact HO365.out) (Kd.R_base ho0) hb)
        have n2_ := Aside0.mk (Kd.R_lower (Kd.R_new' (Kd.R_new' ho0 (Kd.R_lt (by (with_reducible repeat (first | apply Kd.R_alloc | apply Kd.R_drewN | apply Kd.R_drew)); exact HO359.out))) (Kd.R_lt (by (with_reducible repeat (first | apply Kd.R_alloc | apply Kd.R_drewN | apply Kd.R_drew)); exact HO365.out))) (below_size (by repeat (first | (with_reducible first | exact HB.out | apply below_alloc | apply pw_below_drewN | apply below_drew1 | refine below_set ?_ GE355.out | refine below_set ?_ GE368.out) | exact HB.out))))
        have n3_ := Aside0.mk (blk_below (g := gb355) (o := .cells #[.slice A0_0 l0_0.length c0_0, .string a0_1, .int .i64 a0_2] 37 (0, 0)) (by (with_reducible repeat (first | refine blk_drewN ?_ _ | refine blk_drew ?_ | refine blk_alloc ?_ _)); exact BK355.out) hb)
        have n4_ := Aside0.mk (blk_below (g := gb368) (o := .cells #[.slice Ao39 t363.length co39, .string t366, .int .i64 t367] 42 (0, 0)) (by (with_reducible repeat (first | refine blk_drewN ?_ _ | refine blk_drew ?_ | refine blk_alloc ?_ _)); exact BK368.out) hb)
        have n5_ := Aside0.mk (below_step (by repeat (first | (with_reducible first | exact HB.out | apply below_alloc | apply pw_below_drewN | apply below_drew1 | refine below_set ?_ GE355.out | refine below_set ?_ GE368.out) | exact HB.out)) hb)
        clear HO359
        clear HO365
        clear BK355
        clear BK368
        clear HB
        have HO359 := n0_
        have HO365 := n1_
        have HO372 := n2_
        have BK355 := n3_
        have BK368 := n4_
        have HB := n5_
        clear n0_ n1_ n2_ n3_ n4_ n5_
        (try clear hb)
        (try clear hb2)
        (try clear hk)
        (try clear hi)
        (try clear ho0)
        obtain ⟨Ao45, co45, eo45⟩ := Kd.R_slice HO372.out
        (first | subst eo45 | (injection eo45 with f1_ f2_ f3_; have f4_ := f1_.symm; have f5_ := f3_.symm; clear f1_ f2_ f3_; subst f4_; subst f5_))
        refine hK.out _ _ ⟨(blk_cell BK368.out 0).trans rfl, (blk_cell BK368.out 1).trans rfl, (blk_cell BK368.out 2).trans rfl, (blk_cell BK355.out 0).trans rfl, (blk_cell BK355.out 1).trans rfl, (blk_cell BK355.out 2).trans rfl⟩ (fun hHeld => ?_)
        clear hK K
        refine norm_ (a' := ?_) ?_ ?_
        rotate_left
        · show Act.put _ (some 24) _ = _
          simp only [Act.put, List.setIfInBounds_toArray, List.set_cons_zero, List.set_cons_succ, i64_w, i32_w]
          rfl
        refine one_ (i := 3) (N := some 25) #[true, true, true, true, false] rfl rfl (by kernel_rfl) (by decide) (fun K hK => ?_)
        refine goes_ Try.func24 (by kernel_rfl) rfl #[.agg #[.slice Ao39 t363.length co39, .string t366, .int .i64 t367], .agg #[.slice Ao45 t370.length co45, .string t373, .int .i64 t374]] (by rfl) rfl rfl (by (try simp only [List.map_toArray, List.map_cons, List.map_nil]); first | done | rfl | (simp only [List.length_drop, List.length_take]; rfl)) ?_
        with_reducible refine (laws_eqUrlAsk.calls k _ _ t363 t366 t367 _ _ t370 t373 t374 true _ ?side1 ?side2 ?side3 ?side4 A27.out).mono ?_
        (case side1 => repeat (first | exact (Kd.R_reads' HO365.out).2.2 | (with_reducible refine Kd.C_alloc ?_ _) | (with_reducible refine Kd.C_drewN ?_ _) | (with_reducible refine Kd.C_drew ?_)))
        (case side2 => exact (Kd.R_reads' HO365.out).2.1)
        (case side3 => repeat (first | exact (Kd.R_reads' HO372.out).2.2 | (with_reducible refine Kd.C_alloc ?_ _) | (with_reducible refine Kd.C_drewN ?_ _) | (with_reducible refine Kd.C_drew ?_)))
        (case side4 => exact (Kd.R_reads' HO372.out).2.1)
        rintro e w46 ⟨rfl, hb⟩
        refine ⟨_, rfl, ?_⟩
        have n0_ := Aside0.mk (Kd.R_below (by (with_reducible repeat (first | apply Kd.R_alloc | apply Kd.R_drewN | apply Kd.R_drew)); exact HO359.out) hb)
        have n1_ := Aside0.mk (Kd.R_below (by (with_reducible repeat (first | apply Kd.R_alloc | apply Kd.R_drewN | apply Kd.R_drew)); exact HO365.out) hb)
        have n2_ := Aside0.mk (Kd.R_below (by (with_reducible repeat (first | apply Kd.R_alloc | apply Kd.R_drewN | apply Kd.R_drew)); exact HO372.out) hb)
        have n3_ := Aside0.mk (blk_below (g := gb355) (o := .cells #[.slice A0_0 l0_0.length c0_0, .string a0_1, .int .i64 a0_2] 37 (0, 0)) (by (with_reducible repeat (first | refine blk_drewN ?_ _ | refine blk_drew ?_ | refine blk_alloc ?_ _)); exact BK355.out) hb)
        have n4_ := Aside0.mk (blk_below (g := gb368) (o := .cells #[.slice Ao39 t363.length co39, .string t366, .int .i64 t367] 42 (0, 0)) (by (with_reducible repeat (first | refine blk_drewN ?_ _ | refine blk_drew ?_ | refine blk_alloc ?_ _)); exact BK368.out) hb)
        have n5_ := Aside0.mk (below_step (by repeat (first | (with_reducible first | exact HB.out | apply below_alloc | apply pw_below_drewN | apply below_drew1 | refine below_set ?_ GE355.out | refine below_set ?_ GE368.out) | exact HB.out)) hb)
        clear HO359
        clear HO365
        clear HO372
        clear BK355
        clear BK368
        clear HB
        have HO359 := n0_
        have HO365 := n1_
        have HO372 := n2_
        have BK355 := n3_
        have BK368 := n4_
        have HB := n5_
        clear n0_ n1_ n2_ n3_ n4_ n5_
        (try clear hb)
        (try clear hb2)
        (try clear hk)
        (try clear hi)
        refine hK.out _ _ ⟨(blk_cell BK368.out 0).trans rfl, (blk_cell BK368.out 1).trans rfl, (blk_cell BK368.out 2).trans rfl, (blk_cell BK355.out 0).trans rfl, (blk_cell BK355.out 1).trans rfl, (blk_cell BK355.out 2).trans rfl⟩ (fun hHeld => ?_)
        clear hK K
        refine norm_ (a' := ?_) ?_ ?_
        rotate_left
        · show Act.put _ (some 25) _ = _
          simp only [Act.put, List.setIfInBounds_toArray, List.set_cons_zero, List.set_cons_succ, i64_w, i32_w]
          rfl
        refine pure_ (i := 4) (N := some 26) (v := ?_) (a' := ?_) #[true, true, true, true, true] rfl rfl (by kernel_rfl) (fun _ _ _ h => h) (Or.inl ⟨by rfl, ?_⟩) ?_ ?_
        rotate_left
        · intro w'
          go_simp
          with_reducible rfl
        rotate_left
        · simp only [Act.put, List.setIfInBounds_toArray, List.set_cons_zero, List.set_cons_succ, i64_w, i32_w]
          rfl
        refine done_ (by kernel_rfl) ?_
        try go_wp2
        go_ret
        exact ⟨by first | rfl | (simp [errW_none, errW_some] <;> rfl) | (simp [*, errW_none, errW_some] <;> rfl), by repeat (first | (with_reducible first | exact HB.out | apply below_alloc | apply pw_below_drewN | apply below_drew1 | refine below_set ?_ GE355.out | refine below_set ?_ GE368.out) | exact HB.out)⟩
      · replace c28 := Bool.eq_false_iff.mpr c28
        subst c28
        have H1 : (some false) = some r := by rw [if_neg (show ¬ (false = true) by decide)] at H; exact H
        clear H
        have H := H1
        clear H1
        obtain rfl := Option.some.inj H
        go_enter Try.func5, Try.ntmps5
        try go_wp2_with (first | ((with_reducible refine gate_dst (N := 1) rfl ?_); refine box_event ?hg (N := 1) ?hd (cs := #[.slice A0_0 l0_0.length c0_0, .string a0_1, .int .i64 a0_2]) (t := 37) ?hr ?_; (case hd => rfl); (case hg => rfl); (case hr => first | (go_simp; done) | (go_simp; rfl)); intro gb355 hg w47 hbox hb; have n0_ := Aside0.mk (below_step (by repeat (first | (with_reducible first | exact HB.out | apply below_alloc | apply pw_below_drewN | apply below_drew1) | exact HB.out)) hb); have n1_ := Aside0.mk (hbox); have n2_ := Aside0.mk ((by rw [hg]; exact (below_size (by repeat (first | (with_reducible first | exact HB.out | apply below_alloc | apply pw_below_drewN | apply below_drew1) | exact HB.out))) : w.heap.size ≤ gb355)); have n3_ := Aside0.mk ((by rw [hg]; exact (below_size (by repeat (first | (with_reducible first | exact HB.out | apply below_alloc | apply pw_below_drewN | apply below_drew1) | exact HB.out))) : w.heap.size ≤ gb355)); clear HB; have HB := n0_; have BK355 := n1_; have GW355 := n2_; have GE355 := n3_; clear n0_ n1_ n2_ n3_; clear hb hbox hg; have hcz48_0 : w47.cell? ⟨gb355, 0, none⟩ = some (.slice A0_0 l0_0.length c0_0) := (blk_cell BK355.out 0).trans rfl; have hcz48_1 : w47.cell? ⟨gb355, 1, none⟩ = some (.string a0_1) := (blk_cell BK355.out 1).trans rfl; have hcz48_2 : w47.cell? ⟨gb355, 2, none⟩ = some (.int .i64 a0_2) := (blk_cell BK355.out 2).trans rfl; have hfz48_0 := blk_frozen BK355.out 0; have hfz48_1 := blk_frozen BK355.out 1; have hfz48_2 := blk_frozen BK355.out 2) | ((with_reducible refine gate_callee (f := 20) rfl ?_); refine goesL_ (some 9) rfl rfl Try.func20 (by kernel_rfl) rfl #[.agg #[.slice A0_0 l0_0.length c0_0, .string a0_1, .int .i64 a0_2], .int .i64 1048576] rfl (by (try simp only [List.map_toArray, List.map_cons, List.map_nil]); first | done | rfl | (simp only [List.length_drop, List.length_take]; rfl)) ?_; (with_reducible refine (laws_szUrlAsk.calls _ _ l0_0 a0_1 a0_2 1048576 t356 _ ?side1 ?side2 A2.out).mono ?_); (case side1 => repeat (first | exact (Kd.C_below HR0_0.out HB.out) | (with_reducible refine Kd.C_alloc ?_ _) | (with_reducible refine Kd.C_drewN ?_ _) | (with_reducible refine Kd.C_drew ?_))); (case side2 => exact HC0_0.out); rintro e w49 ⟨rfl, hb⟩; refine ⟨_, rfl, ?_⟩; have n0_ := Aside0.mk (blk_below (g := gb355) (o := .cells #[.slice A0_0 l0_0.length c0_0, .string a0_1, .int .i64 a0_2] 37 (0, 0)) (by (with_reducible repeat (first | refine blk_drewN ?_ _ | refine blk_drew ?_ | refine blk_alloc ?_ _)); exact BK355.out) hb); have n1_ := Aside0.mk (below_step (by repeat (first | (with_reducible first | exact HB.out | apply below_alloc | apply pw_below_drewN | apply below_drew1 | refine below_set ?_ GE355.out) | exact HB.out)) hb); clear BK355; clear HB; have BK355 := n0_; have HB := n1_; clear n0_ n1_; (try clear hb); (try clear hb2); (try clear hk); (try clear hi); have hcz50_0 : w49.cell? ⟨gb355, 0, none⟩ = some (.slice A0_0 l0_0.length c0_0) := (blk_cell BK355.out 0).trans rfl; have hcz50_1 : w49.cell? ⟨gb355, 1, none⟩ = some (.string a0_1) := (blk_cell BK355.out 1).trans rfl; have hcz50_2 : w49.cell? ⟨gb355, 2, none⟩ = some (.int .i64 a0_2) := (blk_cell BK355.out 2).trans rfl; have hfz50_0 := blk_frozen BK355.out 0; have hfz50_1 := blk_frozen BK355.out 1; have hfz50_2 := blk_frozen BK355.out 2) | ((with_reducible refine gate_callee (f := 22) rfl ?_); refine goesL_ (some 13) rfl rfl Try.func22 (by kernel_rfl) rfl #[.agg #[.slice A0_0 l0_0.length c0_0, .string a0_1, .int .i64 a0_2]] rfl (by (try simp only [List.map_toArray, List.map_cons, List.map_nil]); first | done | rfl | (simp only [List.length_drop, List.length_take]; rfl)) ?_; (with_reducible refine (laws_toUrlAsk.calls k _ _ l0_0 a0_1 a0_2 t357 t360 t361 _ ?side1 ?side2 A7.out).mono ?_); (case side1 => repeat (first | exact (Kd.C_below HR0_0.out HB.out) | (with_reducible refine Kd.C_alloc ?_ _) | (with_reducible refine Kd.C_drewN ?_ _) | (with_reducible refine Kd.C_drew ?_))); (case side2 => exact HC0_0.out); rintro e w51 ⟨v358, rfl, ho0, hb⟩; refine ⟨_, rfl, ?_⟩; have n0_ := Aside0.mk (Kd.R_lower ho0 (below_size (by repeat (first | (with_reducible first | exact HB.out | apply below_alloc | apply pw_below_drewN | apply below_drew1 | refine below_set ?_ GE355.out) | exact HB.out)))); have n1_ := Aside0.mk (blk_below (g := gb355) (o := .cells #[.slice A0_0 l0_0.length c0_0, .string a0_1, .int .i64 a0_2] 37 (0, 0)) (by (with_reducible repeat (first | refine blk_drewN ?_ _ | refine blk_drew ?_ | refine blk_alloc ?_ _)); exact BK355.out) hb); have n2_ := Aside0.mk (below_step (by repeat (first | (with_reducible first | exact HB.out | apply below_alloc | apply pw_below_drewN | apply below_drew1 | refine below_set ?_ GE355.out) | exact HB.out)) hb); clear BK355; clear HB; have HO359 := n0_; have BK355 := n1_; have HB := n2_; clear n0_ n1_ n2_; (try clear hb); (try clear hb2); (try clear hk); (try clear hi); (try clear ho0); obtain ⟨Ao52, co52, eo52⟩ := Kd.R_slice HO359.out; subst eo52) | ((with_reducible refine gate_callee (f := 21) rfl ?_); refine goesL_ (some 14) rfl rfl Try.func21 (by kernel_rfl) rfl #[.agg #[.slice Ao52 t357.length co52, .string t360, .int .i64 t361]] rfl (by (try simp only [List.map_toArray, List.map_cons, List.map_nil]); first | done | rfl | (simp only [List.length_drop, List.length_take]; rfl)) ?_; (with_reducible refine (spec_AskOk.calls k _ _ t357 t360 t361 t362 _ ?side1 ?side2 A8.out).mono ?_); (case side1 => repeat (first | exact (Kd.R_reads' HO359.out).2.2 | (with_reducible refine Kd.C_alloc ?_ _) | (with_reducible refine Kd.C_drewN ?_ _) | (with_reducible refine Kd.C_drew ?_))); (case side2 => exact (Kd.R_reads' HO359.out).2.1); rintro e w53 ⟨rfl, hb⟩; refine ⟨_, rfl, ?_⟩; have n0_ := Aside0.mk (Kd.R_below (by (with_reducible repeat (first | apply Kd.R_alloc | apply Kd.R_drewN | apply Kd.R_drew)); exact HO359.out) hb); have n1_ := Aside0.mk (blk_below (g := gb355) (o := .cells #[.slice A0_0 l0_0.length c0_0, .string a0_1, .int .i64 a0_2] 37 (0, 0)) (by (with_reducible repeat (first | refine blk_drewN ?_ _ | refine blk_drew ?_ | refine blk_alloc ?_ _)); exact BK355.out) hb); have n2_ := Aside0.mk (below_step (by repeat (first | (with_reducible first | exact HB.out | apply below_alloc | apply pw_below_drewN | apply below_drew1 | refine below_set ?_ GE355.out) | exact HB.out)) hb); clear HO359; clear BK355; clear HB; have HO359 := n0_; have BK355 := n1_; have HB := n2_; clear n0_ n1_ n2_; (try clear hb); (try clear hb2); (try clear hk); (try clear hi); have hcz54_0 : w53.cell? ⟨gb355, 0, none⟩ = some (.slice A0_0 l0_0.length c0_0) := (blk_cell BK355.out 0).trans rfl; have hcz54_1 : w53.cell? ⟨gb355, 1, none⟩ = some (.string a0_1) := (blk_cell BK355.out 1).trans rfl; have hcz54_2 : w53.cell? ⟨gb355, 2, none⟩ = some (.int .i64 a0_2) := (blk_cell BK355.out 2).trans rfl; have hfz54_0 := blk_frozen BK355.out 0; have hfz54_1 := blk_frozen BK355.out 1; have hfz54_2 := blk_frozen BK355.out 2) | ((with_reducible refine gate_callee (f := 22) rfl ?_); refine goesL_ (some 16) rfl rfl Try.func22 (by kernel_rfl) rfl #[.agg #[.slice A0_0 l0_0.length c0_0, .string a0_1, .int .i64 a0_2]] rfl (by (try simp only [List.map_toArray, List.map_cons, List.map_nil]); first | done | rfl | (simp only [List.length_drop, List.length_take]; rfl)) ?_; (with_reducible refine (laws_toUrlAsk.calls k _ _ l0_0 a0_1 a0_2 t363 t366 t367 _ ?side1 ?side2 A9.out).mono ?_); (case side1 => repeat (first | exact (Kd.C_below HR0_0.out HB.out) | (with_reducible refine Kd.C_alloc ?_ _) | (with_reducible refine Kd.C_drewN ?_ _) | (with_reducible refine Kd.C_drew ?_))); (case side2 => exact HC0_0.out); rintro e w55 ⟨v364, rfl, ho0, hb⟩; refine ⟨_, rfl, ?_⟩; have n0_ := Aside0.mk (Kd.R_elder' (by (with_reducible repeat (first | apply Kd.R_alloc | apply Kd.R_drewN | apply Kd.R_drew)); exact HO359.out) (Kd.R_base ho0) hb); have n1_ := Aside0.mk (Kd.R_lower (Kd.R_new' ho0 (Kd.R_lt (by (with_reducible repeat (first | apply Kd.R_alloc | apply Kd.R_drewN | apply Kd.R_drew)); exact HO359.out))) (below_size (by repeat (first | (with_reducible first | exact HB.out | apply below_alloc | apply pw_below_drewN | apply below_drew1 | refine below_set ?_ GE355.out) | exact HB.out)))); have n2_ := Aside0.mk (blk_below (g := gb355) (o := .cells #[.slice A0_0 l0_0.length c0_0, .string a0_1, .int .i64 a0_2] 37 (0, 0)) (by (with_reducible repeat (first | refine blk_drewN ?_ _ | refine blk_drew ?_ | refine blk_alloc ?_ _)); exact BK355.out) hb); have n3_ := Aside0.mk (below_step (by repeat (first | (with_reducible first | exact HB.out | apply below_alloc | apply pw_below_drewN | apply below_drew1 | refine below_set ?_ GE355.out) | exact HB.out)) hb); clear HO359; clear BK355; clear HB; have HO359 := n0_; have HO365 := n1_; have BK355 := n2_; have HB := n3_; clear n0_ n1_ n2_ n3_; (try clear hb); (try clear hb2); (try clear hk); (try clear hi); (try clear ho0)) | ((with_reducible refine gate_dst (N := 5) rfl ?_); refine box_event ?hg (N := 5) ?hd (cs := #[.slice none 0 0, .string (⟨#[]⟩ : ByteArray), .int .i64 0]) (t := 42) ?hr ?_; (case hd => rfl); (case hg => rfl); (case hr => first | (go_simp; done) | (go_simp; rfl)); intro gb368 hg w56 hbox hb; have n0_ := Aside0.mk (Kd.R_below (by (with_reducible repeat (first | apply Kd.R_alloc | apply Kd.R_drewN | apply Kd.R_drew)); exact HO359.out) hb); have n1_ := Aside0.mk (Kd.R_below (by (with_reducible repeat (first | apply Kd.R_alloc | apply Kd.R_drewN | apply Kd.R_drew)); exact HO365.out) hb); have n2_ := Aside0.mk (blk_below (g := gb355) (o := .cells #[.slice A0_0 l0_0.length c0_0, .string a0_1, .int .i64 a0_2] 37 (0, 0)) (by (with_reducible repeat (first | refine blk_drewN ?_ _ | refine blk_drew ?_ | refine blk_alloc ?_ _)); exact BK355.out) hb); have n3_ := Aside0.mk (below_step (by repeat (first | (with_reducible first | exact HB.out | apply below_alloc | apply pw_below_drewN | apply below_drew1 | refine below_set ?_ GE355.out) | exact HB.out)) hb); have n4_ := Aside0.mk (hbox); have n5_ := Aside0.mk ((by rw [hg]; exact (below_size (by repeat (first | (with_reducible first | exact HB.out | apply below_alloc | apply pw_below_drewN | apply below_drew1 | refine below_set ?_ GE355.out) | exact HB.out))) : w.heap.size ≤ gb368)); have n6_ := Aside0.mk ((by rw [hg]; exact (below_size (by repeat (first | (with_reducible first | exact HB.out | apply below_alloc | apply pw_below_drewN | apply below_drew1 | refine below_set ?_ GE355.out) | exact HB.out))) : w.heap.size ≤ gb368)); have n7_ := Aside0.mk ((by rw [hg]; exact Nat.ne_of_lt (blk_lt (g := gb355) (o := .cells #[.slice A0_0 l0_0.length c0_0, .string a0_1, .int .i64 a0_2] 37 (0, 0)) (by (with_reducible repeat (first | refine blk_drewN ?_ _ | refine blk_drew ?_ | refine blk_alloc ?_ _)); exact BK355.out)) : gb355 ≠ gb368)); have n8_ := Aside0.mk ((by rw [hg]; exact Nat.ne_of_gt (blk_lt (g := gb355) (o := .cells #[.slice A0_0 l0_0.length c0_0, .string a0_1, .int .i64 a0_2] 37 (0, 0)) (by (with_reducible repeat (first | refine blk_drewN ?_ _ | refine blk_drew ?_ | refine blk_alloc ?_ _)); exact BK355.out)) : gb368 ≠ gb355)); clear HO359; clear HO365; clear BK355; clear HB; have HO359 := n0_; have HO365 := n1_; have BK355 := n2_; have HB := n3_; have BK368 := n4_; have GW368 := n5_; have GE368 := n6_; have NB355_368 := n7_; have NB368_355 := n8_; clear n0_ n1_ n2_ n3_ n4_ n5_ n6_ n7_ n8_; clear hb hbox hg; obtain ⟨Ao57, co57, eo57⟩ := Kd.R_slice HO365.out; subst eo57; have hnb58 := NB368_355.out; have hnc58 := NB355_368.out; have hcz59_0 : w56.cell? ⟨gb368, 0, none⟩ = some (.slice none 0 0) := (blk_cell BK368.out 0).trans rfl; have hcz59_1 : w56.cell? ⟨gb368, 1, none⟩ = some (.string (⟨#[]⟩ : ByteArray)) := (blk_cell BK368.out 1).trans rfl; have hcz59_2 : w56.cell? ⟨gb368, 2, none⟩ = some (.int .i64 0) := (blk_cell BK368.out 2).trans rfl; have hfz59_0 := blk_frozen BK368.out 0; have hfz59_1 := blk_frozen BK368.out 1; have hfz59_2 := blk_frozen BK368.out 2) | ((with_reducible refine gate_callee (f := 23) rfl ?_); refine goesL_ (some 18) rfl rfl Try.func23 (by kernel_rfl) rfl #[.agg #[.slice Ao57 t363.length co57, .string t366, .int .i64 t367]] rfl (by (try simp only [List.map_toArray, List.map_cons, List.map_nil]); first | done | rfl | (simp only [List.length_drop, List.length_take]; rfl)) ?_; (with_reducible refine (impl_AskOk.calls k _ _ t363 t366 t367 t369 _ ?side1 ?side2 A10.out).mono ?_); (case side1 => refine (Kd.R_reads' (e := 146) (base := w.heap.size) (ok := fun k_ => (True ∧ some k_ ≠ (.slice Ao52 t357.length co52 : Value).ownBlock)) (n := t363.length) (c := co57) ?_).2.2; exact (by (with_reducible repeat (first | apply Kd.R_alloc | apply Kd.R_drewN | apply Kd.R_drew)); exact (Kd.R_mono (Kd.R_far (p := ⟨gb368, 2, none⟩) (Kd.R_far (p := ⟨gb368, 1, none⟩) (Kd.R_far (p := ⟨gb368, 0, none⟩) (Kd.R_types HO365.out BK368.out (by decide)) (fun _ hk => hk.2) (.slice Ao57 t363.length co57)) (fun _ hk => hk.2) (.string t366)) (fun _ hk => hk.2) (.int .i64 t367)) (fun _ h_ => h_.1)))); (case side2 => exact (Kd.R_reads' HO365.out).2.1); rintro e w60 ⟨rfl, hb⟩; refine ⟨_, rfl, ?_⟩; have n0_ := Aside0.mk (Kd.R_below (by (with_reducible repeat (first | apply Kd.R_alloc | apply Kd.R_drewN | apply Kd.R_drew)); exact (Kd.R_mono (Kd.R_far (p := ⟨gb368, 2, none⟩) (Kd.R_far (p := ⟨gb368, 1, none⟩) (Kd.R_far (p := ⟨gb368, 0, none⟩) (Kd.R_types HO359.out BK368.out (by decide)) (fun _ hk => hk.2) (.slice Ao57 t363.length co57)) (fun _ hk => hk.2) (.string t366)) (fun _ hk => hk.2) (.int .i64 t367)) (fun _ h_ => h_.1))) hb); have n1_ := Aside0.mk (Kd.R_below (by (with_reducible repeat (first | apply Kd.R_alloc | apply Kd.R_drewN | apply Kd.R_drew)); exact (Kd.R_mono (Kd.R_far (p := ⟨gb368, 2, none⟩) (Kd.R_far (p := ⟨gb368, 1, none⟩) (Kd.R_far (p := ⟨gb368, 0, none⟩) (Kd.R_types HO365.out BK368.out (by decide)) (fun _ hk => hk.2) (.slice Ao57 t363.length co57)) (fun _ hk => hk.2) (.string t366)) (fun _ hk => hk.2) (.int .i64 t367)) (fun _ h_ => h_.1))) hb); have n2_ := Aside0.mk (blk_below (g := gb355) (o := .cells #[.slice A0_0 l0_0.length c0_0, .string a0_1, .int .i64 a0_2] 37 (0, 0)) (by (with_reducible repeat (first | refine blk_drewN ?_ _ | refine blk_drew ?_ | refine blk_alloc ?_ _)); refine blk_far ?_ NB355_368.out _; (with_reducible repeat (first | refine blk_drewN ?_ _ | refine blk_drew ?_ | refine blk_alloc ?_ _)); refine blk_far ?_ NB355_368.out _; (with_reducible repeat (first | refine blk_drewN ?_ _ | refine blk_drew ?_ | refine blk_alloc ?_ _)); refine blk_far ?_ NB355_368.out _; (with_reducible repeat (first | refine blk_drewN ?_ _ | refine blk_drew ?_ | refine blk_alloc ?_ _)); exact BK355.out) hb); have n3_ := Aside0.mk (blk_below (g := gb368) (o := .cells #[.slice Ao57 t363.length co57, .string t366, .int .i64 t367] 42 (0, 0)) (by (with_reducible repeat (first | refine blk_drewN ?_ _ | refine blk_drew ?_ | refine blk_alloc ?_ _)); refine blk_put (cs := #[.slice Ao57 t363.length co57, .string t366, .int .i64 0]) ?_ 2 _ rfl; (with_reducible repeat (first | refine blk_drewN ?_ _ | refine blk_drew ?_ | refine blk_alloc ?_ _)); refine blk_put (cs := #[.slice Ao57 t363.length co57, .string (⟨#[]⟩ : ByteArray), .int .i64 0]) ?_ 1 _ rfl; (with_reducible repeat (first | refine blk_drewN ?_ _ | refine blk_drew ?_ | refine blk_alloc ?_ _)); refine blk_put (cs := #[.slice none 0 0, .string (⟨#[]⟩ : ByteArray), .int .i64 0]) ?_ 0 _ rfl; (with_reducible repeat (first | refine blk_drewN ?_ _ | refine blk_drew ?_ | refine blk_alloc ?_ _)); exact BK368.out) hb); have n4_ := Aside0.mk (below_step (by repeat (first | (with_reducible first | exact HB.out | apply below_alloc | apply pw_below_drewN | apply below_drew1 | refine below_set ?_ GE355.out | refine below_set ?_ GE368.out) | exact HB.out)) hb); clear HO359; clear HO365; clear BK355; clear BK368; clear HB; have HO359 := n0_; have HO365 := n1_; have BK355 := n2_; have BK368 := n3_; have HB := n4_; clear n0_ n1_ n2_ n3_ n4_; (try clear hb); (try clear hb2); (try clear hk); (try clear hi)))
        have n0_ := Aside0.mk (Kd.R_drew HO359.out)
        have n1_ := Aside0.mk (Kd.R_drew HO365.out)
        have n2_ := Aside0.mk (blk_drew BK355.out)
        have n3_ := Aside0.mk (blk_drew BK368.out)
        have n4_ := Aside0.mk (below_drew1 HB.out)
        clear HO359
        clear HO365
        clear BK355
        clear BK368
        clear HB
        have HO359 := n0_
        have HO365 := n1_
        have BK355 := n2_
        have BK368 := n3_
        have HB := n4_
        clear n0_ n1_ n2_ n3_ n4_
        refine start_ (n := 5) (S := fun w' => w'.cell? ⟨gb368, 0, none⟩ = some (.slice Ao57 t363.length co57) ∧ w'.cell? ⟨gb368, 1, none⟩ = some (.string t366) ∧ w'.cell? ⟨gb368, 2, none⟩ = some (.int .i64 t367) ∧ w'.cell? ⟨gb355, 0, none⟩ = some (.slice A0_0 l0_0.length c0_0) ∧ w'.cell? ⟨gb355, 1, none⟩ = some (.string a0_1) ∧ w'.cell? ⟨gb355, 2, none⟩ = some (.int .i64 a0_2)) (ds := []) #[false, false, false, false, false] (by kernel_rfl) rfl rfl ⟨(blk_cell BK368.out 0).trans rfl, (blk_cell BK368.out 1).trans rfl, (blk_cell BK368.out 2).trans rfl, (blk_cell BK355.out 0).trans rfl, (blk_cell BK355.out 1).trans rfl, (blk_cell BK355.out 2).trans rfl⟩ (fun hHeld => ?_)
        generalize w60.drew = w61 at HO359 HO365 BK355 BK368 HB hHeld ⊢
        refine take_ (i := 0) (N := some 22) (v := ?_) (a' := ?_) #[true, false, false, false, false] rfl rfl (by kernel_rfl) (fun _ _ _ h => h) (Or.inl ⟨by rfl, ?_⟩) hHeld ?_ ?_
        rotate_left
        · rintro w' ⟨s0, s1, s2, s3, s4, s5⟩
          go_simp
          with_reducible rfl
        rotate_left
        · simp only [Act.put, List.setIfInBounds_toArray, List.set_cons_zero, List.set_cons_succ, i64_w, i32_w]
          rfl
        refine take_ (i := 1) (N := some 23) (v := ?_) (a' := ?_) #[true, true, false, false, false] rfl rfl (by kernel_rfl) (fun _ _ _ h => h) (Or.inl ⟨by rfl, ?_⟩) hHeld ?_ ?_
        rotate_left
        · rintro w' ⟨s0, s1, s2, s3, s4, s5⟩
          go_simp
          with_reducible rfl
        rotate_left
        · simp only [Act.put, List.setIfInBounds_toArray, List.set_cons_zero, List.set_cons_succ, i64_w, i32_w]
          rfl
        refine one_ (i := 2) (N := some 24) #[true, true, true, false, false] rfl rfl (by kernel_rfl) (by decide) (fun K hK => ?_)
        refine goes_ Try.func22 (by kernel_rfl) rfl #[.agg #[.slice A0_0 l0_0.length c0_0, .string a0_1, .int .i64 a0_2]] (by rfl) rfl rfl (by (try simp only [List.map_toArray, List.map_cons, List.map_nil]); first | done | rfl | (simp only [List.length_drop, List.length_take]; rfl)) ?_
        with_reducible refine (laws_toUrlAsk.calls k _ _ l0_0 a0_1 a0_2 t370 t373 t374 _ ?side1 ?side2 A26.out).mono ?_
        (case side1 => repeat (first | exact (Kd.C_below HR0_0.out HB.out) | (with_reducible refine Kd.C_alloc ?_ _) | (with_reducible refine Kd.C_drewN ?_ _) | (with_reducible refine Kd.C_drew ?_)))
        (case side2 => exact HC0_0.out)
        rintro e w62 ⟨v371, rfl, ho0, hb⟩
        refine ⟨_, rfl, ?_⟩
        have n0_ := Aside0.mk (Kd.R_elder' (by (with_reducible repeat (first | apply Kd.R_alloc | apply Kd.R_drewN | apply Kd.R_drew)); exact HO359.out) (Kd.R_base ho0) hb)
        have n1_ := Aside0.mk (Kd.R_elder' (by (with_reducible repeat (first | apply Kd.R_alloc | apply Kd.R_drewN | apply Kd.R_drew)); exact HO365.out) (Kd.R_base ho0) hb)
        have n2_ := Aside0.mk (Kd.R_lower (Kd.R_new' (Kd.R_new' ho0 (Kd.R_lt (by (with_reducible repeat (first | apply Kd.R_alloc | apply Kd.R_drewN | apply Kd.R_drew)); exact HO359.out))) (Kd.R_lt (by (with_reducible repeat (first | apply Kd.R_alloc | apply Kd.R_drewN | apply Kd.R_drew)); exact HO365.out))) (below_size (by repeat (first | (with_reducible first | exact HB.out | apply below_alloc | apply pw_below_drewN | apply below_drew1 | refine below_set ?_ GE355.out | refine below_set ?_ GE368.out) | exact HB.out))))
        have n3_ := Aside0.mk (blk_below (g := gb355) (o := .cells #[.slice A0_0 l0_0.length c0_0, .string a0_1, .int .i64 a0_2] 37 (0, 0)) (by (with_reducible repeat (first | refine blk_drewN ?_ _ | refine blk_drew ?_ | refine blk_alloc ?_ _)); exact BK355.out) hb)
        have n4_ := Aside0.mk (blk_below (g := gb368) (o := .cells #[.slice Ao57 t363.length co57, .string t366, .int .i64 t367] 42 (0, 0)) (by (with_reducible repeat (first | refine blk_drewN ?_ _ | refine blk_drew ?_ | refine blk_alloc ?_ _)); exact BK368.out) hb)
        have n5_ := Aside0.mk (below_step (by repeat (first | (with_reducible first | exact HB.out | apply below_alloc | apply pw_below_drewN | apply below_drew1 | refine below_set ?_ GE355.out | refine below_set ?_ GE368.out) | exact HB.out)) hb)
        clear HO359
        clear HO365
        clear BK355
        clear BK368
        clear HB
        have HO359 := n0_
        have HO365 := n1_
        have HO372 := n2_
        have BK355 := n3_
        have BK368 := n4_
        have HB := n5_
        clear n0_ n1_ n2_ n3_ n4_ n5_
        (try clear hb)
        (try clear hb2)
        (try clear hk)
        (try clear hi)
        (try clear ho0)
        obtain ⟨Ao63, co63, eo63⟩ := Kd.R_slice HO372.out
        (first | subst eo63 | (injection eo63 with f1_ f2_ f3_; have f4_ := f1_.symm; have f5_ := f3_.symm; clear f1_ f2_ f3_; subst f4_; subst f5_))
        refine hK.out _ _ ⟨(blk_cell BK368.out 0).trans rfl, (blk_cell BK368.out 1).trans rfl, (blk_cell BK368.out 2).trans rfl, (blk_cell BK355.out 0).trans rfl, (blk_cell BK355.out 1).trans rfl, (blk_cell BK355.out 2).trans rfl⟩ (fun hHeld => ?_)
        clear hK K
        refine norm_ (a' := ?_) ?_ ?_
        rotate_left
        · show Act.put _ (some 24) _ = _
          simp only [Act.put, List.setIfInBounds_toArray, List.set_cons_zero, List.set_cons_succ, i64_w, i32_w]
          rfl
        refine one_ (i := 3) (N := some 25) #[true, true, true, true, false] rfl rfl (by kernel_rfl) (by decide) (fun K hK => ?_)
        refine goes_ Try.func24 (by kernel_rfl) rfl #[.agg #[.slice Ao57 t363.length co57, .string t366, .int .i64 t367], .agg #[.slice Ao63 t370.length co63, .string t373, .int .i64 t374]] (by rfl) rfl rfl (by (try simp only [List.map_toArray, List.map_cons, List.map_nil]); first | done | rfl | (simp only [List.length_drop, List.length_take]; rfl)) ?_
        with_reducible refine (laws_eqUrlAsk.calls k _ _ t363 t366 t367 _ _ t370 t373 t374 false _ ?side1 ?side2 ?side3 ?side4 A27.out).mono ?_
        (case side1 => repeat (first | exact (Kd.R_reads' HO365.out).2.2 | (with_reducible refine Kd.C_alloc ?_ _) | (with_reducible refine Kd.C_drewN ?_ _) | (with_reducible refine Kd.C_drew ?_)))
        (case side2 => exact (Kd.R_reads' HO365.out).2.1)
        (case side3 => repeat (first | exact (Kd.R_reads' HO372.out).2.2 | (with_reducible refine Kd.C_alloc ?_ _) | (with_reducible refine Kd.C_drewN ?_ _) | (with_reducible refine Kd.C_drew ?_)))
        (case side4 => exact (Kd.R_reads' HO372.out).2.1)
        rintro e w64 ⟨rfl, hb⟩
        refine ⟨_, rfl, ?_⟩
        have n0_ := Aside0.mk (Kd.R_below (by (with_reducible repeat (first | apply Kd.R_alloc | apply Kd.R_drewN | apply Kd.R_drew)); exact HO359.out) hb)
        have n1_ := Aside0.mk (Kd.R_below (by (with_reducible repeat (first | apply Kd.R_alloc | apply Kd.R_drewN | apply Kd.R_drew)); exact HO365.out) hb)
        have n2_ := Aside0.mk (Kd.R_below (by (with_reducible repeat (first | apply Kd.R_alloc | apply Kd.R_drewN | apply Kd.R_drew)); exact HO372.out) hb)
        have n3_ := Aside0.mk (blk_below (g := gb355) (o := .cells #[.slice A0_0 l0_0.length c0_0, .string a0_1, .int .i64 a0_2] 37 (0, 0)) (by (with_reducible repeat (first | refine blk_drewN ?_ _ | refine blk_drew ?_ | refine blk_alloc ?_ _)); exact BK355.out) hb)
        have n4_ := Aside0.mk (blk_below (g := gb368) (o := .cells #[.slice Ao57 t363.length co57, .string t366, .int .i64 t367] 42 (0, 0)) (by (with_reducible repeat (first | refine blk_drewN ?_ _ | refine blk_drew ?_ | refine blk_alloc ?_ _)); exact BK368.out) hb)
        have n5_ := Aside0.mk (below_step (by repeat (first | (with_reducible first | exact HB.out | apply below_alloc | apply pw_below_drewN | apply below_drew1 | refine below_set ?_ GE355.out | refine below_set ?_ GE368.out) | exact HB.out)) hb)
        clear HO359
        clear HO365
        clear HO372
        clear BK355
        clear BK368
        clear HB
        have HO359 := n0_
        have HO365 := n1_
        have HO372 := n2_
        have BK355 := n3_
        have BK368 := n4_
        have HB := n5_
        clear n0_ n1_ n2_ n3_ n4_ n5_
        (try clear hb)
        (try clear hb2)
        (try clear hk)
        (try clear hi)
        refine hK.out _ _ ⟨(blk_cell BK368.out 0).trans rfl, (blk_cell BK368.out 1).trans rfl, (blk_cell BK368.out 2).trans rfl, (blk_cell BK355.out 0).trans rfl, (blk_cell BK355.out 1).trans rfl, (blk_cell BK355.out 2).trans rfl⟩ (fun hHeld => ?_)
        clear hK K
        refine norm_ (a' := ?_) ?_ ?_
        rotate_left
        · show Act.put _ (some 25) _ = _
          simp only [Act.put, List.setIfInBounds_toArray, List.set_cons_zero, List.set_cons_succ, i64_w, i32_w]
          rfl
        refine pure_ (i := 4) (N := some 26) (v := ?_) (a' := ?_) #[true, true, true, true, true] rfl rfl (by kernel_rfl) (fun _ _ _ h => h) (Or.inl ⟨by rfl, ?_⟩) ?_ ?_
        rotate_left
        · intro w'
          go_simp
          with_reducible rfl
        rotate_left
        · simp only [Act.put, List.setIfInBounds_toArray, List.set_cons_zero, List.set_cons_succ, i64_w, i32_w]
          rfl
        refine done_ (by kernel_rfl) ?_
        try go_wp2
        go_ret
        exact ⟨by first | rfl | (simp [errW_none, errW_some] <;> rfl) | (simp [*, errW_none, errW_some] <;> rfl), by repeat (first | (with_reducible first | exact HB.out | apply below_alloc | apply pw_below_drewN | apply below_drew1 | refine below_set ?_ GE355.out | refine below_set ?_ GE368.out) | exact HB.out)⟩

end Go.Proofs.Ytgpkkkmapgnhkaa.X

namespace Go.Proofs.Ytgpkkkmapgnhkaa.Opn
open Go.RowKit Go.Proofs.YtgpkkkmapgnhkaaW.PrintWords

/-- Every reading of type t is a reading of kind d, of a datum that is good. -/
def Opens (P : Program) (t : TypeId) {α : Type} (d : Kd α) (good : α → Prop) : Prop :=
  P.cellsOf t = d.sz ∧ ∀ (H : Type) (enc : TypeId × Value → H) (w : World) (n : Nat) (cs : List Value) (x : DataW H × List MemPlace),
    DataW.trod enc P w 0 (fun _ => true) true n t cs = some x → ∃ a : α, d.K w a cs ∧ good a

theorem opens_int {P : Program} {t : TypeId} {k : IntKind} (ht : P.underlying t = some (.int k)) (hc : P.cellsOf t = 1) :
    Opens P t (Kd.int k) (fun x => (Lit.int k x).wf = true) :=
  ⟨hc, fun H enc w n cs x h => by
    obtain ⟨m, rfl, _, hw⟩ := DataW.trod_int ht h
    exact ⟨m, rfl, hw⟩⟩

theorem opens_bool {P : Program} {t : TypeId} (ht : P.underlying t = some .bool) (hc : P.cellsOf t = 1) :
    Opens P t Kd.bool (fun _ => True) :=
  ⟨hc, fun H enc w n cs x h => by
    obtain ⟨m, rfl, _⟩ := DataW.trod_bool ht h
    exact ⟨m, rfl, trivial⟩⟩

theorem opens_string {P : Program} {t : TypeId} (ht : P.underlying t = some .string) (hc : P.cellsOf t = 1) :
    Opens P t Kd.string (fun s => s.size ≤ maxLen) :=
  ⟨hc, fun H enc w n cs x h => by
    obtain ⟨m, rfl, _, hs⟩ := DataW.trod_string ht h
    exact ⟨m, rfl, hs⟩⟩

theorem list_of_get {α : Type} {n : Nat} {R : Nat → α → Prop} : (∀ i, i < n → ∃ a, R i a) → ∃ l : List α, l.length = n ∧ ∀ (i : Nat) (a : α), l[i]? = some a → R i a := by
  induction n with
  | zero => intro _; exact ⟨[], rfl, fun i a h => by simp at h⟩
  | succ n ih =>
    intro h
    obtain ⟨l, hl, hr⟩ := ih (fun i hi => h i (by omega))
    obtain ⟨a, ha⟩ := h n (by omega)
    refine ⟨l ++ [a], by simp [hl], fun i b hb => ?_⟩
    rcases Nat.lt_or_ge i n with hi | hi
    · rw [List.getElem?_append_left (by omega)] at hb
      exact hr i b hb
    · have : i = n := by
        have := (List.getElem?_eq_some_iff.1 hb).1
        simp at this
        omega
      subst this
      subst hl
      have : a = b := by simpa using hb
      subst this
      exact ha

theorem opens_slice {P : Program} {t e : TypeId} {α : Type} {d : Kd α} {good : α → Prop} (ht : P.underlying t = some (.slice e)) (hc : P.cellsOf t = 1) (he : Opens P e d good) :
    Opens P t (Kd.slice e d) (fun l => l.length ≤ maxLen ∧ ∀ a ∈ l, good a) :=
  ⟨hc, fun H enc w n cs x h => by
    rcases DataW.trod_slice ht h with ⟨rfl, _⟩ | ⟨a, len, cap, elems, rest, m, _, rfl, _, _, hlc, hcm, hel, hget, _, _⟩
    · exact ⟨[], ⟨none, 0, rfl, Nat.le_refl _, rfl, by simp, fun h => by simp at h⟩, by simp, by simp⟩
    · have each : ∀ i, i < len → ∃ y : α, good y ∧ ∃ c : List Value, c.length = d.sz ∧ d.K w y c ∧ ∀ j u, c[j]? = some u → w.cell? (a.add (i * d.sz + j)) = some u := by
        intro i hi
        have hg := hget i hi
        rw [List.getElem?_eq_getElem (by omega), he.1] at hg
        obtain ⟨c, hcs, htr⟩ := Option.bind_eq_some_iff.1 hg
        obtain ⟨_, hcl, hcell⟩ := World.cells?_some hcs
        obtain ⟨y, hK, hgood⟩ := he.2 H enc w m c _ htr
        refine ⟨y, hgood, c, hcl, hK, fun j u hu => ?_⟩
        have hj : j < d.sz := by
          have := (List.getElem?_eq_some_iff.1 hu).1
          omega
        rw [← Addr.add_add, hcell j hj, hu]
      obtain ⟨l, hl, hr⟩ := list_of_get each
      refine ⟨l, ⟨some a, cap, ?_, by omega, rfl, ?_, fun _ => ⟨a, rfl, fun j p hj => (hr j p hj).2⟩⟩, by omega, fun y hy => ?_⟩
      · rw [hl]
      · have : maxLen = 9223372036854775807 := rfl
        omega
      · obtain ⟨i, hi⟩ := List.getElem?_of_mem hy
        exact (hr i y hi).1⟩

/-- The fields from offset 'off' on. -/
def OpensF (P : Program) (fs : List Field) (off : Nat) {α : Type} (d : Kd α) (good : α → Prop) : Prop :=
  ∀ (H : Type) (enc : TypeId × Value → H) (w : World) (n : Nat) (cs : List Value), cs.length = off + d.sz →
    (∀ f ∈ fs, ∃ x, DataW.trod enc P w 0 (fun _ => true) true n f.type ((cs.drop f.offset).take (P.cellsOf f.type)) = some x) →
    ∃ a : α, d.K w a (cs.drop off) ∧ good a

theorem opensF_one {P : Program} {f : Field} {off : Nat} {α : Type} {d : Kd α} {good : α → Prop} (ho : f.offset = off) (h : Opens P f.type d good) : OpensF P [f] off d good := by
  intro H enc w n cs hl hx
  obtain ⟨x, hx⟩ := hx f (by simp)
  obtain ⟨a, hK, hg⟩ := h.2 H enc w n _ x hx
  rw [ho, h.1, List.take_of_length_le (by rw [List.length_drop]; omega)] at hK
  exact ⟨a, hK, hg⟩

theorem opensF_cons {P : Program} {f : Field} {fs : List Field} {off : Nat} {α β : Type} {d : Kd α} {d2 : Kd β} {good : α → Prop} {good2 : β → Prop} (ho : f.offset = off) (h : Opens P f.type d good) (h2 : OpensF P fs (off + d.sz) d2 good2) :
    OpensF P (f :: fs) off (Kd.pair d d2) (fun x => good x.1 ∧ good2 x.2) := by
  intro H enc w n cs hl hx
  have hs : (Kd.pair d d2).sz = d.sz + d2.sz := rfl
  obtain ⟨x, hx0⟩ := hx f (by simp)
  obtain ⟨a, hK, hg⟩ := h.2 H enc w n _ x hx0
  obtain ⟨b, hK2, hg2⟩ := h2 H enc w n cs (by omega) (fun f' hf' => hx f' (by simp [hf']))
  rw [ho, h.1] at hK
  refine ⟨(a, b), ⟨_, _, ?_, hK, hK2⟩, hg, hg2⟩
  rw [← List.drop_drop, List.take_append_drop]

theorem opens_struct {P : Program} {t : TypeId} {fs : Array Field} {α : Type} {d : Kd α} {good : α → Prop} (ht : P.underlying t = some (.struct fs)) (hc : P.cellsOf t = d.sz) (h : OpensF P fs.toList 0 d good) : Opens P t d good :=
  ⟨hc, fun H enc w n cs x hx => by
    obtain ⟨xs, m, _, _, hl, hxl, hget⟩ := DataW.trod_struct ht hx
    have := h H enc w m cs (by omega) (fun f hf => by
      obtain ⟨i, hi⟩ := List.getElem?_of_mem hf
      have hi' : fs[i]? = some f := by simpa using hi
      have hlt : i < xs.length := by
        have := (List.getElem?_eq_some_iff.1 hi).1
        simp at this
        omega
      exact ⟨xs[i], by rw [hget i f hi', List.getElem?_eq_getElem hlt]⟩)
    simpa using this⟩

theorem opens_iso {P : Program} {t : TypeId} {α β : Type} {d : Kd α} {good : α → Prop} {f : β → α} (g : α → β) (hfg : ∀ a, f (g a) = a) (h : Opens P t d good) : Opens P t (Kd.iso d f) (fun x => good (f x)) :=
  ⟨h.1, fun H enc w n cs x hx => by
    obtain ⟨a, hK, hg⟩ := h.2 H enc w n cs x hx
    exact ⟨g a, by show d.K w (f (g a)) cs; rw [hfg]; exact hK, by show good (f (g a)); rw [hfg]; exact hg⟩⟩

/-- A weaker word on what is good. -/
theorem Opens.imp {P : Program} {t : TypeId} {α : Type} {d : Kd α} {good good2 : α → Prop} (h : Opens P t d good) (hi : ∀ a, good a → good2 a) : Opens P t d good2 :=
  ⟨h.1, fun H enc w n cs x hx => by
    obtain ⟨a, hK, hg⟩ := h.2 H enc w n cs x hx
    exact ⟨a, hK, hi a hg⟩⟩

theorem Opens.of_trod {P : Program} {t : TypeId} {α : Type} {d : Kd α} {good : α → Prop} (h : Opens P t d good) {H : Type} {enc : TypeId × Value → H} {w : World} {v : Value} {x : DataW H} {ps : List MemPlace}
    (ht : DataW.Trod enc P w 0 (fun _ => true) true t v x ps) : ∃ a : α, d.K w a v.cells.toList ∧ good a := by
  obtain ⟨n, hn⟩ := ht
  exact h.2 H enc w n _ _ hn

end Go.Proofs.Ytgpkkkmapgnhkaa.Opn

namespace Go.Proofs.Ytgpkkkmapgnhkaa.X
open Go.RowKit Go.Proofs.YtgpkkkmapgnhkaaW.PrintWords Go.Proofs.Ytgpkkkmapgnhkaa.Opn
set_option linter.unusedVariables false
def g148 (x : S148) : Prop := (Lit.int .i64 x.f0).wf = true ∧ (Lit.int .i64 x.f1).wf = true ∧ (Lit.int .i64 x.f2).wf = true ∧ (Lit.int .i64 x.f3).wf = true ∧ (Lit.int .i64 x.f4).wf = true
set_option maxRecDepth 100000 in
theorem op148 : Opens Try.prog 148 k148 g148 :=
  opens_iso (d := (Kd.pair (Kd.int .i64) (Kd.pair (Kd.int .i64) (Kd.pair (Kd.int .i64) (Kd.pair (Kd.int .i64) (Kd.int .i64)))))) (fun p => ⟨p.1, p.2.1, p.2.2.1, p.2.2.2.1, p.2.2.2.2⟩) (fun _ => rfl) (good := fun p => (Lit.int .i64 p.1).wf = true ∧ (Lit.int .i64 p.2.1).wf = true ∧ (Lit.int .i64 p.2.2.1).wf = true ∧ (Lit.int .i64 p.2.2.2.1).wf = true ∧ (Lit.int .i64 p.2.2.2.2).wf = true) (opens_struct Try.underlying148 (by kernel_rfl) (opensF_cons rfl (opens_int Try.underlying3 (by kernel_rfl)) (opensF_cons rfl (opens_int Try.underlying3 (by kernel_rfl)) (opensF_cons rfl (opens_int Try.underlying3 (by kernel_rfl)) (opensF_cons rfl (opens_int Try.underlying3 (by kernel_rfl)) (opensF_one rfl (opens_int Try.underlying3 (by kernel_rfl))))))))
def g165 (x : S165) : Prop := (Lit.int .i64 x.f0).wf = true ∧ x.f1.size ≤ maxLen ∧ (x.f2.length ≤ maxLen ∧ ∀ y ∈ x.f2, g148 y) ∧ (Lit.int .i64 x.f3).wf = true
set_option maxRecDepth 100000 in
theorem op165 : Opens Try.prog 165 k165 g165 :=
  opens_iso (d := (Kd.pair (Kd.int .i64) (Kd.pair Kd.string (Kd.pair (Kd.slice 148 k148) (Kd.int .i64))))) (fun p => ⟨p.1, p.2.1, p.2.2.1, p.2.2.2⟩) (fun _ => rfl) (good := fun p => (Lit.int .i64 p.1).wf = true ∧ p.2.1.size ≤ maxLen ∧ (p.2.2.1.length ≤ maxLen ∧ ∀ y ∈ p.2.2.1, g148 y) ∧ (Lit.int .i64 p.2.2.2).wf = true) (opens_struct Try.underlying165 (by kernel_rfl) (opensF_cons rfl (opens_int Try.underlying3 (by kernel_rfl)) (opensF_cons rfl (opens_string Try.underlying9 (by kernel_rfl)) (opensF_cons rfl (opens_slice Try.underlying35 (by kernel_rfl) op148) (opensF_one rfl (opens_int Try.underlying3 (by kernel_rfl)))))))
def g167 (x : S167) : Prop := x.f0.size ≤ maxLen ∧ (Lit.int .i64 x.f1).wf = true ∧ (x.f2.length ≤ maxLen ∧ ∀ y ∈ x.f2, (Lit.int .u8 y).wf = true)
set_option maxRecDepth 100000 in
theorem op167 : Opens Try.prog 167 k167 g167 :=
  opens_iso (d := (Kd.pair Kd.string (Kd.pair (Kd.int .i64) (Kd.slice 5 (Kd.int .u8))))) (fun p => ⟨p.1, p.2.1, p.2.2⟩) (fun _ => rfl) (good := fun p => p.1.size ≤ maxLen ∧ (Lit.int .i64 p.2.1).wf = true ∧ (p.2.2.length ≤ maxLen ∧ ∀ y ∈ p.2.2, (Lit.int .u8 y).wf = true)) (opens_struct Try.underlying167 (by kernel_rfl) (opensF_cons rfl (opens_string Try.underlying9 (by kernel_rfl)) (opensF_cons rfl (opens_int Try.underlying3 (by kernel_rfl)) (opensF_one rfl (opens_slice Try.underlying22 (by kernel_rfl) (opens_int Try.underlying5 (by kernel_rfl)))))))
def g169 (x : S169) : Prop := (Lit.int .i64 x.f0).wf = true ∧ (Lit.int .i64 x.f1).wf = true ∧ (x.f2.length ≤ maxLen ∧ ∀ y ∈ x.f2, (Lit.int .u8 y).wf = true)
set_option maxRecDepth 100000 in
theorem op169 : Opens Try.prog 169 k169 g169 :=
  opens_iso (d := (Kd.pair (Kd.int .i64) (Kd.pair (Kd.int .i64) (Kd.slice 5 (Kd.int .u8))))) (fun p => ⟨p.1, p.2.1, p.2.2⟩) (fun _ => rfl) (good := fun p => (Lit.int .i64 p.1).wf = true ∧ (Lit.int .i64 p.2.1).wf = true ∧ (p.2.2.length ≤ maxLen ∧ ∀ y ∈ p.2.2, (Lit.int .u8 y).wf = true)) (opens_struct Try.underlying169 (by kernel_rfl) (opensF_cons rfl (opens_int Try.underlying3 (by kernel_rfl)) (opensF_cons rfl (opens_int Try.underlying3 (by kernel_rfl)) (opensF_one rfl (opens_slice Try.underlying22 (by kernel_rfl) (opens_int Try.underlying5 (by kernel_rfl)))))))
def g30 (x : S30) : Prop := (x.f0.length ≤ maxLen ∧ ∀ y ∈ x.f0, (Lit.int .u8 y).wf = true) ∧ (Lit.int .i64 x.f1).wf = true ∧ (Lit.int .i64 x.f2).wf = true ∧ (Lit.int .i64 x.f3).wf = true ∧ (Lit.int .i64 x.f4).wf = true ∧ (Lit.int .i64 x.f5).wf = true ∧ (Lit.int .i64 x.f6).wf = true
set_option maxRecDepth 100000 in
theorem op30 : Opens Try.prog 30 k30 g30 :=
  opens_iso (d := (Kd.pair (Kd.slice 5 (Kd.int .u8)) (Kd.pair (Kd.int .i64) (Kd.pair (Kd.int .i64) (Kd.pair (Kd.int .i64) (Kd.pair (Kd.int .i64) (Kd.pair (Kd.int .i64) (Kd.int .i64)))))))) (fun p => ⟨p.1, p.2.1, p.2.2.1, p.2.2.2.1, p.2.2.2.2.1, p.2.2.2.2.2.1, p.2.2.2.2.2.2⟩) (fun _ => rfl) (good := fun p => (p.1.length ≤ maxLen ∧ ∀ y ∈ p.1, (Lit.int .u8 y).wf = true) ∧ (Lit.int .i64 p.2.1).wf = true ∧ (Lit.int .i64 p.2.2.1).wf = true ∧ (Lit.int .i64 p.2.2.2.1).wf = true ∧ (Lit.int .i64 p.2.2.2.2.1).wf = true ∧ (Lit.int .i64 p.2.2.2.2.2.1).wf = true ∧ (Lit.int .i64 p.2.2.2.2.2.2).wf = true) (opens_struct Try.underlying30 (by kernel_rfl) (opensF_cons rfl (opens_slice Try.underlying22 (by kernel_rfl) (opens_int Try.underlying5 (by kernel_rfl))) (opensF_cons rfl (opens_int Try.underlying3 (by kernel_rfl)) (opensF_cons rfl (opens_int Try.underlying3 (by kernel_rfl)) (opensF_cons rfl (opens_int Try.underlying3 (by kernel_rfl)) (opensF_cons rfl (opens_int Try.underlying3 (by kernel_rfl)) (opensF_cons rfl (opens_int Try.underlying3 (by kernel_rfl)) (opensF_one rfl (opens_int Try.underlying3 (by kernel_rfl))))))))))
def g83 (x : S83) : Prop := (Lit.int .i64 x.f0).wf = true ∧ (Lit.int .i64 x.f1).wf = true ∧ (Lit.int .i64 x.f2).wf = true ∧ (Lit.int .i64 x.f3).wf = true ∧ (x.f4.length ≤ maxLen ∧ ∀ y ∈ x.f4, g165 y) ∧ (x.f5.length ≤ maxLen ∧ ∀ y ∈ x.f5, g167 y) ∧ (x.f6.length ≤ maxLen ∧ ∀ y ∈ x.f6, y.size ≤ maxLen) ∧ (x.f7.length ≤ maxLen ∧ ∀ y ∈ x.f7, g169 y)
set_option maxRecDepth 100000 in
theorem op83 : Opens Try.prog 83 k83 g83 :=
  opens_iso (d := (Kd.pair (Kd.int .i64) (Kd.pair (Kd.int .i64) (Kd.pair (Kd.int .i64) (Kd.pair (Kd.int .i64) (Kd.pair (Kd.slice 165 k165) (Kd.pair (Kd.slice 167 k167) (Kd.pair (Kd.slice 9 Kd.string) (Kd.slice 169 k169))))))))) (fun p => ⟨p.1, p.2.1, p.2.2.1, p.2.2.2.1, p.2.2.2.2.1, p.2.2.2.2.2.1, p.2.2.2.2.2.2.1, p.2.2.2.2.2.2.2⟩) (fun _ => rfl) (good := fun p => (Lit.int .i64 p.1).wf = true ∧ (Lit.int .i64 p.2.1).wf = true ∧ (Lit.int .i64 p.2.2.1).wf = true ∧ (Lit.int .i64 p.2.2.2.1).wf = true ∧ (p.2.2.2.2.1.length ≤ maxLen ∧ ∀ y ∈ p.2.2.2.2.1, g165 y) ∧ (p.2.2.2.2.2.1.length ≤ maxLen ∧ ∀ y ∈ p.2.2.2.2.2.1, g167 y) ∧ (p.2.2.2.2.2.2.1.length ≤ maxLen ∧ ∀ y ∈ p.2.2.2.2.2.2.1, y.size ≤ maxLen) ∧ (p.2.2.2.2.2.2.2.length ≤ maxLen ∧ ∀ y ∈ p.2.2.2.2.2.2.2, g169 y)) (opens_struct Try.underlying83 (by kernel_rfl) (opensF_cons rfl (opens_int Try.underlying3 (by kernel_rfl)) (opensF_cons rfl (opens_int Try.underlying3 (by kernel_rfl)) (opensF_cons rfl (opens_int Try.underlying3 (by kernel_rfl)) (opensF_cons rfl (opens_int Try.underlying3 (by kernel_rfl)) (opensF_cons rfl (opens_slice Try.underlying79 (by kernel_rfl) op165) (opensF_cons rfl (opens_slice Try.underlying80 (by kernel_rfl) op167) (opensF_cons rfl (opens_slice Try.underlying60 (by kernel_rfl) (opens_string Try.underlying9 (by kernel_rfl))) (opensF_one rfl (opens_slice Try.underlying81 (by kernel_rfl) op169))))))))))
end Go.Proofs.Ytgpkkkmapgnhkaa.X

namespace Go.Proofs.Ytgpkkkmapgnhkaa.X
open Go.RowKit Go.Proofs.YtgpkkkmapgnhkaaW.PrintWords Go.Proofs.Ytgpkkkmapgnhkaa.Opn
set_option linter.unusedVariables false
/-- What is to be shown of the law FnExactAskOk, over data alone. -/
def laws_FnExactAskOk.Pure : Prop := ∀ (l0_0 : List (S148)) (a0_1 : ByteArray) (a0_2 : Int), l0_0.length ≤ maxLen → (∀ y ∈ l0_0, g148 y) → a0_1.size ≤ maxLen → (Lit.int .i64 a0_2).wf = true → ∃ k, laws_FnExactAskOk.f k l0_0 a0_1 a0_2 = some true
end Go.Proofs.Ytgpkkkmapgnhkaa.X

namespace Go.Proofs.Ytgpkkkmapgnhkaa.Pl
open Go.RowKit Go.Proofs.YtgpkkkmapgnhkaaW.PrintWords

theorem wrap_id {x : Int} (h0 : -9223372036854775808 ≤ x) (h1 : x ≤ 9223372036854775807) : wrap64 x = x := by
  unfold wrap64; omega
theorem wrap_succ {i : Nat} (h : i < 9223372036854775807) : wrap64 ((i : Int) + 1) = ((i + 1 : Nat) : Int) := by
  unfold wrap64; omega

/-- From a round on: with a round more. -/
theorem ev_succ {α : Type} {g : Nat → Option α} {r : α} (h : Ev (fun k => g (k + 1)) r) : Ev g r := by
  obtain ⟨K, h⟩ := h
  refine ⟨K + 1, fun n hn => ?_⟩
  obtain ⟨m, rfl⟩ : ∃ m, n = m + 1 := ⟨n - 1, by omega⟩
  exact h m (by omega)

/-- A loop whose counter goes up to n: at each round it answers, or goes on. -/
theorem ev_up {α σ : Type} (n : Nat) (g : Nat → Int → σ → Option α) (Inv : Nat → σ → Prop) (post : α → Prop)
    (hstep : ∀ i s, i < n → Inv i s → (∃ s', Inv (i + 1) s' ∧ ∀ r, Ev (fun k => g k ((i + 1 : Nat) : Int) s') r → Ev (fun k => g k (i : Int) s) r) ∨ ∃ r, Ev (fun k => g k (i : Int) s) r ∧ post r)
    (hend : ∀ s, Inv n s → ∃ r, Ev (fun k => g k (n : Int) s) r ∧ post r) :
    ∀ i s, i ≤ n → Inv i s → ∃ r, Ev (fun k => g k (i : Int) s) r ∧ post r := by
  have key : ∀ d i s, i + d = n → Inv i s → ∃ r, Ev (fun k => g k (i : Int) s) r ∧ post r := by
    intro d
    induction d with
    | zero => intro i s hi hs; have : i = n := by omega
              subst this; exact hend s hs
    | succ d ih =>
      intro i s hi hs
      rcases hstep i s (by omega) hs with ⟨s', hs', hr⟩ | h
      · obtain ⟨r, h, hp⟩ := ih (i + 1) s' (by omega) hs'
        exact ⟨r, hr r h, hp⟩
      · exact h
  intro i s hi hs
  exact key (n - i) i s (by omega) hs

/-- Any loop with a measure. -/
theorem ev_down {α σ : Type} (g : Nat → σ → Option α) (Inv : σ → Prop) (m : σ → Nat) (post : α → Prop)
    (hstep : ∀ s, Inv s → (∃ s', Inv s' ∧ m s' < m s ∧ ∀ r, Ev (fun k => g k s') r → Ev (fun k => g k s) r) ∨ ∃ r, Ev (fun k => g k s) r ∧ post r) :
    ∀ s, Inv s → ∃ r, Ev (fun k => g k s) r ∧ post r := by
  have key : ∀ d s, m s < d → Inv s → ∃ r, Ev (fun k => g k s) r ∧ post r := by
    intro d
    induction d with
    | zero => intro s h; omega
    | succ d ih =>
      intro s hd hs
      rcases hstep s hs with ⟨s', hs', hm, hr⟩ | h
      · obtain ⟨r, h, hp⟩ := ih s' (by omega) hs'
        exact ⟨r, hr r h, hp⟩
      · exact h
  intro s hs
  exact key (m s + 1) s (by omega) hs

theorem rd_nat (l : List Int) (i : Nat) : rd l (i : Int) = l.getD i 0 := rfl
theorem set_take_next {α : Type} (l m : List α) (d : α) (i : Nat) (h : i < l.length) (hm : m.length = l.length) (ht : m.take i = l.take i) : (m.set i (l.getD i d)).take (i + 1) = l.take (i + 1) := by
  rw [List.take_succ_eq_append_getElem (by simpa [hm] using h), List.take_succ_eq_append_getElem h, List.take_set_of_le (Nat.le_refl i), ht]
  simp [List.getD_eq_getElem?_getD, h]

theorem getD_mem {α : Type} (l : List α) (z : α) (i : Nat) (h : i < l.length) : l.getD i z ∈ l := by
  rw [List.getD_eq_getElem?_getD, List.getElem?_eq_getElem h]; exact List.getElem_mem h

/-- A loop that fills a new row, element by element. -/
theorem ev_map {α β : Type} (c : α → β) (za : α) (zb : β) (l : List α) (g : Nat → Int → List β → Option (List β)) (hl : l.length ≤ 1048576)
    (hstep : ∀ i s, i < l.length → s.length = l.length → ∀ r, Ev (fun k => g k ((i + 1 : Nat) : Int) (s.set i (c (l.getD i za)))) r → Ev (fun k => g k (i : Int) s) r)
    (hend : ∀ k s, s.length = l.length → g (k + 1) (l.length : Int) s = some s) : Ev (fun k => g k 0 (List.replicate l.length zb)) (l.map c) := by
  obtain ⟨r, h, rfl⟩ := ev_up (α := List β) l.length (fun k i s => g k i s) (fun i s => s.length = l.length ∧ s.take i = (l.map c).take i) (fun r => r = l.map c) (by
    rintro i s hi ⟨h1, h2⟩
    refine Or.inl ⟨s.set i (c (l.getD i za)), ⟨by simpa using h1, ?_⟩, hstep i s hi h1⟩
    have := set_take_next (l.map c) s (c za) i (by simpa using hi) (by simpa using h1) h2
    have e : (l.map c).getD i (c za) = c (l.getD i za) := by
      simp [List.getD_eq_getElem?_getD, List.getElem?_eq_getElem hi]
    rw [e] at this
    exact this) (by
    rintro s ⟨h1, h2⟩
    refine ⟨l.map c, ev_succ ⟨0, fun k _ => ?_⟩, rfl⟩
    rw [List.take_of_length_le (by omega), List.take_of_length_le (by simp)] at h2
    show g (k + 1) (l.length : Int) s = _
    rw [hend k s h1, h2]) 0 (List.replicate l.length zb) (by omega) ⟨by simp, by simp⟩
  exact h

/-- A loop that says yes at its end, if it goes on at each round. -/
theorem ev_all (n : Nat) (g : Nat → Int → Option Bool) (hstep : ∀ i, i < n → Ev (fun k => g k ((i + 1 : Nat) : Int)) true → Ev (fun k => g k (i : Int)) true) (hend : ∀ k, g (k + 1) (n : Int) = some true) : Ev (fun k => g k 0) true := by
  have : ∀ d j, j + d = n → Ev (fun k => g k (j : Int)) true := by
    intro d
    induction d with
    | zero => intro j hj; have : j = n := by omega
              subst this; exact ev_succ ⟨0, fun k _ => hend k⟩
    | succ d ih => intro j hj; exact hstep j (by omega) (ih (j + 1) (by omega))
  exact this n 0 (by omega)

/-- A loop that takes away from a number, and stops below nought. -/
theorem ev_sum {α : Type} (l : List α) (z : α) (P : α → Prop) (g : Nat → Int → Int → Option Int)
    (hstep : ∀ (i : Nat) (x : Int), i < l.length → 0 ≤ x → x ≤ 1048576 → (∃ x', 0 ≤ x' ∧ x' ≤ 1048576 ∧ P (l.getD i z) ∧ ∀ r, Ev (fun k => g k ((i + 1 : Nat) : Int) x') r → Ev (fun k => g k (i : Int) x) r) ∨ Ev (fun k => g k (i : Int) x) (-1))
    (hend : ∀ k x, g (k + 1) (l.length : Int) x = some x) (x : Int) (h0 : 0 ≤ x) (h1 : x ≤ 1048576) : ∃ r, Ev (fun k => g k 0 x) r ∧ r ≤ 1048576 ∧ (0 ≤ r → ∀ y ∈ l, P y) := by
  obtain ⟨r, h, hp⟩ := ev_up (α := Int) l.length (fun k i s => g k i s) (fun i s => 0 ≤ s ∧ s ≤ 1048576 ∧ ∀ j, j < i → P (l.getD j z)) (fun r => r ≤ 1048576 ∧ (0 ≤ r → ∀ y ∈ l, P y)) (by
    rintro i s hi ⟨h1, h2, h3⟩
    rcases hstep i s hi h1 h2 with ⟨x', a, b, c, d⟩ | h
    · refine Or.inl ⟨x', ⟨a, b, fun j hj => ?_⟩, d⟩
      rcases Nat.lt_or_ge j i with hj' | hj'
      · exact h3 j hj'
      · have : j = i := by omega
        subst this; exact c
    · exact Or.inr ⟨-1, h, by omega, fun h => absurd h (by omega)⟩) (by
    rintro s ⟨h1, h2, h3⟩
    refine ⟨s, ev_succ ⟨0, fun k _ => hend k s⟩, h2, fun _ y hy => ?_⟩
    obtain ⟨j, hj, rfl⟩ := List.getElem_of_mem hy
    have := h3 j hj
    rwa [List.getD_eq_getElem?_getD, List.getElem?_eq_getElem hj] at this) 0 x (by omega) ⟨h0, h1, fun j hj => absurd hj (by omega)⟩
  exact ⟨r, h, hp⟩

/-- A loop that asks something at each place, and stops with a no. -/
theorem ev_allR (n : Nat) (p : Nat → Bool) (b : Bool) (g : Nat → Int → Option Bool)
    (hyes : ∀ i, i < n → p i = true → ∀ r, Ev (fun k => g k ((i + 1 : Nat) : Int)) r → Ev (fun k => g k (i : Int)) r)
    (hno : ∀ i, i < n → p i = false → Ev (fun k => g k (i : Int)) false)
    (hend : Ev (fun k => g k (n : Int)) b) : Ev (fun k => g k 0) ((List.range n).all p && b) := by
  have key : ∀ d i, i + d = n → Ev (fun k => g k (i : Int)) (((List.range' i d).all p) && b) := by
    intro d
    induction d with
    | zero => intro i hi; have : i = n := by omega
              subst this; simpa using hend
    | succ d ih =>
      intro i hi
      have := ih (i + 1) (by omega)
      rw [List.range'_succ, List.all_cons]
      cases hp : p i with
      | true => simpa using hyes i (by omega) hp _ this
      | false => simpa using hno i (by omega) hp
  have := key n 0 (by omega)
  rwa [← List.range_eq_range'] at this

/-- From a number of rounds on, through a step. -/
theorem Ev.at_ {α : Type} {g : Nat → Option α} {r : α} (h : Ev g r) : ∃ K, ∀ k, K ≤ k → g k = some r := h
theorem ev_const {α : Type} {x : Option α} {r : α} (h : x = some r) : Ev (fun _ => x) r := ⟨0, fun _ _ => h⟩

end Go.Proofs.Ytgpkkkmapgnhkaa.Pl

namespace Go.Proofs.Ytgpkkkmapgnhkaa.X
open Go.RowKit Go.Proofs.YtgpkkkmapgnhkaaW.PrintWords Go.Proofs.Ytgpkkkmapgnhkaa.Pl
set_option linter.unusedSimpArgs false

theorem l1In_some (a b c : Int) : spec_l1In.f a b c = some (decide (b ≤ a ∧ a ≤ c)) := by
  unfold spec_l1In.f
  by_cases h : b ≤ a <;> simp [h]
theorem within_some (a b c : Int) : impl_within.f a b c = some (decide (b ≤ a ∧ a ≤ c)) := by
  unfold impl_within.f
  by_cases h : b ≤ a <;> simp [h]
theorem sizeOk_some (a : Int) : impl_sizeOk.f a = some (decide (1 ≤ a ∧ a ≤ 6)) := by
  unfold impl_sizeOk.f
  by_cases h : 1 ≤ a <;> simp [h]
theorem partOk_some (a : Int) : impl_partOk.f a = some (decide (0 ≤ a ∧ a ≤ 255)) := by
  unfold impl_partOk.f
  by_cases h : 0 ≤ a <;> simp [h]

/-- May it be done: by its kind and its four numbers. -/
def opOkB (o a b c d : Int) : Bool :=
  if o = 1 then decide (0 ≤ a ∧ a ≤ 5) && (decide (0 ≤ b ∧ b ≤ 5) && (decide (1 ≤ c ∧ c ≤ 6) && decide (1 ≤ d ∧ d ≤ 6)))
  else if o = 7 then decide (1 ≤ a ∧ a ≤ 6) && (decide (1 ≤ b ∧ b ≤ 6) && (decide (c = 0) && decide (d = 0)))
  else if o = 8 then decide (0 ≤ a ∧ a ≤ 255) && (decide (0 ≤ b ∧ b ≤ 255) && (decide (0 ≤ c ∧ c ≤ 255) && decide (d = 0)))
  else decide (2 ≤ o ∧ o ≤ 6) && (decide (a = 0) && (decide (b = 0) && (decide (c = 0) && decide (d = 0))))

theorem spec_OpOk_some (o a b c d : Int) : spec_OpOk.f o a b c d = some (opOkB o a b c d) := by
  unfold spec_OpOk.f opOkB
  simp only [l1In_some, Option.bind_some]
  by_cases h1 : o = 1
  · simp only [h1, if_true]
    by_cases p : 0 ≤ a ∧ a ≤ 5 <;> by_cases q : 0 ≤ b ∧ b ≤ 5 <;> by_cases r : 1 ≤ c ∧ c ≤ 6 <;> simp [p, q, r]
  · simp only [h1, if_false]
    by_cases h7 : o = 7
    · simp only [h7, if_true]
      by_cases p : 1 ≤ a ∧ a ≤ 6 <;> by_cases q : 1 ≤ b ∧ b ≤ 6 <;> by_cases r : c = 0 <;> simp [p, q, r]; rfl
    · simp only [h7, if_false]
      by_cases h8 : o = 8
      · simp only [h8, if_true]
        by_cases p : 0 ≤ a ∧ a ≤ 255 <;> by_cases q : 0 ≤ b ∧ b ≤ 255 <;> by_cases r : 0 ≤ c ∧ c ≤ 255 <;> simp [p, q, r]; rfl
      · simp only [h8, if_false]
        by_cases p : 2 ≤ o ∧ o ≤ 6 <;> by_cases q : a = 0 <;> by_cases r : b = 0 <;> by_cases s : c = 0 <;> simp [p, q, r, s]; rfl

theorem impl_OpOk_some (k : Nat) (o a b c d : Int) : impl_OpOk.f (k + 1) o a b c d = some (opOkB o a b c d) := by
  unfold impl_OpOk.f opOkB
  simp only [impl_OpOk.j0, within_some, sizeOk_some, partOk_some, Option.bind_some]
  by_cases h1 : o = 1
  · simp only [h1, if_true]
    by_cases p : 0 ≤ a ∧ a ≤ 5 <;> by_cases q : 0 ≤ b ∧ b ≤ 5 <;> by_cases r : 1 ≤ c ∧ c ≤ 6 <;> simp [p, q, r]
  · simp only [h1, if_false]
    by_cases h2 : o = 2
    · subst h2; simp; rfl
    by_cases h3 : o = 3
    · subst h3; simp; rfl
    by_cases h4 : o = 4
    · subst h4; simp; rfl
    by_cases h5 : o = 5
    · subst h5; simp; rfl
    by_cases h6 : o = 6
    · subst h6; simp; rfl
    by_cases h7 : o = 7
    · subst h7
      simp only [show ¬ ((7 : Int) = 2) by decide, show ¬ ((7 : Int) = 3) by decide, show ¬ ((7 : Int) = 4) by decide, show ¬ ((7 : Int) = 5) by decide, if_false, if_true]
      by_cases p : 1 ≤ a ∧ a ≤ 6 <;> by_cases q : 1 ≤ b ∧ b ≤ 6 <;> by_cases r : c = 0 <;> simp [p, q, r]; rfl
    by_cases h8 : o = 8
    · subst h8
      simp only [show ¬ ((8 : Int) = 2) by decide, show ¬ ((8 : Int) = 3) by decide, show ¬ ((8 : Int) = 4) by decide, show ¬ ((8 : Int) = 5) by decide, show ¬ ((8 : Int) = 7) by decide, if_false, if_true]
      by_cases p : 0 ≤ a ∧ a ≤ 255 <;> by_cases q : 0 ≤ b ∧ b ≤ 255 <;> by_cases r : 0 ≤ c ∧ c ≤ 255 <;> simp [p, q, r]; rfl
    have h9 : ¬ (2 ≤ o ∧ o ≤ 6) := by omega
    have h6' : (o == 6) = false := by simpa using h6
    simp [h2, h3, h4, h5, h7, h8, h9, h6']

abbrev Op := S146
def okB (x : Op) : Bool := opOkB x.f0 x.f1 x.f2 x.f3 x.f4
def opAt (l : List Op) (i : Nat) : Op := rd_T146 l (i : Int)
def allOkB (l : List Op) : Bool := decide (l.length ≤ 5) && (List.range l.length).all fun i => okB (opAt l i)

theorem spec_l6All_ev (l : List Op) (hl : l.length ≤ 4611686018427387904) : Ev (fun k => spec_l6All.f k l) (allOkB l) := by
  have := ev_allR l.length (fun i => okB (opAt l i)) (decide ((l.length : Int) ≤ 5)) (fun k i => spec_l6All.l0 k l i) ?_ ?_ ?_
  · have e : allOkB l = ((List.range l.length).all (fun i => okB (opAt l i)) && decide ((l.length : Int) ≤ 5)) := by
      unfold allOkB
      rw [Bool.and_comm]
      congr 1
      simp only [decide_eq_decide]
      omega
    rw [e]
    exact this
  · intro i hi hp r h
    refine Ev.step (fun k => ?_) h
    have e := spec_OpOk_some (rd_T146 l (i : Int)).f0 (rd_T146 l (i : Int)).f1 (rd_T146 l (i : Int)).f2 (rd_T146 l (i : Int)).f3 (rd_T146 l (i : Int)).f4
    simp only [spec_l6All.l0]
    rw [if_pos (by omega), if_pos (by omega), e]
    simp only [Option.bind_some]
    rw [if_pos (show opOkB (rd_T146 l (i : Int)).f0 (rd_T146 l (i : Int)).f1 (rd_T146 l (i : Int)).f2 (rd_T146 l (i : Int)).f3 (rd_T146 l (i : Int)).f4 = true from hp), wrap_succ (by omega)]
  · intro i hi hp
    refine ev_succ ⟨0, fun k _ => ?_⟩
    have e := spec_OpOk_some (rd_T146 l (i : Int)).f0 (rd_T146 l (i : Int)).f1 (rd_T146 l (i : Int)).f2 (rd_T146 l (i : Int)).f3 (rd_T146 l (i : Int)).f4
    simp only [spec_l6All.l0]
    rw [if_pos (by omega), if_pos (by omega), e]
    simp only [Option.bind_some]
    rw [if_neg (show ¬ (opOkB (rd_T146 l (i : Int)).f0 (rd_T146 l (i : Int)).f1 (rd_T146 l (i : Int)).f2 (rd_T146 l (i : Int)).f3 (rd_T146 l (i : Int)).f4 = true) from by have hp2 : opOkB (rd_T146 l (i : Int)).f0 (rd_T146 l (i : Int)).f1 (rd_T146 l (i : Int)).f2 (rd_T146 l (i : Int)).f3 (rd_T146 l (i : Int)).f4 = false := hp; rw [hp2]; decide)]
  · refine ev_succ ⟨0, fun k _ => ?_⟩
    simp only [spec_l6All.l0]
    rw [if_neg (by omega)]

theorem impl_opsOk_ev (l : List Op) (hl : l.length ≤ 4611686018427387904) : Ev (fun k => impl_opsOk.f k l) (allOkB l) := by
  by_cases h5 : l.length ≤ 5
  · have := ev_allR l.length (fun i => okB (opAt l i)) true (fun k i => impl_opsOk.l0 k l (l.length : Int) i) ?_ ?_ ?_
    · have e : allOkB l = ((List.range l.length).all (fun i => okB (opAt l i)) && true) := by
        unfold allOkB
        simp [h5]
      rw [e]
      refine Ev.congr (fun k => ?_) this
      show impl_opsOk.f k l = _
      unfold impl_opsOk.f
      rw [if_neg (by omega)]
    · intro i hi hp r h
      obtain ⟨K, h⟩ := h
      refine ⟨K + 2, fun k hk => ?_⟩
      obtain ⟨k, rfl⟩ : ∃ m, k = m + 2 := ⟨k - 2, by omega⟩
      have e := impl_OpOk_some k (rd_T146 l (i : Int)).f0 (rd_T146 l (i : Int)).f1 (rd_T146 l (i : Int)).f2 (rd_T146 l (i : Int)).f3 (rd_T146 l (i : Int)).f4
      have e2 := h (k + 1) (by omega)
      dsimp only at e2 ⊢
      simp only [impl_opsOk.l0] at e2 ⊢
      rw [if_pos (by omega), if_pos (by omega), if_pos (by omega), e]
      simp only [Option.bind_some]
      rw [if_pos (show opOkB (rd_T146 l (i : Int)).f0 (rd_T146 l (i : Int)).f1 (rd_T146 l (i : Int)).f2 (rd_T146 l (i : Int)).f3 (rd_T146 l (i : Int)).f4 = true from hp), wrap_succ (by omega)]
      exact e2
    · intro i hi hp
      refine ev_succ (ev_succ ⟨0, fun k _ => ?_⟩)
      have e := impl_OpOk_some k (rd_T146 l (i : Int)).f0 (rd_T146 l (i : Int)).f1 (rd_T146 l (i : Int)).f2 (rd_T146 l (i : Int)).f3 (rd_T146 l (i : Int)).f4
      simp only [impl_opsOk.l0]
      rw [if_pos (by omega), if_pos (by omega), if_pos (by omega), e]
      simp only [Option.bind_some]
      rw [if_neg (show ¬ (opOkB (rd_T146 l (i : Int)).f0 (rd_T146 l (i : Int)).f1 (rd_T146 l (i : Int)).f2 (rd_T146 l (i : Int)).f3 (rd_T146 l (i : Int)).f4 = true) from by have hp2 : opOkB (rd_T146 l (i : Int)).f0 (rd_T146 l (i : Int)).f1 (rd_T146 l (i : Int)).f2 (rd_T146 l (i : Int)).f3 (rd_T146 l (i : Int)).f4 = false := hp; rw [hp2]; decide)]
    · refine ev_succ ⟨0, fun k _ => ?_⟩
      simp only [impl_opsOk.l0]
      rw [if_neg (by omega)]
  · have e : allOkB l = false := by
      unfold allOkB
      simp [h5]
    rw [e]
    refine ⟨0, fun k _ => ?_⟩
    show impl_opsOk.f k l = _
    unfold impl_opsOk.f
    rw [if_pos (by omega)]

/-- A letter, or a digit. -/
def signB (c : Int) : Bool := decide (97 ≤ c ∧ c ≤ 122) || decide (48 ≤ c ∧ c ≤ 57)
def nameB (s : ByteArray) : Bool := decide (1 ≤ s.size ∧ s.size ≤ 6) && (List.range s.size).all fun i => signB (bt s (i : Int))

theorem impl_nameOk_ev (s : ByteArray) : Ev (fun k => impl_nameOk.f k s) (nameB s) := by
  by_cases hs : 1 ≤ s.size ∧ s.size ≤ 6
  · have := ev_allR s.size (fun i => signB (bt s (i : Int))) true (fun k i => impl_nameOk.l0 k s (s.size : Int) i) ?_ ?_ ?_
    · have e : nameB s = ((List.range s.size).all (fun i => signB (bt s (i : Int))) && true) := by
        unfold nameB
        simp [hs]
      rw [e]
      refine Ev.step (fun k => ?_) this
      unfold impl_nameOk.f
      rw [if_neg (by omega)]
      simp only [impl_nameOk.j0]
      rw [if_neg (by simp; omega)]
    · intro i hi hp r h
      refine Ev.step (fun k => ?_) h
      simp only [impl_nameOk.l0]
      rw [if_pos (by omega), if_pos (by omega), if_pos (by omega), wrap_succ (by omega)]
      simp only [signB, Bool.or_eq_true, decide_eq_true_eq] at hp
      repeat' split
      all_goals first | rfl | (exfalso; omega)
    · intro i hi hp
      refine ev_succ ⟨0, fun k _ => ?_⟩
      simp only [impl_nameOk.l0]
      rw [if_pos (by omega), if_pos (by omega), if_pos (by omega)]
      simp only [signB, Bool.or_eq_false_iff, decide_eq_false_iff_not] at hp
      repeat' split
      all_goals first | rfl | (exfalso; omega)
    · refine ev_succ ⟨0, fun k _ => ?_⟩
      simp only [impl_nameOk.l0]
      rw [if_neg (by omega)]
  · have e : nameB s = false := by
      unfold nameB
      simp only [hs, decide_false, Bool.false_and]
    rw [e]
    refine ev_succ ⟨0, fun k _ => ?_⟩
    unfold impl_nameOk.f
    simp only [impl_nameOk.j0]
    split
    · rfl
    · rw [if_pos (by simp; omega)]

theorem spec_l7Path_ev (s : ByteArray) : Ev (fun k => spec_l7Path.f k s) (nameB s) := by
  by_cases hs : 1 ≤ s.size ∧ s.size ≤ 6
  · have := ev_allR s.size (fun i => signB (bt s (i : Int))) true (fun k i => spec_l7Path.l0 k s i) ?_ ?_ ?_
    · have e : nameB s = ((List.range s.size).all (fun i => signB (bt s (i : Int))) && true) := by
        unfold nameB
        simp [hs]
      rw [e]
      refine Ev.step (fun k => ?_) this
      unfold spec_l7Path.f
      rw [if_neg (by omega)]
      simp only [spec_l7Path.j0]
      rw [if_neg (by simp; omega)]
    · intro i hi hp r h
      refine Ev.step (fun k => ?_) h
      simp only [spec_l7Path.l0]
      rw [if_pos (by omega), if_pos (by omega), wrap_succ (by omega)]
      simp only [signB, Bool.or_eq_true, decide_eq_true_eq] at hp
      repeat' split
      all_goals first | rfl | (exfalso; omega)
    · intro i hi hp
      refine ev_succ ⟨0, fun k _ => ?_⟩
      simp only [spec_l7Path.l0]
      rw [if_pos (by omega), if_pos (by omega)]
      simp only [signB, Bool.or_eq_false_iff, decide_eq_false_iff_not] at hp
      repeat' split
      all_goals first | rfl | (exfalso; omega)
    · refine ev_succ ⟨0, fun k _ => ?_⟩
      simp only [spec_l7Path.l0]
      rw [if_neg (by omega)]
  · have e : nameB s = false := by
      unfold nameB
      simp only [hs, decide_false, Bool.false_and]
    rw [e]
    refine ev_succ ⟨0, fun k _ => ?_⟩
    unfold spec_l7Path.f
    simp only [spec_l7Path.j0]
    split
    · rfl
    · rw [if_pos (by simp; omega)]

def askB (l : List Op) (s : ByteArray) (n : Int) : Bool := allOkB l && (nameB s && decide (0 ≤ n ∧ n ≤ 9999))
theorem impl_AskOk_ev (l : List Op) (hl : l.length ≤ 4611686018427387904) (s : ByteArray) (n : Int) : Ev (fun k => impl_AskOk.f k l s n) (askB l s n) := by
  obtain ⟨K, h⟩ := impl_opsOk_ev l hl
  obtain ⟨K', h'⟩ := impl_nameOk_ev s
  refine ⟨K + K', fun k hk => ?_⟩
  have e1 := h k (by omega)
  have e2 := h' k (by omega)
  dsimp only at e1 e2 ⊢
  unfold impl_AskOk.f askB
  rw [e1]
  cases allOkB l <;> simp [e2, within_some]
  cases nameB s <;> simp
theorem spec_AskOk_ev (l : List Op) (hl : l.length ≤ 4611686018427387904) (s : ByteArray) (n : Int) : Ev (fun k => spec_AskOk.f k l s n) (askB l s n) := by
  obtain ⟨K, h⟩ := spec_l6All_ev l hl
  obtain ⟨K', h'⟩ := spec_l7Path_ev s
  refine ⟨K + K', fun k hk => ?_⟩
  have e1 := h k (by omega)
  have e2 := h' k (by omega)
  dsimp only at e1 e2 ⊢
  unfold spec_AskOk.f askB
  rw [e1]
  cases allOkB l <;> simp [e2, l1In_some]
  cases nameB s <;> simp
end Go.Proofs.Ytgpkkkmapgnhkaa.X

namespace Go.Proofs.Ytgpkkkmapgnhkaa.X
open Go.RowKit Go.Proofs.YtgpkkkmapgnhkaaW.PrintWords Go.Proofs.Ytgpkkkmapgnhkaa.Pl
set_option linter.unusedSimpArgs false
set_option linter.unusedVariables false
def sm148 (x : S148) : Prop := True
def sm146 (x : S146) : Prop := True
def cOpOp (x : S148) : S146 := ⟨x.f0, x.f1, x.f2, x.f3, x.f4⟩
theorem sm_cOpOp {x : S148} (h : sm148 x) : sm146 (cOpOp x) := by
  unfold sm148 at h; unfold sm146; exact h
theorem toOpOp_ev (v0 : Int) (v1 : Int) (v2 : Int) (v3 : Int) (v4 : Int) : Ev (fun k => laws_toOpOp.f v0 v1 v2 v3 v4) (v0, v1, v2, v3, v4) := by
  refine ⟨0, fun k hk => ?_⟩
  rfl
theorem eqOpOp_ev (v0 : Int) (v1 : Int) (v2 : Int) (v3 : Int) (v4 : Int) : Ev (fun k => laws_eqOpOp.f v0 v1 v2 v3 v4 v0 v1 v2 v3 v4) true := by
  refine ⟨0, fun k hk => ?_⟩
  simp [laws_eqOpOp.f]
theorem toOpOpS_ev (l : List S148) (hl : l.length ≤ 1048576 ∧ ∀ y ∈ l, sm148 y) : Ev (fun k => laws_toOpOpS.f k l) (l.map cOpOp) := by
  have hle := hl.1
  have := ev_map cOpOp z148 z146 l (fun k i s => laws_toOpOpS.l0 k l s i) hle ?_ ?_
  · refine Ev.congr (fun k => ?_) this
    show laws_toOpOpS.f k l = _
    unfold laws_toOpOpS.f
    rw [if_pos (by omega), if_pos (by omega)]
    rfl
  · intro i s hi hs r h
    have hx : sm148 (rd_T148 l (i : Int)) := hl.2 _ (getD_mem l z148 i hi)
    obtain ⟨K0, h0⟩ := toOpOp_ev ((rd_T148 l (i : Int)).f0) ((rd_T148 l (i : Int)).f1) ((rd_T148 l (i : Int)).f2) ((rd_T148 l (i : Int)).f3) ((rd_T148 l (i : Int)).f4) 
    obtain ⟨K, h⟩ := h
    refine ⟨K + K0 + 1, fun k hk => ?_⟩
    obtain ⟨k, rfl⟩ : ∃ m, k = m + 1 := ⟨k - 1, by omega⟩
    have e0 := h0 k (by omega)
    have e1 := h k (by omega)
    dsimp only at e0 e1
    simp only [laws_toOpOpS.l0]
    rw [if_pos (by omega), if_pos (by omega), e0]
    simp only [Option.bind_some]
    rw [if_pos (by omega), wrap_succ (by omega)]
    exact e1
  · intro k s hs
    simp only [laws_toOpOpS.l0]
    rw [if_neg (by omega)]
theorem eqOpOpS_ev (l : List S146) (hl : l.length ≤ 1048576 ∧ ∀ y ∈ l, sm146 y) : Ev (fun k => laws_eqOpOpS.f k l l) true := by
  have hle := hl.1
  have := ev_all l.length (fun k i => laws_eqOpOpS.l0 k l l i) ?_ ?_
  · refine Ev.congr (fun k => ?_) this
    show laws_eqOpOpS.f k l l = _
    unfold laws_eqOpOpS.f
    rw [if_pos rfl]
  · intro i hi h
    have hx : sm146 (rd_T146 l (i : Int)) := hl.2 _ (getD_mem l z146 i hi)
    obtain ⟨K0, h0⟩ := eqOpOp_ev ((rd_T146 l (i : Int)).f0) ((rd_T146 l (i : Int)).f1) ((rd_T146 l (i : Int)).f2) ((rd_T146 l (i : Int)).f3) ((rd_T146 l (i : Int)).f4) 
    obtain ⟨K, h⟩ := h
    refine ⟨K + K0 + 1, fun k hk => ?_⟩
    obtain ⟨k, rfl⟩ : ∃ m, k = m + 1 := ⟨k - 1, by omega⟩
    have e0 := h0 k (by omega)
    have e1 := h k (by omega)
    dsimp only at e0 e1
    simp only [laws_eqOpOpS.l0]
    rw [if_pos (by omega), if_pos (by omega), if_pos (by omega), e0]
    simp only [Option.bind_some, if_true]
    rw [wrap_succ (by omega)]
    exact e1
  · intro k
    simp only [laws_eqOpOpS.l0]
    rw [if_neg (by omega)]
theorem szOpOpS_ev (l : List S148) (left : Int) (h0 : 0 ≤ left) (h1 : left ≤ 1048576) (g : l.length ≤ maxLen ∧ ∀ y ∈ l, g148 y) : ∃ r, Ev (fun k => laws_szOpOpS.f l left) r ∧ r ≤ 1048576 ∧ (0 ≤ r → l.length ≤ 1048576 ∧ ∀ y ∈ l, sm148 y) := by
  have hm : maxLen = 9223372036854775807 := rfl
  have hlm : l.length ≤ maxLen := g.1
  have w : wrap64 (left - (l.length : Int)) = left - (l.length : Int) := wrap_id (by omega) (by omega)
  by_cases n : left - (l.length : Int) < 0
  · exact ⟨-1, ⟨0, fun k hk => by simp [laws_szOpOpS.f, w, n]⟩, by omega, fun h => absurd h (by omega)⟩
  exact ⟨left - (l.length : Int), ⟨0, fun k hk => by simp [laws_szOpOpS.f, w, n]⟩, by omega, fun _ => ⟨by omega, fun y _ => trivial⟩⟩
end Go.Proofs.Ytgpkkkmapgnhkaa.X

namespace Go.Proofs.Ytgpkkkmapgnhkaa.X
open Go.RowKit Go.Proofs.YtgpkkkmapgnhkaaW.PrintWords Go.Proofs.Ytgpkkkmapgnhkaa.Pl
set_option linter.unusedSimpArgs false
set_option linter.unusedVariables false
theorem toUrlAsk_ev (v0 : List S148) (v1 : ByteArray) (v2 : Int) (s0 : (v0.length ≤ 1048576 ∧ ∀ y ∈ v0, sm148 y)) : Ev (fun k => laws_toUrlAsk.f k v0 v1 v2) ((v0.map cOpOp), v1, v2) := by
  obtain ⟨K0, h0⟩ := toOpOpS_ev v0 s0
  refine ⟨K0, fun k hk => ?_⟩
  simp only [laws_toUrlAsk.f, h0 k (by omega), Option.bind_some]
theorem eqUrlAsk_ev (v0 : List S146) (v1 : ByteArray) (v2 : Int) (s0 : (v0.length ≤ 1048576 ∧ ∀ y ∈ v0, sm146 y)) : Ev (fun k => laws_eqUrlAsk.f k v0 v1 v2 v0 v1 v2) true := by
  obtain ⟨K0, h0⟩ := eqOpOpS_ev v0 s0
  refine ⟨K0, fun k hk => ?_⟩
  simp [laws_eqUrlAsk.f, h0 k (by omega)]
theorem szUrlAsk_ev (v0 : List S148) (v1 : ByteArray) (v2 : Int) (left : Int) (h0 : 0 ≤ left) (h1 : left ≤ 1048576) (g0 : v0.length ≤ maxLen ∧ ∀ y ∈ v0, g148 y) (g1 : v1.size ≤ maxLen) : ∃ r, Ev (fun k => laws_szUrlAsk.f v0 v1 v2 left) r ∧ r ≤ 1048576 ∧ (0 ≤ r → (v0.length ≤ 1048576 ∧ ∀ y ∈ v0, sm148 y) ∧ v1.size ≤ 1048576) := by
  have hm : maxLen = 9223372036854775807 := rfl
  obtain ⟨c0, ⟨K0, e0⟩, u0, q0⟩ := szOpOpS_ev v0 left (by omega) (by omega) g0
  by_cases n0 : c0 < 0
  · exact ⟨-1, ⟨K0, fun k hk => by simp [laws_szUrlAsk.f, e0 k (by omega), n0]⟩, by omega, fun h => absurd h (by omega)⟩
  obtain ⟨c1, hc1⟩ : ∃ c, c = wrap64 (c0 - (v1.size : Int)) := ⟨_, rfl⟩
  have hv1 : c1 = c0 - (v1.size : Int) := by rw [hc1]; exact wrap_id (by omega) (by omega)
  by_cases n1 : c1 < 0
  · exact ⟨-1, ⟨K0, fun k hk => by simp [laws_szUrlAsk.f, e0 k (by omega), n0, ← hc1, n1]⟩, by omega, fun h => absurd h (by omega)⟩
  exact ⟨c1, ⟨K0, fun k hk => by simp [laws_szUrlAsk.f, e0 k (by omega), n0, ← hc1, n1]⟩, by omega, fun _ => ⟨q0 (by omega), (by omega)⟩⟩
end Go.Proofs.Ytgpkkkmapgnhkaa.X

namespace Go.Proofs.Ytgpkkkmapgnhkaa.Pure
open Go.RowKit Go.Proofs.YtgpkkkmapgnhkaaW.PrintWords Go.Proofs.Ytgpkkkmapgnhkaa.Pl Go.Proofs.Ytgpkkkmapgnhkaa.X
set_option linter.unusedSimpArgs false

theorem FnExactAskOk : laws_FnExactAskOk.Pure := by
  intro l0 a1 a2 hl hg hs _
  obtain ⟨r, ⟨K0, e0⟩, _, hr⟩ := szUrlAsk_ev l0 a1 a2 1048576 (by omega) (by omega) ⟨hl, hg⟩ hs
  by_cases hn : r < 0
  · refine ⟨K0, ?_⟩
    have := e0 K0 (by omega)
    dsimp only at this
    unfold laws_FnExactAskOk.f
    rw [this]
    simp [hn]
  · have hsm := (hr (by omega)).1
    have hsi : (l0.map cOpOp).length ≤ 1048576 ∧ ∀ y ∈ l0.map cOpOp, sm146 y := ⟨by rw [List.length_map]; exact hsm.1, fun y hy => by obtain ⟨z, hz, rfl⟩ := List.mem_map.1 hy; exact sm_cOpOp (hsm.2 z hz)⟩
    obtain ⟨K1, e1⟩ := toUrlAsk_ev l0 a1 a2 hsm
    obtain ⟨K2, e2⟩ := eqUrlAsk_ev (l0.map cOpOp) a1 a2 hsi
    obtain ⟨K3, e3⟩ := impl_AskOk_ev (l0.map cOpOp) (by omega) a1 a2
    obtain ⟨K4, e4⟩ := spec_AskOk_ev (l0.map cOpOp) (by omega) a1 a2
    refine ⟨K0 + K1 + K2 + K3 + K4, ?_⟩
    have h0 := e0 (K0 + K1 + K2 + K3 + K4) (by omega)
    have h1 := e1 (K0 + K1 + K2 + K3 + K4) (by omega)
    have h2 := e2 (K0 + K1 + K2 + K3 + K4) (by omega)
    have h3 := e3 (K0 + K1 + K2 + K3 + K4) (by omega)
    have h4 := e4 (K0 + K1 + K2 + K3 + K4) (by omega)
    dsimp only at h0 h1 h2 h3 h4
    unfold laws_FnExactAskOk.f
    simp [h0, h1, h2, h3, h4, hn]
end Go.Proofs.Ytgpkkkmapgnhkaa.Pure
