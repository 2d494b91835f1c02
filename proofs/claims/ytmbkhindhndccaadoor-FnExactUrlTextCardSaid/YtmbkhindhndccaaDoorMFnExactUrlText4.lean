/- Lemmas and contracts for the law FnExactUrlText, part 4: of the program's functions, and over data alone. Conditions: the listed package-level variables begin as the program's text lays them (tied by the card). -/
import Derived.Test.YtmbkhindhndccaaDoorMFnExactUrlText2
import Derived.Test.YtmbkhindhndccaaDoorMFnExactUrlText1
import Derived.ChangeArms
import Derived.WideShapes
import Derived.DataElems
import Derived.DataReads
import Derived.KernelRfl
namespace Go.Proofs.YtmbkhindhndccaaDoor.X
open Go.RowKit Go.Proofs.YtmbkhindhndccaaDoorW.PrintWords Go.Proofs.YtmbkhindhndccaaDoorW.PrintLast Go.Proofs.YtmbkhindhndccaaDoorW.PrintMore
attribute [local go_sem] max2_int min2_int max_two min_two max_three min_three max_four min_four
set_option linter.unusedVariables false
set_option linter.unusedSimpArgs false

section
open Go.Proofs.YtmbkhindhndccaaDoorW.PrintWords.Aside0 renaming mk → yaa
open Go.Proofs.YtmbkhindhndccaaDoorW.PrintWords renaming pw_below_drewN → yab, below_alloc → yac, below_drew1 → yad, below_set → yae

def laws_eqOpOp.f (a0_0 : Int) (a0_1 : Int) (a0_2 : Int) (a0_3 : Int) (a0_4 : Int) (a1_0 : Int) (a1_1 : Int) (a1_2 : Int) (a1_3 : Int) (a1_4 : Int) : Option (Bool) := if a0_0 = a1_0 then (if a0_1 = a1_1 then (if a0_2 = a1_2 then (if a0_3 = a1_3 then (if a0_4 = a1_4 then (some true) else (some false)) else (some false)) else (some false)) else (some false)) else (some false)
set_option maxHeartbeats 8000000 in
set_option maxRecDepth 100000 in
theorem laws_eqOpOp.calls (a0_0 : Int) (a0_1 : Int) (a0_2 : Int) (a0_3 : Int) (a0_4 : Int) (a1_0 : Int) (a1_1 : Int) (a1_2 : Int) (a1_3 : Int) (a1_4 : Int) (r : Bool) (w : World) (h : laws_eqOpOp.f a0_0 a0_1 a0_2 a0_3 a0_4 a1_0 a1_1 a1_2 a1_3 a1_4 = some r) :
  Calls Tryd.prog 42 #[.agg #[.int .i64 a0_0, .int .i64 a0_1, .int .i64 a0_2, .int .i64 a0_3, .int .i64 a0_4], .agg #[.int .i64 a1_0, .int .i64 a1_1, .int .i64 a1_2, .int .i64 a1_3, .int .i64 a1_4]] w fun e w' => e = .returned (.bool r) ∧ Below w.heap.size w w' := by
 have hu59 := Tryd.underlying59; have HB := yaa (Below.refl w.heap.size w); have H : (if a0_0 = a1_0 then (if a0_1 = a1_1 then (if a0_2 = a1_2 then (if a0_3 = a1_3 then (if a0_4 = a1_4 then (some true) else (some false)) else (some false)) else (some false)) else (some false)) else (some false)) = some r := h; clear h
 by_cases c3 : a0_0 = a1_0
 ·
  rw [if_pos c3] at H
  have n8 := beq_iff_eq.mpr c3; have n9 := bne_eq_false_iff_eq.mpr c3; clear c3
  by_cases c4 : a0_1 = a1_1
  ·
   rw [if_pos c4] at H
   have o0 := beq_iff_eq.mpr c4; have o1 := bne_eq_false_iff_eq.mpr c4; clear c4
   by_cases c5 : a0_2 = a1_2
   ·
    rw [if_pos c5] at H
    have o2 := beq_iff_eq.mpr c5; have o3 := bne_eq_false_iff_eq.mpr c5; clear c5
    by_cases c6 : a0_3 = a1_3
    ·
     rw [if_pos c6] at H
     have o4 := beq_iff_eq.mpr c6; have o5 := bne_eq_false_iff_eq.mpr c6; clear c6
     by_cases c7 : a0_4 = a1_4
     ·
      rw [if_pos c7] at H
      have o6 := beq_iff_eq.mpr c7; have o7 := bne_eq_false_iff_eq.mpr c7; clear c7; obtain rfl := Option.some.inj H
      go_enter Tryd.func42, Tryd.ntmps42
      go_wp2_with (first | ((with_reducible refine gd_ 2 rfl ?_); refine bx_ 2 rfl #[.int .i64 a0_0, .int .i64 a0_1, .int .i64 a0_2, .int .i64 a0_3, .int .i64 a0_4] 59 ?_; intro a4 hg w8 hbox hb; have a1 := yaa (hbox); have a6 := yaa ((by rw [hg]; exact (below_size (upH HB.out)) : w.heap.size ≤ a4)); replace HB := yaa (below_step (upH HB.out) hb); have a9 := a6; clear hb hbox hg) | ((with_reducible refine gd_ 3 rfl ?_); refine bx_ 3 rfl #[.int .i64 a1_0, .int .i64 a1_1, .int .i64 a1_2, .int .i64 a1_3, .int .i64 a1_4] 59 ?_; intro a5 hg w9 hbox hb; have a3 := yaa (hbox); have a7 := yaa ((by rw [hg]; exact (below_size (by repeat (with_reducible first | exact HB.out | apply yac | apply yab | apply yad | refine yae ?_ (Aside0.out ‹_›)))) : w.heap.size ≤ a5)); replace HB := yaa (below_step (by repeat (with_reducible first | exact HB.out | apply yac | apply yab | apply yad | refine yae ?_ (Aside0.out ‹_›))) hb); have b0 := a7; have a0 := yaa ((by rw [hg]; exact Nat.ne_of_lt (blk_lt (upB a1.out)) : a4 ≠ a5)); replace a1 := yaa (blk_below (upB a1.out) hb); have a2 := yaa a0.out.symm; clear hb hbox hg; have o8 := a0.out; have o9 := a2.out; obtain ⟨b3, b4, b5, b6, b7⟩ := cc5_ a1.out; obtain ⟨b8, b9, c0, c1, c2⟩ := cf5_ a1.out; obtain ⟨c8, c9, d0, d1, d2⟩ := cc5_ a3.out; obtain ⟨d3, d4, d5, d6⟩ := cf4_ a3.out; have d7 := blk_frozen a3.out 4))
      go_ret
      exact ⟨by first | rfl | (simp [*, errW_none, errW_some] <;> rfl), by repeat (with_reducible first | exact HB.out | apply yac | apply yab | apply yad | refine yae ?_ (Aside0.out ‹_›))⟩
     ·
      rw [if_neg c7] at H
      have o6 := beq_eq_false_iff_ne.mpr c7; have o7 := bne_iff_ne.mpr c7; obtain rfl := Option.some.inj H
      go_enter Tryd.func42, Tryd.ntmps42
      go_wp2_with (first | ((with_reducible refine gd_ 2 rfl ?_); refine bx_ 2 rfl #[.int .i64 a0_0, .int .i64 a0_1, .int .i64 a0_2, .int .i64 a0_3, .int .i64 a0_4] 59 ?_; intro a4 hg w13 hbox hb; have a1 := yaa (hbox); have a6 := yaa ((by rw [hg]; exact (below_size (upH HB.out)) : w.heap.size ≤ a4)); replace HB := yaa (below_step (upH HB.out) hb); have a9 := a6; clear hb hbox hg) | ((with_reducible refine gd_ 3 rfl ?_); refine bx_ 3 rfl #[.int .i64 a1_0, .int .i64 a1_1, .int .i64 a1_2, .int .i64 a1_3, .int .i64 a1_4] 59 ?_; intro a5 hg w14 hbox hb; have a3 := yaa (hbox); have a7 := yaa ((by rw [hg]; exact (below_size (by repeat (with_reducible first | exact HB.out | apply yac | apply yab | apply yad | refine yae ?_ (Aside0.out ‹_›)))) : w.heap.size ≤ a5)); replace HB := yaa (below_step (by repeat (with_reducible first | exact HB.out | apply yac | apply yab | apply yad | refine yae ?_ (Aside0.out ‹_›))) hb); have b0 := a7; have a0 := yaa ((by rw [hg]; exact Nat.ne_of_lt (blk_lt (upB a1.out)) : a4 ≠ a5)); replace a1 := yaa (blk_below (upB a1.out) hb); have a2 := yaa a0.out.symm; clear hb hbox hg; have p0 := a0.out; have p1 := a2.out; obtain ⟨d8, d9, e0, e1, e2⟩ := cc5_ a1.out; obtain ⟨e3, e4, e5, e6, e7⟩ := cf5_ a1.out; obtain ⟨e8, e9, f0, f1, f2⟩ := cc5_ a3.out; obtain ⟨f3, f4, f5, f6⟩ := cf4_ a3.out; have f7 := blk_frozen a3.out 4))
      go_ret
      exact ⟨by first | rfl | (simp [*, errW_none, errW_some] <;> rfl), by repeat (with_reducible first | exact HB.out | apply yac | apply yab | apply yad | refine yae ?_ (Aside0.out ‹_›))⟩
    ·
     rw [if_neg c6] at H
     have o4 := beq_eq_false_iff_ne.mpr c6; have o5 := bne_iff_ne.mpr c6; obtain rfl := Option.some.inj H
     go_enter Tryd.func42, Tryd.ntmps42
     go_wp2_with (first | ((with_reducible refine gd_ 2 rfl ?_); refine bx_ 2 rfl #[.int .i64 a0_0, .int .i64 a0_1, .int .i64 a0_2, .int .i64 a0_3, .int .i64 a0_4] 59 ?_; intro a4 hg w18 hbox hb; have a1 := yaa (hbox); have a6 := yaa ((by rw [hg]; exact (below_size (upH HB.out)) : w.heap.size ≤ a4)); replace HB := yaa (below_step (upH HB.out) hb); have a9 := a6; clear hb hbox hg) | ((with_reducible refine gd_ 3 rfl ?_); refine bx_ 3 rfl #[.int .i64 a1_0, .int .i64 a1_1, .int .i64 a1_2, .int .i64 a1_3, .int .i64 a1_4] 59 ?_; intro a5 hg w19 hbox hb; have a3 := yaa (hbox); have a7 := yaa ((by rw [hg]; exact (below_size (by repeat (with_reducible first | exact HB.out | apply yac | apply yab | apply yad | refine yae ?_ (Aside0.out ‹_›)))) : w.heap.size ≤ a5)); replace HB := yaa (below_step (by repeat (with_reducible first | exact HB.out | apply yac | apply yab | apply yad | refine yae ?_ (Aside0.out ‹_›))) hb); have b0 := a7; have a0 := yaa ((by rw [hg]; exact Nat.ne_of_lt (blk_lt (upB a1.out)) : a4 ≠ a5)); replace a1 := yaa (blk_below (upB a1.out) hb); have a2 := yaa a0.out.symm; clear hb hbox hg; have p2 := a0.out; have p3 := a2.out; obtain ⟨f8, f9, g0, g1, g2⟩ := cc5_ a1.out; obtain ⟨g3, g4, g5, g6, g7⟩ := cf5_ a1.out; obtain ⟨g8, g9, h0, h1, h2⟩ := cc5_ a3.out; obtain ⟨h3, h4, h5, h6⟩ := cf4_ a3.out; have h7 := blk_frozen a3.out 4))
     go_ret
     exact ⟨by first | rfl | (simp [*, errW_none, errW_some] <;> rfl), by repeat (with_reducible first | exact HB.out | apply yac | apply yab | apply yad | refine yae ?_ (Aside0.out ‹_›))⟩
   ·
    rw [if_neg c5] at H
    have o2 := beq_eq_false_iff_ne.mpr c5; have o3 := bne_iff_ne.mpr c5; obtain rfl := Option.some.inj H
    go_enter Tryd.func42, Tryd.ntmps42
    go_wp2_with (first | ((with_reducible refine gd_ 2 rfl ?_); refine bx_ 2 rfl #[.int .i64 a0_0, .int .i64 a0_1, .int .i64 a0_2, .int .i64 a0_3, .int .i64 a0_4] 59 ?_; intro a4 hg w23 hbox hb; have a1 := yaa (hbox); have a6 := yaa ((by rw [hg]; exact (below_size (upH HB.out)) : w.heap.size ≤ a4)); replace HB := yaa (below_step (upH HB.out) hb); have a9 := a6; clear hb hbox hg) | ((with_reducible refine gd_ 3 rfl ?_); refine bx_ 3 rfl #[.int .i64 a1_0, .int .i64 a1_1, .int .i64 a1_2, .int .i64 a1_3, .int .i64 a1_4] 59 ?_; intro a5 hg w24 hbox hb; have a3 := yaa (hbox); have a7 := yaa ((by rw [hg]; exact (below_size (by repeat (with_reducible first | exact HB.out | apply yac | apply yab | apply yad | refine yae ?_ (Aside0.out ‹_›)))) : w.heap.size ≤ a5)); replace HB := yaa (below_step (by repeat (with_reducible first | exact HB.out | apply yac | apply yab | apply yad | refine yae ?_ (Aside0.out ‹_›))) hb); have b0 := a7; have a0 := yaa ((by rw [hg]; exact Nat.ne_of_lt (blk_lt (upB a1.out)) : a4 ≠ a5)); replace a1 := yaa (blk_below (upB a1.out) hb); have a2 := yaa a0.out.symm; clear hb hbox hg; have p4 := a0.out; have p5 := a2.out; obtain ⟨h8, h9, i0, i1, i2⟩ := cc5_ a1.out; obtain ⟨i3, i4, i5, i6, i7⟩ := cf5_ a1.out; obtain ⟨i8, i9, j0, j1, j2⟩ := cc5_ a3.out; obtain ⟨j3, j4, j5, j6⟩ := cf4_ a3.out; have j7 := blk_frozen a3.out 4))
    go_ret
    exact ⟨by first | rfl | (simp [*, errW_none, errW_some] <;> rfl), by repeat (with_reducible first | exact HB.out | apply yac | apply yab | apply yad | refine yae ?_ (Aside0.out ‹_›))⟩
  ·
   rw [if_neg c4] at H
   have o0 := beq_eq_false_iff_ne.mpr c4; have o1 := bne_iff_ne.mpr c4; obtain rfl := Option.some.inj H
   go_enter Tryd.func42, Tryd.ntmps42
   go_wp2_with (first | ((with_reducible refine gd_ 2 rfl ?_); refine bx_ 2 rfl #[.int .i64 a0_0, .int .i64 a0_1, .int .i64 a0_2, .int .i64 a0_3, .int .i64 a0_4] 59 ?_; intro a4 hg w28 hbox hb; have a1 := yaa (hbox); have a6 := yaa ((by rw [hg]; exact (below_size (upH HB.out)) : w.heap.size ≤ a4)); replace HB := yaa (below_step (upH HB.out) hb); have a9 := a6; clear hb hbox hg) | ((with_reducible refine gd_ 3 rfl ?_); refine bx_ 3 rfl #[.int .i64 a1_0, .int .i64 a1_1, .int .i64 a1_2, .int .i64 a1_3, .int .i64 a1_4] 59 ?_; intro a5 hg w29 hbox hb; have a3 := yaa (hbox); have a7 := yaa ((by rw [hg]; exact (below_size (by repeat (with_reducible first | exact HB.out | apply yac | apply yab | apply yad | refine yae ?_ (Aside0.out ‹_›)))) : w.heap.size ≤ a5)); replace HB := yaa (below_step (by repeat (with_reducible first | exact HB.out | apply yac | apply yab | apply yad | refine yae ?_ (Aside0.out ‹_›))) hb); have b0 := a7; have a0 := yaa ((by rw [hg]; exact Nat.ne_of_lt (blk_lt (upB a1.out)) : a4 ≠ a5)); replace a1 := yaa (blk_below (upB a1.out) hb); have a2 := yaa a0.out.symm; clear hb hbox hg; have p6 := a0.out; have p7 := a2.out; obtain ⟨j8, j9, k0, k1, k2⟩ := cc5_ a1.out; obtain ⟨k3, k4, k5, k6, k7⟩ := cf5_ a1.out; obtain ⟨k8, k9, l0, l1, l2⟩ := cc5_ a3.out; obtain ⟨l3, l4, l5, l6⟩ := cf4_ a3.out; have l7 := blk_frozen a3.out 4))
   go_ret
   exact ⟨by first | rfl | (simp [*, errW_none, errW_some] <;> rfl), by repeat (with_reducible first | exact HB.out | apply yac | apply yab | apply yad | refine yae ?_ (Aside0.out ‹_›))⟩
 ·
  rw [if_neg c3] at H
  have n8 := beq_eq_false_iff_ne.mpr c3; have n9 := bne_iff_ne.mpr c3; obtain rfl := Option.some.inj H
  go_enter Tryd.func42, Tryd.ntmps42
  go_wp2_with (first | ((with_reducible refine gd_ 2 rfl ?_); refine bx_ 2 rfl #[.int .i64 a0_0, .int .i64 a0_1, .int .i64 a0_2, .int .i64 a0_3, .int .i64 a0_4] 59 ?_; intro a4 hg w33 hbox hb; have a1 := yaa (hbox); have a6 := yaa ((by rw [hg]; exact (below_size (upH HB.out)) : w.heap.size ≤ a4)); replace HB := yaa (below_step (upH HB.out) hb); have a9 := a6; clear hb hbox hg) | ((with_reducible refine gd_ 3 rfl ?_); refine bx_ 3 rfl #[.int .i64 a1_0, .int .i64 a1_1, .int .i64 a1_2, .int .i64 a1_3, .int .i64 a1_4] 59 ?_; intro a5 hg w34 hbox hb; have a3 := yaa (hbox); have a7 := yaa ((by rw [hg]; exact (below_size (by repeat (with_reducible first | exact HB.out | apply yac | apply yab | apply yad | refine yae ?_ (Aside0.out ‹_›)))) : w.heap.size ≤ a5)); replace HB := yaa (below_step (by repeat (with_reducible first | exact HB.out | apply yac | apply yab | apply yad | refine yae ?_ (Aside0.out ‹_›))) hb); have b0 := a7; have a0 := yaa ((by rw [hg]; exact Nat.ne_of_lt (blk_lt (upB a1.out)) : a4 ≠ a5)); replace a1 := yaa (blk_below (upB a1.out) hb); have a2 := yaa a0.out.symm; clear hb hbox hg; have p8 := a0.out; have p9 := a2.out; obtain ⟨l8, l9, m0, m1, m2⟩ := cc5_ a1.out; obtain ⟨m3, m4, m5, m6, m7⟩ := cf5_ a1.out; obtain ⟨m8, m9, n0, n1, n2⟩ := cc5_ a3.out; obtain ⟨n3, n4, n5, n6⟩ := cf4_ a3.out; have n7 := blk_frozen a3.out 4))
  go_ret
  exact ⟨by first | rfl | (simp [*, errW_none, errW_some] <;> rfl), by repeat (with_reducible first | exact HB.out | apply yac | apply yab | apply yad | refine yae ?_ (Aside0.out ‹_›))⟩
end
section
open Go.Proofs.YtmbkhindhndccaaDoor.X renaming rd_T59 → yaa

abbrev q23_0 : Array Bool := Array.replicate 10 false
abbrev q23_1 : Array Bool := #[true, false, false, false, false, false, false, false, false, false]
abbrev q23_2 : Array Bool := #[true, true, false, false, false, false, false, false, false, false]
abbrev q23_3 : Array Bool := #[true, true, true, false, false, false, false, false, false, false]
abbrev q23_4 : Array Bool := #[true, true, true, false, true, false, false, false, false, false]
abbrev q23_5 : Array Bool := #[true, true, true, false, true, true, false, false, false, false]
abbrev q23_6 : Array Bool := #[true, true, true, false, true, true, true, false, false, false]
abbrev q23_7 : Array Bool := #[true, true, true, true, true, true, true, false, false, false]
abbrev q23_8 : Array Bool := #[true, true, true, true, true, true, true, true, false, false]
abbrev q23_9 : Array Bool := #[true, true, true, true, true, true, true, true, true, false]
abbrev q23_10 : Array Bool := #[true, true, true, true, true, true, true, true, true, true]
def laws_eqOpOpS.l0 : Nat → List (S59) → List (S59) → Int → Option (Bool)
 | 0, _, _, _ => none
 | k + 1, x0, x1, x5 => if x5 < (x0.length : Int) then (if 0 ≤ x5 then (if x5 < (x1.length : Int) then ((laws_eqOpOp.f ((rd_T59 x0 x5).f0) ((rd_T59 x0 x5).f1) ((rd_T59 x0 x5).f2) ((rd_T59 x0 x5).f3) ((rd_T59 x0 x5).f4) ((rd_T59 x1 x5).f0) ((rd_T59 x1 x5).f1) ((rd_T59 x1 x5).f2) ((rd_T59 x1 x5).f3) ((rd_T59 x1 x5).f4)).bind fun t103 => (if t103 = true then (laws_eqOpOpS.l0 k x0 x1 (wrap64 (x5 + 1))) else (some false))) else (none)) else (none)) else (some true)
def laws_eqOpOpS.f (k : Nat) (l0 : List (S59)) (l1 : List (S59)) : Option (Bool) := if (l0.length : Int) = (l1.length : Int) then (laws_eqOpOpS.l0 k l0 l1 0) else (some false)
def laws_eqOpOpS.T6 : Bool × List (List Nat × List Nat) := (true, [([], []), ([], []), ([0, 1], [0, 1]), ([2], [2]), ([], []), ([], []), ([4, 5], [4, 5]), ([6], [6]), ([3, 7], [3, 7]), ([8], [8])])
def laws_eqOpOpS.B6 : List Nat := [0, 0, 3, 7, 0, 0, 48, 112, 255, 511]
theorem laws_eqOpOpS.tab6 : rtab .any (opsOf Tryd.f23 6) = laws_eqOpOpS.T6 := by kernel_rfl
theorem laws_eqOpOpS.bits6 : waitsOk laws_eqOpOpS.T6.2 laws_eqOpOpS.B6 = true := by kernel_rfl
set_option maxHeartbeats 8000000 in
set_option maxRecDepth 100000 in
theorem laws_eqOpOpS.calls (k : Nat) (A0 : Option Addr) (c0 : Nat) (l0 : List (S59)) (A1 : Option Addr) (c1 : Nat) (l1 : List (S59)) (r : Bool) (w : World) (hr0 : Kd.C k59 w A0 l0.length l0) (hc0 : l0.length ≤ c0) (hr1 : Kd.C k59 w A1 l1.length l1) (hc1 : l1.length ≤ c1) (h : laws_eqOpOpS.f k l0 l1 = some r) :
  Calls Tryd.prog 23 #[.slice A0 l0.length c0, .slice A1 l1.length c1] w fun e w' => e = .returned (.bool r) ∧ Below w.heap.size w w' := by
 have hu59 := Tryd.underlying59; have HR0 := Aside0.mk hr0; have HC0 := Aside0.mk hc0; clear hr0 hc0; have HR1 := Aside0.mk hr1; have HC1 := Aside0.mk hc1; clear hr1 hc1; have HB := Aside0.mk (Below.refl w.heap.size w); have H : (if (l0.length : Int) = (l1.length : Int) then (laws_eqOpOpS.l0 k l0 l1 0) else (some false)) = some r := h; clear h
 by_cases c3 : (l0.length : Int) = (l1.length : Int)
 ·
  rw [if_pos c3] at H
  have d3 := beq_iff_eq.mpr c3; have d4 := bne_eq_false_iff_eq.mpr c3
  have d5 : (l0.length == l1.length) = true := by first | simpa using c3 | (simp at c3 ⊢; omega)
  clear c3; have H' := Aside0.mk H; clear H
  go_enter Tryd.func23, Tryd.ntmps23
  go_wp2
  (try simp only [Act.put, List.setIfInBounds_toArray, List.set_cons_zero, List.set_cons_succ])
  go_loopg [5] k (fun kq v5 w' => ∃ (a2 : Int), v5 = .int .i64 a2 ∧ Aside0 (laws_eqOpOpS.l0 kq l0 l1 a2 = some r) ∧ Aside0 (kq ≤ k) ∧ Aside0 (Below w.heap.size w w'))
  case atStart => exact ⟨(0), (by first | rfl | (simp; done) | (simp [*]; done)), H', ⟨Nat.le_refl _⟩, ⟨upH HB.out⟩⟩
  case round =>
   clear H'; (try clear c1); (try clear c2); (try clear p2); (try clear c3); (try clear d3); (try clear d4); (try clear d5); obtain ⟨a2, rfl, HA, HK1, HB⟩ := hrel
   cases gk with
   | zero => exact absurd HA.out (by simp [laws_eqOpOpS.l0])
   | succ k1 =>
    have H := HA.out; clear HA
    simp only [laws_eqOpOpS.l0] at H
    by_cases c4 : a2 < (l0.length : Int)
    ·
     rw [if_pos c4] at H
     have d6 : decide (a2 < (l0.length : Int)) = true := decide_eq_true c4; clear c4
     by_cases c5 : 0 ≤ a2
     ·
      rw [if_pos c5] at H
      replace c5 := decide_eq_true c5
      by_cases c6 : a2 < (l1.length : Int)
      ·
       rw [if_pos c6] at H
       replace c6 := decide_eq_true c6; obtain ⟨d7, A7, H⟩ := bindA H; (try dsimp only at H)
       by_cases c8 : d7 = true
       ·
        subst c8
        rw [if_pos rfl] at H
        have H' := Aside0.mk H; clear H
        try go_wp2
        replace HB := Aside0.mk (below_drew1 HB.out); have p101 : 0 ≤ (a2 : Int) := of_decide_eq_true (by assumption); have q101 : a2 < (l0.length : Int) := of_decide_eq_true (by assumption); obtain ⟨ad101, d1, a3, a4, a5, a6, a7⟩ := at_T59 HR0.out a2 p101 q101; have b3 := a7; have b4 := a6; have b5 := a5; have b6 := a4; have b7 := a3
        cases d1
        replace a3 := (upc_ HB.out a3 :); replace a4 := (upc_ HB.out a4 :); replace a5 := (upc_ HB.out a5 :); replace a6 := (upc_ HB.out a6 :); replace a7 := (upc_ HB.out a7 :); replace p101 := eq_true p101; replace q101 := eq_true q101; have p102 : 0 ≤ (a2 : Int) := of_decide_eq_true (by assumption); have q102 : a2 < (l1.length : Int) := of_decide_eq_true (by assumption); obtain ⟨ad102, d2, a8, a9, b0, b1, b2⟩ := at_T59 HR1.out a2 p102 q102; have b8 := b2; have b9 := b1; have c7 := b0; have c9 := a9; have d0 := a8
        cases d2
        replace a8 := (upc_ HB.out a8 :); replace a9 := (upc_ HB.out a9 :); replace b0 := (upc_ HB.out b0 :); replace b1 := (upc_ HB.out b1 :); replace b2 := (upc_ HB.out b2 :); replace p102 := eq_true p102; replace q102 := eq_true q102
        refine start_ (n := 10) (S := fun w' => w'.cell? (ad101.add ((a2).toNat * 5)) = some (.int .i64 ((yaa l0 a2).f0)) ∧ w'.cell? ⟨(ad101.add ((a2).toNat * 5)).block, (ad101.add ((a2).toNat * 5)).off + 1, none⟩ = some (.int .i64 ((yaa l0 a2).f1)) ∧ w'.cell? ⟨(ad101.add ((a2).toNat * 5)).block, (ad101.add ((a2).toNat * 5)).off + 2, none⟩ = some (.int .i64 ((yaa l0 a2).f2)) ∧ w'.cell? ⟨(ad101.add ((a2).toNat * 5)).block, (ad101.add ((a2).toNat * 5)).off + 3, none⟩ = some (.int .i64 ((yaa l0 a2).f3)) ∧ w'.cell? ⟨(ad101.add ((a2).toNat * 5)).block, (ad101.add ((a2).toNat * 5)).off + 4, none⟩ = some (.int .i64 ((yaa l0 a2).f4)) ∧ w'.cell? (ad102.add ((a2).toNat * 5)) = some (.int .i64 ((yaa l1 a2).f0)) ∧ w'.cell? ⟨(ad102.add ((a2).toNat * 5)).block, (ad102.add ((a2).toNat * 5)).off + 1, none⟩ = some (.int .i64 ((yaa l1 a2).f1)) ∧ w'.cell? ⟨(ad102.add ((a2).toNat * 5)).block, (ad102.add ((a2).toNat * 5)).off + 2, none⟩ = some (.int .i64 ((yaa l1 a2).f2)) ∧ w'.cell? ⟨(ad102.add ((a2).toNat * 5)).block, (ad102.add ((a2).toNat * 5)).off + 3, none⟩ = some (.int .i64 ((yaa l1 a2).f3)) ∧ w'.cell? ⟨(ad102.add ((a2).toNat * 5)).block, (ad102.add ((a2).toNat * 5)).off + 4, none⟩ = some (.int .i64 ((yaa l1 a2).f4))) (ds := []) q23_0 (by kernel_rfl) rfl rfl ⟨(upc_ HB.out b7 :), (upc_ HB.out b6 :), (upc_ HB.out b5 :), (upc_ HB.out b4 :), (upc_ HB.out b3 :), (upc_ HB.out d0 :), (upc_ HB.out c9 :), (upc_ HB.out c7 :), (upc_ HB.out b9 :), (upc_ HB.out b8 :)⟩ (fun hHeld => ?_); refine with_tabW laws_eqOpOpS.tab6 laws_eqOpOpS.bits6 (fun HT_ HW_ => ?_)
        generalize wr.drew = w9 at HB a3 a4 a5 a6 a7 a8 a9 b0 b1 b2 hHeld ⊢
        refine pz_ 0 17 q23_1 HT_ (by kernel_rfl) ?_
        refine pz_ 1 18 q23_2 HT_ (by kernel_rfl) ?_
        refine pz_ 2 19 q23_3 HT_ (by kernel_rfl) ?_
        refine pz_ 4 21 q23_4 HT_ (by kernel_rfl) ?_
        refine pz_ 5 22 q23_5 HT_ (by kernel_rfl) ?_
        refine pz_ 6 23 q23_6 HT_ (by kernel_rfl) ?_
        refine tz_ 3 20 q23_7 HT_ HW_ (by kernel_rfl) hHeld ?_
        refine tz_ 7 24 q23_8 HT_ HW_ (by kernel_rfl) hHeld ?_
        refine one_ (i := 8) (N := some 25) q23_9 rfl rfl (one_of HT_.out (by kernel_rfl)) (by decide) (fun K hK => ?_)
        refine goes_ Tryd.func42 (by kernel_rfl) rfl #[.agg #[.int .i64 ((yaa l0 a2).f0), .int .i64 ((yaa l0 a2).f1), .int .i64 ((yaa l0 a2).f2), .int .i64 ((yaa l0 a2).f3), .int .i64 ((yaa l0 a2).f4)], .agg #[.int .i64 ((yaa l1 a2).f0), .int .i64 ((yaa l1 a2).f1), .int .i64 ((yaa l1 a2).f2), .int .i64 ((yaa l1 a2).f3), .int .i64 ((yaa l1 a2).f4)]] (by rfl) rfl rfl (by (try simp only [List.map_toArray, List.map_cons, List.map_nil]); first | done | rfl | (simp only [List.length_drop, List.length_take]; rfl)) ?_
        with_reducible refine (laws_eqOpOp.calls ((yaa l0 a2).f0) ((yaa l0 a2).f1) ((yaa l0 a2).f2) ((yaa l0 a2).f3) ((yaa l0 a2).f4) ((yaa l1 a2).f0) ((yaa l1 a2).f1) ((yaa l1 a2).f2) ((yaa l1 a2).f3) ((yaa l1 a2).f4) true _ A7.out).mono ?_
        rintro e w10 ⟨rfl, hb⟩; refine ⟨_, rfl, ?_⟩; replace HB := Aside0.mk (below_step (upH HB.out) hb); (try clear hb); (try clear hb2); (try clear hk); (try clear hi)
        refine hK.out _ _ ⟨(upc_ HB.out b7 :), (upc_ HB.out b6 :), (upc_ HB.out b5 :), (upc_ HB.out b4 :), (upc_ HB.out b3 :), (upc_ HB.out d0 :), (upc_ HB.out c9 :), (upc_ HB.out c7 :), (upc_ HB.out b9 :), (upc_ HB.out b8 :)⟩ (fun hHeld => ?_)
        clear hK K
        refine norm_ (a' := ?_) ?_ ?_
        rotate_left
        ·
         show Act.put _ (some 25) _ = _
         simp only [Act.put, List.setIfInBounds_toArray, List.set_cons_zero, List.set_cons_succ, i64_w, i32_w]
         rfl
        refine pz_ 9 26 q23_10 HT_ (by kernel_rfl) ?_
        refine done_ (done_of HT_.out (by kernel_rfl)) ?_
        try go_wp2
        go_roundg k1
        case measure => have := HK1.out; omega
        case rel => exact ⟨(wrap64 (a2 + 1)), (by first | rfl | (simp; done) | (simp [*]; done)), H', ⟨by have := HK1.out; omega⟩, ⟨upH HB.out⟩⟩
       ·
        replace c8 := Bool.eq_false_iff.mpr c8
        subst c8
        rw [if_neg (show ¬ (false = true) by decide)] at H
        obtain rfl := Option.some.inj H
        try go_wp2
        replace HB := Aside0.mk (below_drew1 HB.out); have p101 : 0 ≤ (a2 : Int) := of_decide_eq_true (by assumption); have q101 : a2 < (l0.length : Int) := of_decide_eq_true (by assumption); obtain ⟨ad101, d1, a3, a4, a5, a6, a7⟩ := at_T59 HR0.out a2 p101 q101; have b3 := a7; have b4 := a6; have b5 := a5; have b6 := a4; have b7 := a3
        cases d1
        replace a3 := (upc_ HB.out a3 :); replace a4 := (upc_ HB.out a4 :); replace a5 := (upc_ HB.out a5 :); replace a6 := (upc_ HB.out a6 :); replace a7 := (upc_ HB.out a7 :); replace p101 := eq_true p101; replace q101 := eq_true q101; have p102 : 0 ≤ (a2 : Int) := of_decide_eq_true (by assumption); have q102 : a2 < (l1.length : Int) := of_decide_eq_true (by assumption); obtain ⟨ad102, d2, a8, a9, b0, b1, b2⟩ := at_T59 HR1.out a2 p102 q102; have b8 := b2; have b9 := b1; have c7 := b0; have c9 := a9; have d0 := a8
        cases d2
        replace a8 := (upc_ HB.out a8 :); replace a9 := (upc_ HB.out a9 :); replace b0 := (upc_ HB.out b0 :); replace b1 := (upc_ HB.out b1 :); replace b2 := (upc_ HB.out b2 :); replace p102 := eq_true p102; replace q102 := eq_true q102
        refine start_ (n := 10) (S := fun w' => w'.cell? (ad101.add ((a2).toNat * 5)) = some (.int .i64 ((yaa l0 a2).f0)) ∧ w'.cell? ⟨(ad101.add ((a2).toNat * 5)).block, (ad101.add ((a2).toNat * 5)).off + 1, none⟩ = some (.int .i64 ((yaa l0 a2).f1)) ∧ w'.cell? ⟨(ad101.add ((a2).toNat * 5)).block, (ad101.add ((a2).toNat * 5)).off + 2, none⟩ = some (.int .i64 ((yaa l0 a2).f2)) ∧ w'.cell? ⟨(ad101.add ((a2).toNat * 5)).block, (ad101.add ((a2).toNat * 5)).off + 3, none⟩ = some (.int .i64 ((yaa l0 a2).f3)) ∧ w'.cell? ⟨(ad101.add ((a2).toNat * 5)).block, (ad101.add ((a2).toNat * 5)).off + 4, none⟩ = some (.int .i64 ((yaa l0 a2).f4)) ∧ w'.cell? (ad102.add ((a2).toNat * 5)) = some (.int .i64 ((yaa l1 a2).f0)) ∧ w'.cell? ⟨(ad102.add ((a2).toNat * 5)).block, (ad102.add ((a2).toNat * 5)).off + 1, none⟩ = some (.int .i64 ((yaa l1 a2).f1)) ∧ w'.cell? ⟨(ad102.add ((a2).toNat * 5)).block, (ad102.add ((a2).toNat * 5)).off + 2, none⟩ = some (.int .i64 ((yaa l1 a2).f2)) ∧ w'.cell? ⟨(ad102.add ((a2).toNat * 5)).block, (ad102.add ((a2).toNat * 5)).off + 3, none⟩ = some (.int .i64 ((yaa l1 a2).f3)) ∧ w'.cell? ⟨(ad102.add ((a2).toNat * 5)).block, (ad102.add ((a2).toNat * 5)).off + 4, none⟩ = some (.int .i64 ((yaa l1 a2).f4))) (ds := []) q23_0 (by kernel_rfl) rfl rfl ⟨(upc_ HB.out b7 :), (upc_ HB.out b6 :), (upc_ HB.out b5 :), (upc_ HB.out b4 :), (upc_ HB.out b3 :), (upc_ HB.out d0 :), (upc_ HB.out c9 :), (upc_ HB.out c7 :), (upc_ HB.out b9 :), (upc_ HB.out b8 :)⟩ (fun hHeld => ?_); refine with_tabW laws_eqOpOpS.tab6 laws_eqOpOpS.bits6 (fun HT_ HW_ => ?_)
        generalize wr.drew = w11 at HB a3 a4 a5 a6 a7 a8 a9 b0 b1 b2 hHeld ⊢
        refine pz_ 0 17 q23_1 HT_ (by kernel_rfl) ?_
        refine pz_ 1 18 q23_2 HT_ (by kernel_rfl) ?_
        refine pz_ 2 19 q23_3 HT_ (by kernel_rfl) ?_
        refine pz_ 4 21 q23_4 HT_ (by kernel_rfl) ?_
        refine pz_ 5 22 q23_5 HT_ (by kernel_rfl) ?_
        refine pz_ 6 23 q23_6 HT_ (by kernel_rfl) ?_
        refine tz_ 3 20 q23_7 HT_ HW_ (by kernel_rfl) hHeld ?_
        refine tz_ 7 24 q23_8 HT_ HW_ (by kernel_rfl) hHeld ?_
        refine one_ (i := 8) (N := some 25) q23_9 rfl rfl (one_of HT_.out (by kernel_rfl)) (by decide) (fun K hK => ?_)
        refine goes_ Tryd.func42 (by kernel_rfl) rfl #[.agg #[.int .i64 ((yaa l0 a2).f0), .int .i64 ((yaa l0 a2).f1), .int .i64 ((yaa l0 a2).f2), .int .i64 ((yaa l0 a2).f3), .int .i64 ((yaa l0 a2).f4)], .agg #[.int .i64 ((yaa l1 a2).f0), .int .i64 ((yaa l1 a2).f1), .int .i64 ((yaa l1 a2).f2), .int .i64 ((yaa l1 a2).f3), .int .i64 ((yaa l1 a2).f4)]] (by rfl) rfl rfl (by (try simp only [List.map_toArray, List.map_cons, List.map_nil]); first | done | rfl | (simp only [List.length_drop, List.length_take]; rfl)) ?_
        with_reducible refine (laws_eqOpOp.calls ((yaa l0 a2).f0) ((yaa l0 a2).f1) ((yaa l0 a2).f2) ((yaa l0 a2).f3) ((yaa l0 a2).f4) ((yaa l1 a2).f0) ((yaa l1 a2).f1) ((yaa l1 a2).f2) ((yaa l1 a2).f3) ((yaa l1 a2).f4) false _ A7.out).mono ?_
        rintro e w12 ⟨rfl, hb⟩; refine ⟨_, rfl, ?_⟩; replace HB := Aside0.mk (below_step (upH HB.out) hb); (try clear hb); (try clear hb2); (try clear hk); (try clear hi)
        refine hK.out _ _ ⟨(upc_ HB.out b7 :), (upc_ HB.out b6 :), (upc_ HB.out b5 :), (upc_ HB.out b4 :), (upc_ HB.out b3 :), (upc_ HB.out d0 :), (upc_ HB.out c9 :), (upc_ HB.out c7 :), (upc_ HB.out b9 :), (upc_ HB.out b8 :)⟩ (fun hHeld => ?_)
        clear hK K
        refine norm_ (a' := ?_) ?_ ?_
        rotate_left
        ·
         show Act.put _ (some 25) _ = _
         simp only [Act.put, List.setIfInBounds_toArray, List.set_cons_zero, List.set_cons_succ, i64_w, i32_w]
         rfl
        refine pz_ 9 26 q23_10 HT_ (by kernel_rfl) ?_
        refine done_ (done_of HT_.out (by kernel_rfl)) ?_
        try go_wp2
        go_ret
        exact ⟨by first | rfl | (simp [*, errW_none, errW_some] <;> rfl), upH HB.out⟩
      ·
       rw [if_neg c6] at H
       exact absurd H (by simp)
     ·
      rw [if_neg c5] at H
      exact absurd H (by simp)
    ·
     rw [if_neg c4] at H
     have d6 : decide (a2 < (l0.length : Int)) = false := decide_eq_false c4; clear c4; obtain rfl := Option.some.inj H
     go_wp2
     go_ret
     exact ⟨by first | rfl | (simp [*, errW_none, errW_some] <;> rfl), upH HB.out⟩
 ·
  rw [if_neg c3] at H
  have d3 := beq_eq_false_iff_ne.mpr c3; have d4 := bne_iff_ne.mpr c3
  have d5 : (l0.length == l1.length) = false := by first | simpa using c3 | (simp at c3 ⊢; omega)
  obtain rfl := Option.some.inj H
  go_enter Tryd.func23, Tryd.ntmps23
  go_wp2
  go_ret
  exact ⟨by first | rfl | (simp [*, errW_none, errW_some] <;> rfl), upH HB.out⟩
end
section
open Go.Proofs.YtmbkhindhndccaaDoorW.PrintWords.Aside0 renaming mk → yaa
open Go.Proofs.YtmbkhindhndccaaDoorW.PrintWords renaming pw_below_drewN → yab, below_alloc → yac, below_drew1 → yad

def laws_eqUrlAsk.f (k : Nat) (l0_0 : List (S59)) (a0_1 : ByteArray) (a0_2 : Int) (l1_0 : List (S59)) (a1_1 : ByteArray) (a1_2 : Int) : Option (Bool) := (laws_eqOpOpS.f k l0_0 l1_0).bind fun t103 => (if t103 = true then (if a0_1.toList = a1_1.toList then (if a0_2 = a1_2 then (some true) else (some false)) else (some false)) else (some false))
set_option maxHeartbeats 8000000 in
set_option maxRecDepth 100000 in
theorem laws_eqUrlAsk.calls (k : Nat) (A0_0 : Option Addr) (c0_0 : Nat) (l0_0 : List (S59)) (a0_1 : ByteArray) (a0_2 : Int) (A1_0 : Option Addr) (c1_0 : Nat) (l1_0 : List (S59)) (a1_1 : ByteArray) (a1_2 : Int) (r : Bool) (w : World) (hr0_0 : Kd.C k59 w A0_0 l0_0.length l0_0) (hc0_0 : l0_0.length ≤ c0_0) (hr1_0 : Kd.C k59 w A1_0 l1_0.length l1_0) (hc1_0 : l1_0.length ≤ c1_0) (h : laws_eqUrlAsk.f k l0_0 a0_1 a0_2 l1_0 a1_1 a1_2 = some r) :
  Calls Tryd.prog 11 #[.agg #[.slice A0_0 l0_0.length c0_0, .string a0_1, .int .i64 a0_2], .agg #[.slice A1_0 l1_0.length c1_0, .string a1_1, .int .i64 a1_2]] w fun e w' => e = .returned (.bool r) ∧ Below w.heap.size w w' := by
 have hu31 := Tryd.underlying31; have HR0_0 := yaa hr0_0; have HC0_0 := yaa hc0_0; clear hr0_0 hc0_0; have HR1_0 := yaa hr1_0; have HC1_0 := yaa hc1_0; clear hr1_0 hc1_0; have HB := yaa (Below.refl w.heap.size w); have H : ((laws_eqOpOpS.f k l0_0 l1_0).bind fun b9 => (if b9 = true then (if a0_1.toList = a1_1.toList then (if a0_2 = a1_2 then (some true) else (some false)) else (some false)) else (some false))) = some r := h; clear h; obtain ⟨b9, A3, H⟩ := bindA H; (try dsimp only at H)
 by_cases c4 : b9 = true
 ·
  subst c4
  rw [if_pos rfl] at H
  by_cases c5 : a0_1.toList = a1_1.toList
  ·
   rw [if_pos c5] at H
   have k7 := beq_iff_eq.mpr c5; have k8 := bne_eq_false_iff_eq.mpr c5; clear c5
   by_cases c6 : a0_2 = a1_2
   ·
    rw [if_pos c6] at H
    have k9 := beq_iff_eq.mpr c6; have l0 := bne_eq_false_iff_eq.mpr c6; clear c6; obtain rfl := Option.some.inj H
    go_enter Tryd.func11, Tryd.ntmps11
    go_wp2_with (first | ((with_reducible refine gd_ 2 rfl ?_); refine bx_ 2 rfl #[.slice A0_0 l0_0.length c0_0, .string a0_1, .int .i64 a0_2] 31 ?_; intro b0 hg w7 hbox hb; have a6 := yaa (hbox); have b3 := yaa ((by rw [hg]; exact (below_size (upH HB.out)) : w.heap.size ≤ b0)); replace HB := yaa (below_step (upH HB.out) hb); have b7 := b3; clear hb hbox hg) | ((with_reducible refine gd_ 3 rfl ?_); refine bx_ 3 rfl #[.slice A1_0 l1_0.length c1_0, .string a1_1, .int .i64 a1_2] 31 ?_; intro b1 hg w8 hbox hb; have a7 := yaa (hbox); have b4 := yaa ((by rw [hg]; exact (below_size (by repeat (with_reducible first | exact HB.out | apply yac | apply yab | apply yad | refine below_set ?_ (Aside0.out ‹_›)))) : w.heap.size ≤ b1)); replace HB := yaa (below_step (by repeat (with_reducible first | exact HB.out | apply yac | apply yab | apply yad | refine below_set ?_ (Aside0.out ‹_›))) hb); have b8 := b4; have a8 := yaa ((by rw [hg]; exact Nat.ne_of_lt (blk_lt (upB a6.out)) : b0 ≠ b1)); replace a6 := yaa (blk_below (upB a6.out) hb); have a9 := yaa a8.out.symm; clear hb hbox hg; have l7 := a8.out; have l8 := a9.out; obtain ⟨c0, c1, c2⟩ := cc3_ a6.out; obtain ⟨c3, c7, c8⟩ := cf3_ a6.out; obtain ⟨c9, d0, d1⟩ := cc3_ a7.out; obtain ⟨d2, d3⟩ := cf2_ a7.out; have d4 := blk_frozen a7.out 2) | ((with_reducible refine gc_ 23 rfl ?_); refine gl_ (some 9) rfl Tryd.func23 #[.slice A0_0 l0_0.length c0_0, .slice A1_0 l1_0.length c1_0] ?_; (with_reducible refine (laws_eqOpOpS.calls k _ _ l0_0 _ _ l1_0 true _ ?side1 ?side2 ?side3 ?side4 A3.out).mono ?_); (case side1 => repeat (first | exact (Kd.C_below HR0_0.out HB.out) | (with_reducible refine Kd.C_alloc ?_ _) | (with_reducible refine Kd.C_drewN ?_ _) | (with_reducible refine Kd.C_drew ?_))); (case side2 => exact HC0_0.out); (case side3 => repeat (first | exact (Kd.C_below HR1_0.out HB.out) | (with_reducible refine Kd.C_alloc ?_ _) | (with_reducible refine Kd.C_drewN ?_ _) | (with_reducible refine Kd.C_drew ?_))); (case side4 => exact HC1_0.out); rintro e w12 ⟨rfl, hb⟩; refine ⟨_, rfl, ?_⟩; replace a6 := yaa (blk_below (upB a6.out) hb); replace a7 := yaa (blk_below (upB a7.out) hb); replace HB := yaa (below_step (by repeat (with_reducible first | exact HB.out | apply yac | apply yab | apply yad | refine below_set ?_ (Aside0.out ‹_›))) hb); (try clear hb); obtain ⟨d5, d6, d7⟩ := cc3_ a6.out; obtain ⟨d8, d9, e0⟩ := cf3_ a6.out; obtain ⟨e1, e2, e3⟩ := cc3_ a7.out; obtain ⟨e4, e5⟩ := cf2_ a7.out; have e6 := blk_frozen a7.out 2))
    go_ret
    exact ⟨by first | rfl | (simp [*, errW_none, errW_some] <;> rfl), by repeat (with_reducible first | exact HB.out | apply yac | apply yab | apply yad | refine below_set ?_ (Aside0.out ‹_›))⟩
   ·
    rw [if_neg c6] at H
    have k9 := beq_eq_false_iff_ne.mpr c6; have l0 := bne_iff_ne.mpr c6; obtain rfl := Option.some.inj H
    go_enter Tryd.func11, Tryd.ntmps11
    go_wp2_with (first | ((with_reducible refine gd_ 2 rfl ?_); refine bx_ 2 rfl #[.slice A0_0 l0_0.length c0_0, .string a0_1, .int .i64 a0_2] 31 ?_; intro b0 hg w15 hbox hb; have a6 := yaa (hbox); have b3 := yaa ((by rw [hg]; exact (below_size (upH HB.out)) : w.heap.size ≤ b0)); replace HB := yaa (below_step (upH HB.out) hb); have b7 := b3; clear hb hbox hg) | ((with_reducible refine gd_ 3 rfl ?_); refine bx_ 3 rfl #[.slice A1_0 l1_0.length c1_0, .string a1_1, .int .i64 a1_2] 31 ?_; intro b1 hg w16 hbox hb; have a7 := yaa (hbox); have b4 := yaa ((by rw [hg]; exact (below_size (by repeat (with_reducible first | exact HB.out | apply yac | apply yab | apply yad | refine below_set ?_ (Aside0.out ‹_›)))) : w.heap.size ≤ b1)); replace HB := yaa (below_step (by repeat (with_reducible first | exact HB.out | apply yac | apply yab | apply yad | refine below_set ?_ (Aside0.out ‹_›))) hb); have b8 := b4; have a8 := yaa ((by rw [hg]; exact Nat.ne_of_lt (blk_lt (upB a6.out)) : b0 ≠ b1)); replace a6 := yaa (blk_below (upB a6.out) hb); have a9 := yaa a8.out.symm; clear hb hbox hg; have l1 := a8.out; have l2 := a9.out; obtain ⟨e7, e8, e9⟩ := cc3_ a6.out; obtain ⟨f0, f1, f2⟩ := cf3_ a6.out; obtain ⟨f3, f4, f5⟩ := cc3_ a7.out; obtain ⟨f6, f7⟩ := cf2_ a7.out; have f8 := blk_frozen a7.out 2) | ((with_reducible refine gc_ 23 rfl ?_); refine gl_ (some 9) rfl Tryd.func23 #[.slice A0_0 l0_0.length c0_0, .slice A1_0 l1_0.length c1_0] ?_; (with_reducible refine (laws_eqOpOpS.calls k _ _ l0_0 _ _ l1_0 true _ ?side1 ?side2 ?side3 ?side4 A3.out).mono ?_); (case side1 => repeat (first | exact (Kd.C_below HR0_0.out HB.out) | (with_reducible refine Kd.C_alloc ?_ _) | (with_reducible refine Kd.C_drewN ?_ _) | (with_reducible refine Kd.C_drew ?_))); (case side2 => exact HC0_0.out); (case side3 => repeat (first | exact (Kd.C_below HR1_0.out HB.out) | (with_reducible refine Kd.C_alloc ?_ _) | (with_reducible refine Kd.C_drewN ?_ _) | (with_reducible refine Kd.C_drew ?_))); (case side4 => exact HC1_0.out); rintro e w20 ⟨rfl, hb⟩; refine ⟨_, rfl, ?_⟩; replace a6 := yaa (blk_below (upB a6.out) hb); replace a7 := yaa (blk_below (upB a7.out) hb); replace HB := yaa (below_step (by repeat (with_reducible first | exact HB.out | apply yac | apply yab | apply yad | refine below_set ?_ (Aside0.out ‹_›))) hb); (try clear hb); obtain ⟨f9, g0, g1⟩ := cc3_ a6.out; obtain ⟨g2, g3, g4⟩ := cf3_ a6.out; obtain ⟨g5, g6, g7⟩ := cc3_ a7.out; obtain ⟨g8, g9⟩ := cf2_ a7.out; have h0 := blk_frozen a7.out 2))
    go_ret
    exact ⟨by first | rfl | (simp [*, errW_none, errW_some] <;> rfl), by repeat (with_reducible first | exact HB.out | apply yac | apply yab | apply yad | refine below_set ?_ (Aside0.out ‹_›))⟩
  ·
   rw [if_neg c5] at H
   have k7 := beq_eq_false_iff_ne.mpr c5; have k8 := bne_iff_ne.mpr c5; obtain rfl := Option.some.inj H
   go_enter Tryd.func11, Tryd.ntmps11
   go_wp2_with (first | ((with_reducible refine gd_ 2 rfl ?_); refine bx_ 2 rfl #[.slice A0_0 l0_0.length c0_0, .string a0_1, .int .i64 a0_2] 31 ?_; intro b0 hg w23 hbox hb; have a6 := yaa (hbox); have b3 := yaa ((by rw [hg]; exact (below_size (upH HB.out)) : w.heap.size ≤ b0)); replace HB := yaa (below_step (upH HB.out) hb); have b7 := b3; clear hb hbox hg) | ((with_reducible refine gd_ 3 rfl ?_); refine bx_ 3 rfl #[.slice A1_0 l1_0.length c1_0, .string a1_1, .int .i64 a1_2] 31 ?_; intro b1 hg w24 hbox hb; have a7 := yaa (hbox); have b4 := yaa ((by rw [hg]; exact (below_size (by repeat (with_reducible first | exact HB.out | apply yac | apply yab | apply yad | refine below_set ?_ (Aside0.out ‹_›)))) : w.heap.size ≤ b1)); replace HB := yaa (below_step (by repeat (with_reducible first | exact HB.out | apply yac | apply yab | apply yad | refine below_set ?_ (Aside0.out ‹_›))) hb); have b8 := b4; have a8 := yaa ((by rw [hg]; exact Nat.ne_of_lt (blk_lt (upB a6.out)) : b0 ≠ b1)); replace a6 := yaa (blk_below (upB a6.out) hb); have a9 := yaa a8.out.symm; clear hb hbox hg; have l3 := a8.out; have l4 := a9.out; obtain ⟨h1, h2, h3⟩ := cc3_ a6.out; obtain ⟨h4, h5, h6⟩ := cf3_ a6.out; obtain ⟨h7, h8, h9⟩ := cc3_ a7.out; obtain ⟨i0, i1⟩ := cf2_ a7.out; have i2 := blk_frozen a7.out 2) | ((with_reducible refine gc_ 23 rfl ?_); refine gl_ (some 9) rfl Tryd.func23 #[.slice A0_0 l0_0.length c0_0, .slice A1_0 l1_0.length c1_0] ?_; (with_reducible refine (laws_eqOpOpS.calls k _ _ l0_0 _ _ l1_0 true _ ?side1 ?side2 ?side3 ?side4 A3.out).mono ?_); (case side1 => repeat (first | exact (Kd.C_below HR0_0.out HB.out) | (with_reducible refine Kd.C_alloc ?_ _) | (with_reducible refine Kd.C_drewN ?_ _) | (with_reducible refine Kd.C_drew ?_))); (case side2 => exact HC0_0.out); (case side3 => repeat (first | exact (Kd.C_below HR1_0.out HB.out) | (with_reducible refine Kd.C_alloc ?_ _) | (with_reducible refine Kd.C_drewN ?_ _) | (with_reducible refine Kd.C_drew ?_))); (case side4 => exact HC1_0.out); rintro e w28 ⟨rfl, hb⟩; refine ⟨_, rfl, ?_⟩; replace a6 := yaa (blk_below (upB a6.out) hb); replace a7 := yaa (blk_below (upB a7.out) hb); replace HB := yaa (below_step (by repeat (with_reducible first | exact HB.out | apply yac | apply yab | apply yad | refine below_set ?_ (Aside0.out ‹_›))) hb); (try clear hb); obtain ⟨i3, i4, i5⟩ := cc3_ a6.out; obtain ⟨i6, i7, i8⟩ := cf3_ a6.out; obtain ⟨i9, j0, j1⟩ := cc3_ a7.out; obtain ⟨j2, j3⟩ := cf2_ a7.out; have j4 := blk_frozen a7.out 2))
   go_ret
   exact ⟨by first | rfl | (simp [*, errW_none, errW_some] <;> rfl), by repeat (with_reducible first | exact HB.out | apply yac | apply yab | apply yad | refine below_set ?_ (Aside0.out ‹_›))⟩
 ·
  replace c4 := Bool.eq_false_iff.mpr c4
  subst c4
  rw [if_neg (show ¬ (false = true) by decide)] at H
  obtain rfl := Option.some.inj H
  go_enter Tryd.func11, Tryd.ntmps11
  go_wp2_with (first | ((with_reducible refine gd_ 2 rfl ?_); refine bx_ 2 rfl #[.slice A0_0 l0_0.length c0_0, .string a0_1, .int .i64 a0_2] 31 ?_; intro b0 hg w31 hbox hb; have a6 := yaa (hbox); have b3 := yaa ((by rw [hg]; exact (below_size (upH HB.out)) : w.heap.size ≤ b0)); replace HB := yaa (below_step (upH HB.out) hb); have b7 := b3; clear hb hbox hg) | ((with_reducible refine gd_ 3 rfl ?_); refine bx_ 3 rfl #[.slice A1_0 l1_0.length c1_0, .string a1_1, .int .i64 a1_2] 31 ?_; intro b1 hg w32 hbox hb; have a7 := yaa (hbox); have b4 := yaa ((by rw [hg]; exact (below_size (by repeat (with_reducible first | exact HB.out | apply yac | apply yab | apply yad | refine below_set ?_ (Aside0.out ‹_›)))) : w.heap.size ≤ b1)); replace HB := yaa (below_step (by repeat (with_reducible first | exact HB.out | apply yac | apply yab | apply yad | refine below_set ?_ (Aside0.out ‹_›))) hb); have b8 := b4; have a8 := yaa ((by rw [hg]; exact Nat.ne_of_lt (blk_lt (upB a6.out)) : b0 ≠ b1)); replace a6 := yaa (blk_below (upB a6.out) hb); have a9 := yaa a8.out.symm; clear hb hbox hg; have l5 := a8.out; have l6 := a9.out; obtain ⟨j5, j6, j7⟩ := cc3_ a6.out; obtain ⟨j8, j9, k0⟩ := cf3_ a6.out; obtain ⟨k1, k2, k3⟩ := cc3_ a7.out; obtain ⟨k4, k5⟩ := cf2_ a7.out; have k6 := blk_frozen a7.out 2) | ((with_reducible refine gc_ 23 rfl ?_); refine gl_ (some 9) rfl Tryd.func23 #[.slice A0_0 l0_0.length c0_0, .slice A1_0 l1_0.length c1_0] ?_; (with_reducible refine (laws_eqOpOpS.calls k _ _ l0_0 _ _ l1_0 false _ ?side1 ?side2 ?side3 ?side4 A3.out).mono ?_); (case side1 => repeat (first | exact (Kd.C_below HR0_0.out HB.out) | (with_reducible refine Kd.C_alloc ?_ _) | (with_reducible refine Kd.C_drewN ?_ _) | (with_reducible refine Kd.C_drew ?_))); (case side2 => exact HC0_0.out); (case side3 => repeat (first | exact (Kd.C_below HR1_0.out HB.out) | (with_reducible refine Kd.C_alloc ?_ _) | (with_reducible refine Kd.C_drewN ?_ _) | (with_reducible refine Kd.C_drew ?_))); (case side4 => exact HC1_0.out); rintro e w36 ⟨rfl, hb⟩; refine ⟨_, rfl, ?_⟩; replace a6 := yaa (blk_below (upB a6.out) hb); replace a7 := yaa (blk_below (upB a7.out) hb); replace HB := yaa (below_step (by repeat (with_reducible first | exact HB.out | apply yac | apply yab | apply yad | refine below_set ?_ (Aside0.out ‹_›))) hb); (try clear hb)))
  go_ret
  exact ⟨by first | rfl | (simp [*, errW_none, errW_some] <;> rfl), by repeat (with_reducible first | exact HB.out | apply yac | apply yab | apply yad | refine below_set ?_ (Aside0.out ‹_›))⟩
end
end Go.Proofs.YtmbkhindhndccaaDoor.X
namespace Go.Proofs.YtmbkhindhndccaaDoor.Opn
open Go.RowKit Go.Proofs.YtmbkhindhndccaaDoorW.PrintWords

/-- Every reading of type t is a reading of kind d, of a datum that is good. -/
def Opens (P : Program) (t : TypeId) {α : Type} (d : Kd α) (good : α → Prop) : Prop :=
  P.cellsOf t = d.sz ∧ ∀ (H : Type) (enc : TypeId × Value → H) (w : World) (n : Nat) (cs : List Value) (x : DataW H × List MemPlace),
    DataW.trod enc P w 0 (fun _ => true) true n t cs = some x → ∃ a : α, d.K w a cs ∧ good a

theorem opens_int {P : Program} {t : TypeId} {k : IntKind} (ht : P.underlying t = some (.int k)) (hc : P.cellsOf t = 1) :
    Opens P t (Kd.int k) (fun x => (Lit.int k x).wf = true) :=
  ⟨hc, fun H enc w n cs x h => by
    obtain ⟨m, rfl, _, hw⟩ := DataW.trod_int ht h
    exact ⟨m, rfl, hw⟩⟩

theorem opens_string {P : Program} {t : TypeId} (ht : P.underlying t = some .string) (hc : P.cellsOf t = 1) :
    Opens P t Kd.string (fun s => s.size ≤ maxLen) :=
  ⟨hc, fun H enc w n cs x h => by
    obtain ⟨m, rfl, _, hs⟩ := DataW.trod_string ht h
    exact ⟨m, rfl, hs⟩⟩

theorem list_of_get {α : Type} {n : Nat} {R : Nat → α → Prop} : (∀ i, i < n → ∃ a, R i a) → ∃ l : List α, l.length = n ∧ ∀ (i : Nat) (a : α), l[i]? = some a → R i a := by
  induction n with
  | zero => intro _; exact ⟨[], rfl, fun i a h => by simp at h⟩
  | succ n ih =>
    intro h
    obtain ⟨l, hl, hr⟩ := ih (fun i hi => h i (by omega))
    obtain ⟨a, ha⟩ := h n (by omega)
    refine ⟨l ++ [a], by simp [hl], fun i b hb => ?_⟩
    rcases Nat.lt_or_ge i n with hi | hi
    · rw [List.getElem?_append_left (by omega)] at hb
      exact hr i b hb
    · have : i = n := by
        have := (List.getElem?_eq_some_iff.1 hb).1
        simp at this
        omega
      subst this
      subst hl
      have : a = b := by simpa using hb
      subst this
      exact ha

theorem opens_slice {P : Program} {t e : TypeId} {α : Type} {d : Kd α} {good : α → Prop} (ht : P.underlying t = some (.slice e)) (hc : P.cellsOf t = 1) (he : Opens P e d good) :
    Opens P t (Kd.slice e d) (fun l => l.length ≤ maxLen ∧ ∀ a ∈ l, good a) :=
  ⟨hc, fun H enc w n cs x h => by
    rcases DataW.trod_slice ht h with ⟨rfl, _⟩ | ⟨a, len, cap, elems, rest, m, _, rfl, _, _, hlc, hcm, hel, hget, _, _⟩
    · exact ⟨[], ⟨none, 0, rfl, Nat.le_refl _, rfl, by simp, fun h => by simp at h⟩, by simp, by simp⟩
    · have each : ∀ i, i < len → ∃ y : α, good y ∧ ∃ c : List Value, c.length = d.sz ∧ d.K w y c ∧ ∀ j u, c[j]? = some u → w.cell? (a.add (i * d.sz + j)) = some u := by
        intro i hi
        have hg := hget i hi
        rw [List.getElem?_eq_getElem (by omega), he.1] at hg
        obtain ⟨c, hcs, htr⟩ := Option.bind_eq_some_iff.1 hg
        obtain ⟨_, hcl, hcell⟩ := World.cells?_some hcs
        obtain ⟨y, hK, hgood⟩ := he.2 H enc w m c _ htr
        refine ⟨y, hgood, c, hcl, hK, fun j u hu => ?_⟩
        have hj : j < d.sz := by
          have := (List.getElem?_eq_some_iff.1 hu).1
          omega
        rw [← Addr.add_add, hcell j hj, hu]
      obtain ⟨l, hl, hr⟩ := list_of_get each
      refine ⟨l, ⟨some a, cap, ?_, by omega, rfl, ?_, fun _ => ⟨a, rfl, fun j p hj => (hr j p hj).2⟩⟩, by omega, fun y hy => ?_⟩
      · rw [hl]
      · have : maxLen = 9223372036854775807 := rfl
        omega
      · obtain ⟨i, hi⟩ := List.getElem?_of_mem hy
        exact (hr i y hi).1⟩

/-- The fields from offset 'off' on. -/
def OpensF (P : Program) (fs : List Field) (off : Nat) {α : Type} (d : Kd α) (good : α → Prop) : Prop :=
  ∀ (H : Type) (enc : TypeId × Value → H) (w : World) (n : Nat) (cs : List Value), cs.length = off + d.sz →
    (∀ f ∈ fs, ∃ x, DataW.trod enc P w 0 (fun _ => true) true n f.type ((cs.drop f.offset).take (P.cellsOf f.type)) = some x) →
    ∃ a : α, d.K w a (cs.drop off) ∧ good a

theorem opensF_one {P : Program} {f : Field} {off : Nat} {α : Type} {d : Kd α} {good : α → Prop} (ho : f.offset = off) (h : Opens P f.type d good) : OpensF P [f] off d good := by
  intro H enc w n cs hl hx
  obtain ⟨x, hx⟩ := hx f (by simp)
  obtain ⟨a, hK, hg⟩ := h.2 H enc w n _ x hx
  rw [ho, h.1, List.take_of_length_le (by rw [List.length_drop]; omega)] at hK
  exact ⟨a, hK, hg⟩

theorem opensF_cons {P : Program} {f : Field} {fs : List Field} {off : Nat} {α β : Type} {d : Kd α} {d2 : Kd β} {good : α → Prop} {good2 : β → Prop} (ho : f.offset = off) (h : Opens P f.type d good) (h2 : OpensF P fs (off + d.sz) d2 good2) :
    OpensF P (f :: fs) off (Kd.pair d d2) (fun x => good x.1 ∧ good2 x.2) := by
  intro H enc w n cs hl hx
  have hs : (Kd.pair d d2).sz = d.sz + d2.sz := rfl
  obtain ⟨x, hx0⟩ := hx f (by simp)
  obtain ⟨a, hK, hg⟩ := h.2 H enc w n _ x hx0
  obtain ⟨b, hK2, hg2⟩ := h2 H enc w n cs (by omega) (fun f' hf' => hx f' (by simp [hf']))
  rw [ho, h.1] at hK
  refine ⟨(a, b), ⟨_, _, ?_, hK, hK2⟩, hg, hg2⟩
  rw [← List.drop_drop, List.take_append_drop]

theorem opens_struct {P : Program} {t : TypeId} {fs : Array Field} {α : Type} {d : Kd α} {good : α → Prop} (ht : P.underlying t = some (.struct fs)) (hc : P.cellsOf t = d.sz) (h : OpensF P fs.toList 0 d good) : Opens P t d good :=
  ⟨hc, fun H enc w n cs x hx => by
    obtain ⟨xs, m, _, _, hl, hxl, hget⟩ := DataW.trod_struct ht hx
    have := h H enc w m cs (by omega) (fun f hf => by
      obtain ⟨i, hi⟩ := List.getElem?_of_mem hf
      have hi' : fs[i]? = some f := by simpa using hi
      have hlt : i < xs.length := by
        have := (List.getElem?_eq_some_iff.1 hi).1
        simp at this
        omega
      exact ⟨xs[i], by rw [hget i f hi', List.getElem?_eq_getElem hlt]⟩)
    simpa using this⟩

theorem opens_iso {P : Program} {t : TypeId} {α β : Type} {d : Kd α} {good : α → Prop} {f : β → α} (g : α → β) (hfg : ∀ a, f (g a) = a) (h : Opens P t d good) : Opens P t (Kd.iso d f) (fun x => good (f x)) :=
  ⟨h.1, fun H enc w n cs x hx => by
    obtain ⟨a, hK, hg⟩ := h.2 H enc w n cs x hx
    exact ⟨g a, by show d.K w (f (g a)) cs; rw [hfg]; exact hK, by show good (f (g a)); rw [hfg]; exact hg⟩⟩

/-- A weaker word on what is good. -/
theorem Opens.imp {P : Program} {t : TypeId} {α : Type} {d : Kd α} {good good2 : α → Prop} (h : Opens P t d good) (hi : ∀ a, good a → good2 a) : Opens P t d good2 :=
  ⟨h.1, fun H enc w n cs x hx => by
    obtain ⟨a, hK, hg⟩ := h.2 H enc w n cs x hx
    exact ⟨a, hK, hi a hg⟩⟩

theorem Opens.of_trod {P : Program} {t : TypeId} {α : Type} {d : Kd α} {good : α → Prop} (h : Opens P t d good) {H : Type} {enc : TypeId × Value → H} {w : World} {v : Value} {x : DataW H} {ps : List MemPlace}
    (ht : DataW.Trod enc P w 0 (fun _ => true) true t v x ps) : ∃ a : α, d.K w a v.cells.toList ∧ good a := by
  obtain ⟨n, hn⟩ := ht
  exact h.2 H enc w n _ _ hn

end Go.Proofs.YtmbkhindhndccaaDoor.Opn
namespace Go.Proofs.YtmbkhindhndccaaDoor.X
open Go.RowKit Go.Proofs.YtmbkhindhndccaaDoorW.PrintWords Go.Proofs.YtmbkhindhndccaaDoor.Opn
set_option linter.unusedVariables false
def g65 (x : S65) : Prop := (Lit.int .i64 x.f0).wf = true ∧ (Lit.int .i64 x.f1).wf = true ∧ (Lit.int .i64 x.f2).wf = true ∧ (Lit.int .i64 x.f3).wf = true ∧ (Lit.int .i64 x.f4).wf = true
set_option maxRecDepth 100000 in
theorem op65 : Opens Tryd.prog 65 k65 g65 :=
  opens_iso (d := (Kd.pair (Kd.int .i64) (Kd.pair (Kd.int .i64) (Kd.pair (Kd.int .i64) (Kd.pair (Kd.int .i64) (Kd.int .i64)))))) (fun p => ⟨p.1, p.2.1, p.2.2.1, p.2.2.2.1, p.2.2.2.2⟩) (fun _ => rfl) (good := fun p => (Lit.int .i64 p.1).wf = true ∧ (Lit.int .i64 p.2.1).wf = true ∧ (Lit.int .i64 p.2.2.1).wf = true ∧ (Lit.int .i64 p.2.2.2.1).wf = true ∧ (Lit.int .i64 p.2.2.2.2).wf = true) (opens_struct Tryd.underlying65 (by kernel_rfl) (opensF_cons rfl (opens_int Tryd.underlying3 (by kernel_rfl)) (opensF_cons rfl (opens_int Tryd.underlying3 (by kernel_rfl)) (opensF_cons rfl (opens_int Tryd.underlying3 (by kernel_rfl)) (opensF_cons rfl (opens_int Tryd.underlying3 (by kernel_rfl)) (opensF_one rfl (opens_int Tryd.underlying3 (by kernel_rfl))))))))
end Go.Proofs.YtmbkhindhndccaaDoor.X
