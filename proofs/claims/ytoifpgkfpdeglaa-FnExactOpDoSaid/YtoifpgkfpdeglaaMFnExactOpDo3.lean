/- Lemmas and contracts for the law FnExactOpDo, part 3: of the program's functions, and over data alone. No condition. -/
import Derived.Test.YtoifpgkfpdeglaaMFnExactOpDo2
namespace Go.Proofs.Ytoifpgkfpdeglaa.X
open Go.RowKit Go.Proofs.YtoifpgkfpdeglaaW.PrintWords Go.Proofs.YtoifpgkfpdeglaaW.PrintLast Go.Proofs.YtoifpgkfpdeglaaW.PrintMore
attribute [local go_sem] max2_int min2_int max_two min_two max_three min_three max_four min_four
set_option linter.unusedVariables false
set_option linter.unusedSimpArgs false

open Go.Proofs.YtoifpgkfpdeglaaW.PrintWords.Aside0 renaming mk → yaa
open Go.Proofs.YtoifpgkfpdeglaaW.PrintWords renaming pw_below_drewN → yab, blk_cell → yac, below_drew1 → yad, below_alloc → yae, blk_frozen → yaf

/-! ### spec_l5Flip: function 75 -/
abbrev q75_0 : Array Bool := #[false, false, false, false, false, false, false, false, false, false, false, false, false, false, false, false, false]
abbrev q75_1 : Array Bool := #[true, false, false, false, false, false, false, false, false, false, false, false, false, false, false, false, false]
abbrev q75_2 : Array Bool := #[true, false, true, false, false, false, false, false, false, false, false, false, false, false, false, false, false]
abbrev q75_3 : Array Bool := #[true, false, true, false, true, false, false, false, false, false, false, false, false, false, false, false, false]
abbrev q75_4 : Array Bool := #[true, false, true, false, true, true, false, false, false, false, false, false, false, false, false, false, false]
abbrev q75_5 : Array Bool := #[true, false, true, false, true, true, false, false, true, false, false, false, false, false, false, false, false]
abbrev q75_6 : Array Bool := #[true, false, true, false, true, true, false, false, true, true, false, false, false, false, false, false, false]
abbrev q75_7 : Array Bool := #[true, false, true, false, true, true, false, false, true, true, true, false, false, false, false, false, false]
abbrev q75_8 : Array Bool := #[true, true, true, false, true, true, false, false, true, true, true, false, false, false, false, false, false]
abbrev q75_9 : Array Bool := #[true, true, true, true, true, true, false, false, true, true, true, false, false, false, false, false, false]
abbrev q75_10 : Array Bool := #[true, true, true, true, true, true, true, false, true, true, true, false, false, false, false, false, false]
abbrev q75_11 : Array Bool := #[true, true, true, true, true, true, true, true, true, true, true, false, false, false, false, false, false]
abbrev q75_12 : Array Bool := #[true, true, true, true, true, true, true, true, true, true, true, true, false, false, false, false, false]
abbrev q75_13 : Array Bool := #[true, true, true, true, true, true, true, true, true, true, true, true, true, false, false, false, false]
abbrev q75_14 : Array Bool := #[true, true, true, true, true, true, true, true, true, true, true, true, true, true, false, false, false]
abbrev q75_15 : Array Bool := #[true, true, true, true, true, true, true, true, true, true, true, true, true, true, true, false, false]
abbrev q75_16 : Array Bool := #[true, true, true, true, true, true, true, true, true, true, true, true, true, true, true, true, false]
abbrev q75_17 : Array Bool := #[true, true, true, true, true, true, true, true, true, true, true, true, true, true, true, true, true]
def spec_l5Flip.l0 : Nat → Int → Int → Int → List (S36) → Int → Int → List (S36) → Option (Int × Int × (List (S36)))
 | 0, _, _, _, _, _, _, _ => none
 | k + 1, x4, x102000, x102001, x102002, x104000, x104001, x104002 => if x4 ≥ 0 then (if 0 ≤ (wrap64 (x4 * x102000)) then (if (wrap64 (x4 * x102000)) ≤ (wrap64 ((wrap64 (x4 + 1)) * x102000)) then (if (wrap64 ((wrap64 (x4 + 1)) * x102000)) ≤ (x102002.length : Int) then ((some ((x102002.take ((wrap64 ((wrap64 (x4 + 1)) * x102000)) : Int).toNat).drop ((wrap64 (x4 * x102000)) : Int).toNat : List (S36))).bind fun y104 => (if x104002.length + y104.length < 4398046511104 then (spec_l5Flip.l0 k (wrap64 (x4 - 1)) x102000 x102001 x102002 x104000 x104001 (x104002 ++ y104)) else (none))) else (none)) else (none)) else (none)) else (some (x104000, x104001, x104002))
def spec_l5Flip.f (k : Nat) (a0_0 : Int) (a0_1 : Int) (l0_2 : List (S36)) : Option (Int × Int × (List (S36))) := spec_l5Flip.l0 k (wrap64 (a0_1 - 1)) a0_0 a0_1 l0_2 a0_0 a0_1 ([] : List (S36))
def spec_l5Flip.T5 : Bool × List (List Nat × List Nat) := (true, [([], []), ([0], [0]), ([], []), ([2], [2]), ([], []), ([], []), ([5], [5]), ([4, 6], [4, 6]), ([], []), ([8], [8]), ([], []), ([10], [10]), ([9, 11], [9, 11]), ([3, 7, 12], [3, 7, 12]), ([1, 13], [1, 13]), ([0, 1, 2, 3, 4, 5, 6, 7, 8, 9, 10, 11, 12, 13, 14], []), ([15, 14, 14, 0, 1, 2, 3, 4, 5, 6, 7, 8, 9, 10, 11, 12, 13, 14], [14, 15])])
def spec_l5Flip.B5 : List Nat := [0, 1, 0, 4, 0, 0, 32, 112, 0, 256, 0, 1024, 3840, 8188, 16383, 32767, 65535]
theorem spec_l5Flip.tab5 : rtab .any (opsOf Try.f75 5) = spec_l5Flip.T5 := by kernel_rfl
theorem spec_l5Flip.bits5 : waitsOk spec_l5Flip.T5.2 spec_l5Flip.B5 = true := by kernel_rfl
set_option maxHeartbeats 8000000 in
set_option maxRecDepth 100000 in
theorem spec_l5Flip.calls (k : Nat) (a0_0 : Int) (a0_1 : Int) (A0_2 : Option Addr) (c0_2 : Nat) (l0_2 : List (S36)) (r1 : Int) (r2 : Int) (r3 : List (S36)) (w : World) (hr0_2 : Kd.C k36 w A0_2 l0_2.length l0_2) (hc0_2 : l0_2.length ≤ c0_2) (h : spec_l5Flip.f k a0_0 a0_1 l0_2 = some (r1, r2, r3)) :
  Calls Try.prog 75 #[.agg #[.int .i64 a0_0, .int .i64 a0_1, .slice A0_2 l0_2.length c0_2]] w fun e w' => ∃ v2_ : Value, e = .returned (.agg #[.int .i64 r1, .int .i64 r2, v2_]) ∧ Kd.R k36 36 w' w.heap.size (fun _ => True) v2_ r3 ∧ Below w.heap.size w w' := by
 have hu25 := Try.underlying25
 have HR0_2 := yaa hr0_2
 have HC0_2 := yaa hc0_2
 clear hr0_2 hc0_2
 have HB := yaa (Below.refl w.heap.size w)
 have H : (spec_l5Flip.l0 k (wrap64 (a0_1 - 1)) a0_0 a0_1 l0_2 a0_0 a0_1 ([] : List (S36))) = some (r1, r2, r3) := h
 clear h
 have H' := yaa H
 clear H
 go_enter Try.func75, Try.ntmps75
 go_wp2_with (first | ((with_reducible refine gate_dst (N := 1) rfl ?_); refine box_event ?hg (N := 1) ?hd (cs := #[.int .i64 a0_0, .int .i64 a0_1, .slice A0_2 l0_2.length c0_2]) (t := 25) ?hr ?_; (case hd => rfl); (case hg => rfl); (case hr => first | (go_simp; done) | (go_simp; rfl)); intro a8 hg w2 hbox hb; have n0_ := yaa (below_step (by repeat (first | (with_reducible first | exact HB.out | apply yae | apply yab | apply yad) | exact HB.out)) hb); have n1_ := yaa (hbox); have n2_ := yaa ((by rw [hg]; exact (below_size (by repeat (first | (with_reducible first | exact HB.out | apply yae | apply yab | apply yad) | exact HB.out))) : w.heap.size ≤ a8)); have n3_ := yaa ((by rw [hg]; exact (below_size (by repeat (first | (with_reducible first | exact HB.out | apply yae | apply yab | apply yad) | exact HB.out))) : w.heap.size ≤ a8)); clear HB; have HB := n0_; have a3 := n1_; have g5 := n2_; have g6 := n3_; clear n0_ n1_ n2_ n3_; clear hb hbox hg) | ((with_reducible refine gate_dst (N := 2) rfl ?_); refine box_event ?hg (N := 2) ?hd (cs := #[.int .i64 0, .int .i64 0, .slice none 0 0]) (t := 25) ?hr ?_; (case hd => rfl); (case hg => rfl); (case hr => first | (go_simp; done) | (go_simp; rfl)); intro b0 hg w3 hbox hb; have n0_ := yaa (blk_below (g := a8) (o := .cells #[.int .i64 a0_0, .int .i64 a0_1, .slice A0_2 l0_2.length c0_2] 25 (0, 0)) (upB a3.out) hb); have n1_ := yaa (below_step (by repeat (first | (with_reducible first | exact HB.out | apply yae | apply yab | apply yad | refine below_set ?_ (Aside0.out ‹_›)) | exact HB.out)) hb); have n2_ := yaa (hbox); have n3_ := yaa ((by rw [hg]; exact (below_size (by repeat (first | (with_reducible first | exact HB.out | apply yae | apply yab | apply yad | refine below_set ?_ (Aside0.out ‹_›)) | exact HB.out))) : w.heap.size ≤ b0)); have n4_ := yaa ((by rw [hg]; exact (below_size (by repeat (first | (with_reducible first | exact HB.out | apply yae | apply yab | apply yad | refine below_set ?_ (Aside0.out ‹_›)) | exact HB.out))) : w.heap.size ≤ b0)); have n5_ := yaa ((by rw [hg]; exact Nat.ne_of_lt (blk_lt (g := a8) (o := .cells #[.int .i64 a0_0, .int .i64 a0_1, .slice A0_2 l0_2.length c0_2] 25 (0, 0)) (upB a3.out)) : a8 ≠ b0)); have n6_ := yaa ((by rw [hg]; exact Nat.ne_of_gt (blk_lt (g := a8) (o := .cells #[.int .i64 a0_0, .int .i64 a0_1, .slice A0_2 l0_2.length c0_2] 25 (0, 0)) (upB a3.out)) : b0 ≠ a8)); clear a3; clear HB; have a3 := n0_; have HB := n1_; have a7 := n2_; have g7 := n3_; have g8 := n4_; have b6 := n5_; have b7 := n6_; clear n0_ n1_ n2_ n3_ n4_ n5_ n6_; clear hb hbox hg; have i4 := b6.out; have i5 := b7.out; have d0 : w3.cell? ⟨a8, 0, none⟩ = some (.int .i64 a0_0) := (yac a3.out 0).trans rfl; have d1 : w3.cell? ⟨a8, 1, none⟩ = some (.int .i64 a0_1) := (yac a3.out 1).trans rfl; have d2 : w3.cell? ⟨a8, 2, none⟩ = some (.slice A0_2 l0_2.length c0_2) := (yac a3.out 2).trans rfl; have d3 := yaf a3.out 0; have d4 := yaf a3.out 1; have d5 := yaf a3.out 2) | ((with_reducible refine gate_dst (N := 3) rfl ?_); refine box_event ?hg (N := 3) ?hd (cs := #[.int .i64 0, .int .i64 0, .slice none 0 0]) (t := 25) ?hr ?_; (case hd => rfl); (case hg => rfl); (case hr => first | (go_simp; done) | (go_simp; rfl)); intro a9 hg w6 hbox hb; have n0_ := yaa (blk_below (g := a8) (o := .cells #[.int .i64 a0_0, .int .i64 a0_1, .slice A0_2 l0_2.length c0_2] 25 (0, 0)) (upB a3.out) hb); have n1_ := yaa (blk_below (g := b0) (o := .cells #[.int .i64 0, .int .i64 0, .slice none 0 0] 25 (0, 0)) (upB a7.out) hb); have n2_ := yaa (below_step (by repeat (first | (with_reducible first | exact HB.out | apply yae | apply yab | apply yad | refine below_set ?_ (Aside0.out ‹_›)) | exact HB.out)) hb); have n3_ := yaa (hbox); have n4_ := yaa ((by rw [hg]; exact (below_size (by repeat (first | (with_reducible first | exact HB.out | apply yae | apply yab | apply yad | refine below_set ?_ (Aside0.out ‹_›)) | exact HB.out))) : w.heap.size ≤ a9)); have n5_ := yaa ((by rw [hg]; exact (below_size (by repeat (first | (with_reducible first | exact HB.out | apply yae | apply yab | apply yad | refine below_set ?_ (Aside0.out ‹_›)) | exact HB.out))) : w.heap.size ≤ a9)); have n6_ := yaa ((by rw [hg]; exact Nat.ne_of_lt (blk_lt (g := a8) (o := .cells #[.int .i64 a0_0, .int .i64 a0_1, .slice A0_2 l0_2.length c0_2] 25 (0, 0)) (upB a3.out)) : a8 ≠ a9)); have n7_ := yaa ((by rw [hg]; exact Nat.ne_of_gt (blk_lt (g := a8) (o := .cells #[.int .i64 a0_0, .int .i64 a0_1, .slice A0_2 l0_2.length c0_2] 25 (0, 0)) (upB a3.out)) : a9 ≠ a8)); have n8_ := yaa ((by rw [hg]; exact Nat.ne_of_lt (blk_lt (g := b0) (o := .cells #[.int .i64 0, .int .i64 0, .slice none 0 0] 25 (0, 0)) (upB a7.out)) : b0 ≠ a9)); have n9_ := yaa ((by rw [hg]; exact Nat.ne_of_gt (blk_lt (g := b0) (o := .cells #[.int .i64 0, .int .i64 0, .slice none 0 0] 25 (0, 0)) (upB a7.out)) : a9 ≠ b0)); clear a3; clear a7; clear HB; have a3 := n0_; have a7 := n1_; have HB := n2_; have a4 := n3_; have g9 := n4_; have h0 := n5_; have b1 := n6_; have b4 := n7_; have b2 := n8_; have b5 := n9_; clear n0_ n1_ n2_ n3_ n4_ n5_ n6_ n7_ n8_ n9_; clear hb hbox hg; have i6 := b4.out; have i7 := b1.out; have i8 := b5.out; have i9 := b2.out; have d6 : w6.cell? ⟨a9, 0, none⟩ = some (.int .i64 0) := (yac a4.out 0).trans rfl; have d7 : w6.cell? ⟨a9, 1, none⟩ = some (.int .i64 0) := (yac a4.out 1).trans rfl; have d8 : w6.cell? ⟨a9, 2, none⟩ = some (.slice none 0 0) := (yac a4.out 2).trans rfl; have d9 := yaf a4.out 0; have e0 := yaf a4.out 1; have e1 := yaf a4.out 2; have b8 : w6.cell? ⟨a8, 0, none⟩ = some (.int .i64 a0_0) := (yac a3.out 0).trans rfl; have b9 : w6.cell? ⟨a8, 1, none⟩ = some (.int .i64 a0_1) := (yac a3.out 1).trans rfl; have c0 : w6.cell? ⟨a8, 2, none⟩ = some (.slice A0_2 l0_2.length c0_2) := (yac a3.out 2).trans rfl; have c2 := yaf a3.out 0; have c3 := yaf a3.out 1; have c5 := yaf a3.out 2))
 (try simp only [Act.put, List.setIfInBounds_toArray, List.set_cons_zero, List.set_cons_succ])
 go_loopg [4] k (fun kq v4 w' => ∃ (b3 : Int) (a5 : List (S36)) (u104002 : Value), v4 = .int .i64 b3 ∧ Aside0 (spec_l5Flip.l0 kq b3 a0_0 a0_1 l0_2 a0_0 a0_1 a5 = some (r1, r2, r3)) ∧ Aside0 (kq ≤ k) ∧ Aside0 (Kd.R k36 36 w' w.heap.size (fun _ => True) u104002 a5) ∧ Aside0 (w'.heap[a8]? = some (.cells #[.int .i64 a0_0, .int .i64 a0_1, (.slice A0_2 l0_2.length c0_2)] 25 (0, 0))) ∧ Aside0 (w'.heap[b0]? = some (.cells #[.int .i64 0, .int .i64 0, (.slice none 0 0)] 25 (0, 0))) ∧ Aside0 (w'.heap[a9]? = some (.cells #[.int .i64 a0_0, .int .i64 a0_1, u104002] 25 (0, 0))) ∧ Aside0 (Below w.heap.size w w'))
 case atStart => exact ⟨(wrap64 (a0_1 - 1)), (([] : List (S36))), (.slice none 0 0), (by first | rfl | (simp; done) | (simp [*]; done)), H', ⟨Nat.le_refl _⟩, ⟨by first | exact Kd.R_nil _ _ _ _ _ | exact Kd.N_nil _ _ _ _ _ | exact Kd.V_nil _ _ _ _ _ | exact Kd.Q_nil _ _ _ _ _ | exact Kd.S_nil _ _ _ _ _⟩, ⟨by (with_reducible repeat (first | refine blk_drewN ?_ _ | refine blk_drew ?_ | refine blk_alloc ?_ _)); refine blk_far ?_ b1.out _; (with_reducible repeat (first | refine blk_drewN ?_ _ | refine blk_drew ?_ | refine blk_alloc ?_ _)); refine blk_far ?_ b1.out _; (with_reducible repeat (first | refine blk_drewN ?_ _ | refine blk_drew ?_ | refine blk_alloc ?_ _)); refine blk_far ?_ b1.out _; exact upB a3.out⟩, ⟨by (with_reducible repeat (first | refine blk_drewN ?_ _ | refine blk_drew ?_ | refine blk_alloc ?_ _)); refine blk_far ?_ b2.out _; (with_reducible repeat (first | refine blk_drewN ?_ _ | refine blk_drew ?_ | refine blk_alloc ?_ _)); refine blk_far ?_ b2.out _; (with_reducible repeat (first | refine blk_drewN ?_ _ | refine blk_drew ?_ | refine blk_alloc ?_ _)); refine blk_far ?_ b2.out _; exact upB a7.out⟩, ⟨by (with_reducible repeat (first | refine blk_drewN ?_ _ | refine blk_drew ?_ | refine blk_alloc ?_ _)); refine blk_put (cs := #[.int .i64 a0_0, .int .i64 a0_1, .slice none 0 0]) ?_ 2 _ rfl; (with_reducible repeat (first | refine blk_drewN ?_ _ | refine blk_drew ?_ | refine blk_alloc ?_ _)); refine blk_put (cs := #[.int .i64 a0_0, .int .i64 0, .slice none 0 0]) ?_ 1 _ rfl; (with_reducible repeat (first | refine blk_drewN ?_ _ | refine blk_drew ?_ | refine blk_alloc ?_ _)); refine blk_put (cs := #[.int .i64 0, .int .i64 0, .slice none 0 0]) ?_ 0 _ rfl; exact upB a4.out⟩, ⟨by repeat (first | (with_reducible first | exact HB.out | apply yae | apply yab | apply yad | refine below_set ?_ (Aside0.out ‹_›)) | exact HB.out)⟩⟩
 case round =>
  clear H'
  try clear p2
  try clear c4
  try clear p6
  try clear c7
  try clear c8
  try clear b8
  try clear b9
  try clear c0
  try clear d0
  try clear d1
  try clear d2
  try clear d6
  try clear d7
  try clear d8
  try clear c2
  try clear c3
  try clear c5
  try clear d3
  try clear d4
  try clear d5
  try clear d9
  try clear e0
  try clear e1
  obtain ⟨b3, a5, u104002, rfl, HA, HK1, a6, a3, a7, a4, HB⟩ := hrel
  cases gk with
  | zero => exact absurd HA.out (by simp [spec_l5Flip.l0])
  | succ k1 =>
   have H := HA.out
   clear HA
   simp only [spec_l5Flip.l0] at H
   by_cases c11 : b3 ≥ 0
   ·
    rw [if_pos c11] at H
    have e2 : decide (0 ≤ b3) = true := decide_eq_true c11
    clear c11
    obtain ⟨ji12, hji12⟩ : ∃ j_ : Int, (wrap64 (b3 * a0_0)) = j_ := ⟨_, rfl⟩
    replace H : (if 0 ≤ (ji12) then (if (ji12) ≤ (wrap64 ((wrap64 (b3 + 1)) * a0_0)) then (if (wrap64 ((wrap64 (b3 + 1)) * a0_0)) ≤ (l0_2.length : Int) then ((some ((l0_2.take ((wrap64 ((wrap64 (b3 + 1)) * a0_0)) : Int).toNat).drop ((ji12) : Int).toNat : List (S36))).bind fun y104 => (if a5.length + y104.length < 4398046511104 then (spec_l5Flip.l0 k1 (wrap64 (b3 - 1)) a0_0 a0_1 l0_2 a0_0 a0_1 (a5 ++ y104)) else (none))) else (none)) else (none)) else (none)) = some (r1, r2, r3) := by first | (rw [hji12] at H; exact H) | (simp only [hji12] at H ⊢; exact H)
    have hji12w : (IntKind.i64.wrap (b3 * a0_0)) = ji12 := (i64_w _).trans hji12
    by_cases c13 : 0 ≤ (ji12)
    ·
     rw [if_pos c13] at H
     have h1 := eq_true c13
     have h2 : decide (0 ≤ (ji12)) = true := decide_eq_true c13
     clear c13
     by_cases c14 : (ji12) ≤ (wrap64 ((wrap64 (b3 + 1)) * a0_0))
     ·
      rw [if_pos c14] at H
      have h3 := eq_true c14
      have h4 : decide ((ji12) ≤ (wrap64 ((wrap64 (b3 + 1)) * a0_0))) = true := decide_eq_true c14
      by_cases c15 : (wrap64 ((wrap64 (b3 + 1)) * a0_0)) ≤ (l0_2.length : Int)
      ·
       rw [if_pos c15] at H
       have h5 := eq_true c15
       have h6 : decide ((wrap64 ((wrap64 (b3 + 1)) * a0_0)) ≤ (l0_2.length : Int)) = true := decide_eq_true c15
       obtain ⟨y104, hy104⟩ : ∃ y_ : List (S36), y_ = ((l0_2.take ((wrap64 ((wrap64 (b3 + 1)) * a0_0)) : Int).toNat).drop ((ji12) : Int).toNat) := ⟨_, rfl⟩
       replace H : (if a5.length + y104.length < 4398046511104 then (spec_l5Flip.l0 k1 (wrap64 (b3 - 1)) a0_0 a0_1 l0_2 a0_0 a0_1 (a5 ++ y104)) else (none)) = some (r1, r2, r3) := by first | (rw [hy104]; with_reducible exact H) | (have H2_ := (Option.bind_some _ _).symm.trans H; rw [hy104]; with_reducible exact H2_) | (have H2_ := (Option.bind_some _ _).symm.trans H; with_reducible exact H2_) | with_reducible exact H | (rw [hy104]; exact H) | exact H
       have Ny104 := yaa hy104
       clear hy104
       by_cases c16 : a5.length + y104.length < 4398046511104
       ·
        rw [if_pos c16] at H
        have LMc16 := yaa c16
        clear c16
        obtain ⟨y108, hy108⟩ : ∃ y_ : List (S36), y_ = (a5 ++ y104) := ⟨_, rfl⟩
        replace H : (spec_l5Flip.l0 k1 (wrap64 (b3 - 1)) a0_0 a0_1 l0_2 a0_0 a0_1 y108) = some (r1, r2, r3) := by first | (rw [hy108]; with_reducible exact H) | (have H2_ := (Option.bind_some _ _).symm.trans H; rw [hy108]; with_reducible exact H2_) | (have H2_ := (Option.bind_some _ _).symm.trans H; with_reducible exact H2_) | with_reducible exact H | (rw [hy108]; exact H) | exact H
        have Ny108 := yaa hy108
        clear hy108
        have H' := yaa H
        clear H
        try go_wp2
        have n0_ := yaa (Kd.R_drew a6.out)
        have n1_ := yaa (blk_drew a3.out)
        have n2_ := yaa (blk_drew a7.out)
        have n3_ := yaa (blk_drew a4.out)
        have n4_ := yaa (yad HB.out)
        clear a6 a3 a7 a4 HB
        have a6 := n0_
        have a3 := n1_
        have a7 := n2_
        have a4 := n3_
        have HB := n4_
        clear n0_ n1_ n2_ n3_ n4_
        have q18 : ((wrap64 ((wrap64 (b3 + 1)) * a0_0)) : Int) ≤ ((l0_2.length : Int) : Int) := of_decide_eq_true (by first | (with_reducible assumption) | assumption)
        obtain ⟨i018, hi018, _, c6, _⟩ := info_parts info36
        have hroom18 : l0_2.length ≤ c0_2 := HC0_2.out
        have hC18 : Kd.C k36 _ A0_2 l0_2.length l0_2 := HR0_2.out
        have ql18 : ((ji12) : Int) ≤ ((wrap64 ((wrap64 (b3 + 1)) * a0_0)) : Int) := of_decide_eq_true (by first | (with_reducible assumption) | assumption)
        have q018 : (0 : Int) ≤ ((ji12) : Int) := of_decide_eq_true (by first | (with_reducible assumption) | assumption)
        have hcut18 := cut_mid (P := Try.prog) 23 36 .i64 .i64 Try.underlying23 hi018 4 c6 A0_2 l0_2.length c0_2 (ji12) (wrap64 ((wrap64 (b3 + 1)) * a0_0)) q018 ql18 q18 hroom18
        have hr18 := Kd.C_mid (lo := ((ji12) : Int).toNat) (hi := ((wrap64 ((wrap64 (b3 + 1)) * a0_0)) : Int).toNat) (c := c0_2) hC18 (by omega) (by omega) hroom18
        obtain ⟨A18, hA18⟩ : ∃ A1, A1 = (if c0_2 = ((ji12) : Int).toNat then A0_2 else (A0_2 : Option Addr).map (·.add (((ji12) : Int).toNat * 4))) := ⟨_, rfl⟩
        obtain ⟨c18, hc18⟩ : ∃ c1, c1 = c0_2 - ((ji12) : Int).toNat := ⟨_, rfl⟩
        have hy18 : y104.length = ((wrap64 ((wrap64 (b3 + 1)) * a0_0)) : Int).toNat - ((ji12) : Int).toNat := (by rw [Ny104.out, List.length_drop, List.length_take] <;> omega)
        rw [show ((l0_2).take ((wrap64 ((wrap64 (b3 + 1)) * a0_0)) : Int).toNat).drop ((ji12) : Int).toNat = y104 from Ny104.out.symm] at hr18
        replace hr18 : Kd.C k36 _ A18 y104.length y104 := (by rw [hA18]; exact hr18)
        rw [← hy18, ← hA18, ← hc18] at hcut18
        have HR107 := yaa hr18
        have HC107 := yaa (show y104.length ≤ c18 from by rw [hy18, hc18]; exact Nat.sub_le_sub_right (Nat.le_trans (by omega) hroom18) _)
        clear hr18 hC18 hroom18 hi018 c6 hc18
        have KY18 := yaa hy18
        have KA18 := yaa hA18
        clear hy18 hA18
        replace q18 := eq_true q18
        refine start_ (n := 17) (S := fun w' => w'.cell? ⟨a9, 0, none⟩ = some (.int .i64 a0_0) ∧ w'.cell? ⟨a9, 1, none⟩ = some (.int .i64 a0_1) ∧ w'.cell? ⟨a9, 2, none⟩ = some (u104002) ∧ w'.cell? ⟨a8, 0, none⟩ = some (.int .i64 a0_0) ∧ w'.cell? ⟨a8, 1, none⟩ = some (.int .i64 a0_1) ∧ w'.cell? ⟨a8, 2, none⟩ = some (.slice A0_2 l0_2.length c0_2)) (ds := [16]) q75_0 (by kernel_rfl) rfl rfl ⟨(yac a4.out 0).trans rfl, (yac a4.out 1).trans rfl, (yac a4.out 2).trans rfl, (yac a3.out 0).trans rfl, (yac a3.out 1).trans rfl, (yac a3.out 2).trans rfl⟩ (fun hHeld => ?_); refine with_tabW spec_l5Flip.tab5 spec_l5Flip.bits5 (fun HT_ HW_ => ?_)
        generalize wr.drew = w17 at a6 a3 a7 a4 HB HR107 hHeld ⊢
        refine pz_ 0 17 q75_1 HT_ (by kernel_rfl) ?_
        refine pz_ 2 19 q75_2 HT_ (by kernel_rfl) ?_
        refine pz_ 4 21 q75_3 HT_ (by kernel_rfl) ?_
        refine pz_ 5 22 q75_4 HT_ (by kernel_rfl) ?_
        refine pz_ 8 25 q75_5 HT_ (by kernel_rfl) ?_
        refine pz_ 9 26 q75_6 HT_ (by kernel_rfl) ?_
        refine pz_ 10 27 q75_7 HT_ (by kernel_rfl) ?_
        refine tz_ 1 18 q75_8 HT_ HW_ (by kernel_rfl) hHeld ?_
        refine tz_ 3 20 q75_9 HT_ HW_ (by kernel_rfl) hHeld ?_
        refine tz_ 6 23 q75_10 HT_ HW_ (by kernel_rfl) hHeld ?_
        refine pz_ 7 24 q75_11 HT_ (by kernel_rfl) ?_
        refine tz_ 11 28 q75_12 HT_ HW_ (by kernel_rfl) hHeld ?_
        refine pz_ 12 29 q75_13 HT_ (by kernel_rfl) ?_
        refine pz_ 13 30 q75_14 HT_ (by kernel_rfl) ?_
        refine one_ (i := 14) (N := some 31) q75_15 rfl rfl (one_of HT_.out (by kernel_rfl)) (by decide) (fun K hK => ?_)
        refine Kd.R_append_rows_step k36 (w0 := w) w.heap.size (by rfl) (.tmp 18) (.tmp 30) 23 36 (.agg #[(.int .i64 0), (.int .i64 0), (.int .i64 0), (.int .i64 0)]) 32 rfl Try.underlying23 info36 rfl (by decide) (by omega) u104002 a5 y104 _ _ _ (fun _ => True) (fun _ => False) rfl rfl ?aO ?aR (fun _ _ h => h) (fun _ h => h.elim) ?aF ?aB ?aS ?aL ?_
        (case aR => repeat (first | exact (Kd.C_below HR107.out HB.out) | (with_reducible refine Kd.C_alloc ?_ _) | (with_reducible refine Kd.C_drewN ?_ _) | (with_reducible refine Kd.C_drew ?_)))
        (case aB => exact (by repeat (first | (with_reducible first | exact HB.out | apply yae | apply yab | apply yad | refine below_set ?_ (Aside0.out ‹_›)) | exact HB.out)))
        (case aF => exact (fun _ _ => trivial))
        (case aO => exact (upR a6.out))
        (case aS => exact (below_size (by repeat (first | (with_reducible first | exact HB.out | apply yae | apply yab | apply yad | refine below_set ?_ (Aside0.out ‹_›)) | exact HB.out))))
        (case aL => have := LMc16.out; omega)
        intro j0 w19 ho hb hg hat
        rw [← Ny108.out] at ho
        have n0_ := yaa (blk_grown (g := a8) (o := .cells #[.int .i64 a0_0, .int .i64 a0_1, .slice A0_2 l0_2.length c0_2] 25 (0, 0)) (upB a3.out) hg (Kd.R_ne a6.out a3.out (by decide)))
        have n1_ := yaa (blk_grown (g := b0) (o := .cells #[.int .i64 0, .int .i64 0, .slice none 0 0] 25 (0, 0)) (upB a7.out) hg (Kd.R_ne a6.out a7.out (by decide)))
        have n2_ := yaa (blk_grown (g := a9) (o := .cells #[.int .i64 a0_0, .int .i64 a0_1, u104002] 25 (0, 0)) (upB a4.out) hg (Kd.R_ne a6.out a4.out (by decide)))
        have n3_ := yaa (hb)
        have n4_ := yaa (ho)
        clear a3 a7 a4 HB a6
        have a3 := n0_
        have a7 := n1_
        have a4 := n2_
        have HB := n3_
        have c9 := n4_
        clear n0_ n1_ n2_ n3_ n4_ ho hb hg hat
        obtain ⟨e3, e4, e5⟩ := Kd.R_slice c9.out
        (first | subst e5 | (injection e5 with f1_ f2_ f3_; have f4_ := f1_.symm; have f5_ := f3_.symm; clear f1_ f2_ f3_; subst f4_; subst f5_))
        refine hK.out _ _ ⟨(yac a4.out 0).trans rfl, (yac a4.out 1).trans rfl, (yac a4.out 2).trans rfl, (yac a3.out 0).trans rfl, (yac a3.out 1).trans rfl, (yac a3.out 2).trans rfl⟩ (fun hHeld => ?_)
        clear hK K
        refine norm_ (a' := ?_) ?_ ?_
        rotate_left
        ·
         show Act.put _ (some 31) _ = _
         simp only [Act.put, List.setIfInBounds_toArray, List.set_cons_zero, List.set_cons_succ, i64_w, i32_w]
         rfl
        refine pz_ 15 32 q75_16 HT_ (by kernel_rfl) ?_
        refine last_ (i := 16) (N := none) q75_17 rfl rfl (one_of HT_.out (by kernel_rfl)) (by decide) (fun K hK => ?_)
        have j1 : w19.cell? ⟨a9, 2, none⟩ = some (u104002) := (yac a4.out 2).trans rfl
        have h7 := yaf a4.out 2
        have e8 := b1.out
        have e9 := b2.out
        have f0 := b4.out
        have f1 := b5.out
        refine skip_ (w1 := ?_) (by rfl) rfl ?_ ?_
        rotate_left
        ·
         go_simp
         rfl
        refine hK.out _ _ ?_
        clear hK K
        refine done_ (done_of HT_.out (by kernel_rfl)) ?_
        try go_wp2
        go_roundg k1
        case measure => have := HK1.out; omega
        case rel => exact ⟨(wrap64 (b3 - 1)), (y108), (.slice e3 y108.length e4), (by first | rfl | (simp; done) | (simp [*]; done)), H', ⟨by have := HK1.out; omega⟩, ⟨by (with_reducible repeat (first | apply Kd.R_alloc | apply Kd.R_drewN | apply Kd.R_drew)); exact Kd.R_mono (Kd.R_far (p := ⟨a9, 2, none⟩) (Kd.R_types c9.out a4.out (by decide)) (fun _ hk => hk.2) (.slice e3 y108.length e4)) (fun _ hk => trivial)⟩, ⟨by (with_reducible repeat (first | refine blk_drewN ?_ _ | refine blk_drew ?_ | refine blk_alloc ?_ _)); refine blk_far ?_ b1.out _; exact upB a3.out⟩, ⟨by (with_reducible repeat (first | refine blk_drewN ?_ _ | refine blk_drew ?_ | refine blk_alloc ?_ _)); refine blk_far ?_ b2.out _; exact upB a7.out⟩, ⟨by (with_reducible repeat (first | refine blk_drewN ?_ _ | refine blk_drew ?_ | refine blk_alloc ?_ _)); refine blk_put (cs := #[.int .i64 a0_0, .int .i64 a0_1, u104002]) ?_ 2 _ rfl; exact upB a4.out⟩, ⟨by repeat (first | (with_reducible first | exact HB.out | apply yae | apply yab | apply yad | refine below_set ?_ (Aside0.out ‹_›)) | exact HB.out)⟩⟩
       ·
        rw [if_neg c16] at H
        exact absurd H (by simp)
      ·
       rw [if_neg c15] at H
       exact absurd H (by simp)
     ·
      rw [if_neg c14] at H
      exact absurd H (by simp)
    ·
     rw [if_neg c13] at H
     exact absurd H (by simp)
   ·
    rw [if_neg c11] at H
    have e2 : decide (0 ≤ b3) = false := decide_eq_false c11
    clear c11
    simp only [Option.some.injEq, Prod.mk.injEq] at H
    obtain ⟨rfl, rfl, rfl⟩ := H
    have h8 := b4.out
    have h9 := b1.out
    have i0 := b5.out
    have i1 := b2.out
    have f2 : wr.cell? ⟨a9, 0, none⟩ = some (.int .i64 a0_0) := (yac a4.out 0).trans rfl
    have f3 : wr.cell? ⟨a9, 1, none⟩ = some (.int .i64 a0_1) := (yac a4.out 1).trans rfl
    have f4 : wr.cell? ⟨a9, 2, none⟩ = some (u104002) := (yac a4.out 2).trans rfl
    have f5 := yaf a4.out 0
    have f6 := yaf a4.out 1
    have f7 := yaf a4.out 2
    have i2 := b7.out
    have i3 := b6.out
    have f8 : wr.cell? ⟨b0, 0, none⟩ = some (.int .i64 0) := (yac a7.out 0).trans rfl
    have f9 : wr.cell? ⟨b0, 1, none⟩ = some (.int .i64 0) := (yac a7.out 1).trans rfl
    have g0 : wr.cell? ⟨b0, 2, none⟩ = some (.slice none 0 0) := (yac a7.out 2).trans rfl
    have g1 := yaf a7.out 0
    have g2 := yaf a7.out 1
    have g3 := yaf a7.out 2
    obtain ⟨e6, e7, g4⟩ := Kd.R_slice a6.out
    subst g4
    go_wp2
    refine bodyPost_ret (results_cell_row rfl _ _ b0 25 #[.int .i64 a0_0, .int .i64 a0_1, .slice e6 a5.length e7] (0, 0) _ rfl (by (with_reducible repeat (first | refine blk_drewN ?_ _ | refine blk_drew ?_ | refine blk_alloc ?_ _)); refine blk_put (cs := #[.int .i64 a0_0, .int .i64 a0_1, .slice none 0 0]) ?_ 2 _ rfl; (with_reducible repeat (first | refine blk_drewN ?_ _ | refine blk_drew ?_ | refine blk_alloc ?_ _)); refine blk_put (cs := #[.int .i64 a0_0, .int .i64 0, .slice none 0 0]) ?_ 1 _ rfl; (with_reducible repeat (first | refine blk_drewN ?_ _ | refine blk_drew ?_ | refine blk_alloc ?_ _)); refine blk_put (cs := #[.int .i64 0, .int .i64 0, .slice none 0 0]) ?_ 0 _ rfl; exact upB a7.out) Try.underlying25 rfl (by kernel_rfl)) rfl ?_
    exact ⟨_, by first | rfl | (simp [errW_none, errW_some] <;> rfl) | (simp [*, errW_none, errW_some] <;> rfl), by (with_reducible repeat (first | apply Kd.R_alloc | apply Kd.R_drewN | apply Kd.R_drew)); exact Kd.R_mono (Kd.R_far (p := ⟨b0, 2, none⟩) (Kd.R_far (p := ⟨b0, 1, none⟩) (Kd.R_far (p := ⟨b0, 0, none⟩) (Kd.R_types a6.out a7.out (by decide)) (fun _ hk => hk.2) (.int .i64 a0_0)) (fun _ hk => hk.2) (.int .i64 a0_1)) (fun _ hk => hk.2) (.slice e6 a5.length e7)) (fun _ hk => trivial), by repeat (first | (with_reducible first | exact HB.out | apply yae | apply yab | apply yad | refine below_set ?_ (Aside0.out ‹_›)) | exact HB.out)⟩

end Go.Proofs.Ytoifpgkfpdeglaa.X

namespace Go.Proofs.Ytoifpgkfpdeglaa.X
open Go.RowKit Go.Proofs.YtoifpgkfpdeglaaW.PrintWords Go.Proofs.YtoifpgkfpdeglaaW.PrintLast Go.Proofs.YtoifpgkfpdeglaaW.PrintMore
attribute [local go_sem] max2_int min2_int max_two min_two max_three min_three max_four min_four
set_option linter.unusedVariables false
set_option linter.unusedSimpArgs false

open Go.Proofs.YtoifpgkfpdeglaaW.PrintWords.Aside0 renaming mk → yaa
open Go.Proofs.YtoifpgkfpdeglaaW.PrintWords renaming blk_cell → yab, pw_below_drewN → yac, blk_frozen → yad, below_drew1 → yae, below_alloc → yaf, blk_alloc → yag

/-! ### spec_l6Turn: function 76 -/
abbrev q76_0 : Array Bool := #[false, false, false, false, false, false, false, false, false, false, false, false, false, false, false, false, false, false, false, false]
abbrev q76_1 : Array Bool := #[true, false, false, false, false, false, false, false, false, false, false, false, false, false, false, false, false, false, false, false]
abbrev q76_2 : Array Bool := #[true, false, true, false, false, false, false, false, false, false, false, false, false, false, false, false, false, false, false, false]
abbrev q76_3 : Array Bool := #[true, false, true, false, true, false, false, false, false, false, false, false, false, false, false, false, false, false, false, false]
abbrev q76_4 : Array Bool := #[true, false, true, false, true, false, false, true, false, false, false, false, false, false, false, false, false, false, false, false]
abbrev q76_5 : Array Bool := #[true, false, true, false, true, false, false, true, false, true, false, false, false, false, false, false, false, false, false, false]
abbrev q76_6 : Array Bool := #[true, false, true, false, true, false, false, true, false, true, false, false, true, false, false, false, false, false, false, false]
abbrev q76_7 : Array Bool := #[true, true, true, false, true, false, false, true, false, true, false, false, true, false, false, false, false, false, false, false]
abbrev q76_8 : Array Bool := #[true, true, true, true, true, false, false, true, false, true, false, false, true, false, false, false, false, false, false, false]
abbrev q76_9 : Array Bool := #[true, true, true, true, true, true, false, true, false, true, false, false, true, false, false, false, false, false, false, false]
abbrev q76_10 : Array Bool := #[true, true, true, true, true, true, true, true, false, true, false, false, true, false, false, false, false, false, false, false]
abbrev q76_11 : Array Bool := #[true, true, true, true, true, true, true, true, true, true, false, false, true, false, false, false, false, false, false, false]
abbrev q76_12 : Array Bool := #[true, true, true, true, true, true, true, true, true, true, true, false, true, false, false, false, false, false, false, false]
abbrev q76_13 : Array Bool := #[true, true, true, true, true, true, true, true, true, true, true, true, true, false, false, false, false, false, false, false]
abbrev q76_14 : Array Bool := #[true, true, true, true, true, true, true, true, true, true, true, true, true, true, false, false, false, false, false, false]
abbrev q76_15 : Array Bool := #[true, true, true, true, true, true, true, true, true, true, true, true, true, true, true, false, false, false, false, false]
abbrev q76_16 : Array Bool := #[true, true, true, true, true, true, true, true, true, true, true, true, true, true, true, true, false, false, false, false]
abbrev q76_17 : Array Bool := #[true, true, true, true, true, true, true, true, true, true, true, true, true, true, true, true, true, false, false, false]
abbrev q76_18 : Array Bool := #[true, true, true, true, true, true, true, true, true, true, true, true, true, true, true, true, true, true, false, false]
abbrev q76_19 : Array Bool := #[true, true, true, true, true, true, true, true, true, true, true, true, true, true, true, true, true, true, true, false]
abbrev q76_20 : Array Bool := #[true, true, true, true, true, true, true, true, true, true, true, true, true, true, true, true, true, true, true, true]
mutual
def spec_l6Turn.l0 : Nat → Int → Int → Int → List (S36) → Int → Int → List (S36) → Option (Int × Int × (List (S36)))
 | 0, _, _, _, _, _, _, _ => none
 | k + 1, x4, x102000, x102001, x102002, x104000, x104001, x104002 => if x4 < x104001 then (spec_l6Turn.l1 k x4 0 x102000 x102001 x102002 x104000 x104001 x104002) else (some (x104000, x104001, x104002))
def spec_l6Turn.l1 : Nat → Int → Int → Int → Int → List (S36) → Int → Int → List (S36) → Option (Int × Int × (List (S36)))
 | 0, _, _, _, _, _, _, _, _ => none
 | k + 1, x4, x5, x102000, x102001, x102002, x104000, x104001, x104002 => if x5 < x104000 then (if 0 ≤ (wrap64 ((wrap64 ((wrap64 ((wrap64 (x102001 - 1)) - x5)) * x102000)) + x4)) then (if (wrap64 ((wrap64 ((wrap64 ((wrap64 (x102001 - 1)) - x5)) * x102000)) + x4)) < (x102002.length : Int) then (if x104002.length < 4398046511104 then (spec_l6Turn.l1 k x4 (wrap64 (x5 + 1)) x102000 x102001 x102002 x104000 x104001 (x104002 ++ [(⟨(rd_T36 x102002 (wrap64 ((wrap64 ((wrap64 ((wrap64 (x102001 - 1)) - x5)) * x102000)) + x4))).f0, (rd_T36 x102002 (wrap64 ((wrap64 ((wrap64 ((wrap64 (x102001 - 1)) - x5)) * x102000)) + x4))).f1, (rd_T36 x102002 (wrap64 ((wrap64 ((wrap64 ((wrap64 (x102001 - 1)) - x5)) * x102000)) + x4))).f2, (rd_T36 x102002 (wrap64 ((wrap64 ((wrap64 ((wrap64 (x102001 - 1)) - x5)) * x102000)) + x4))).f3⟩ : S36)])) else (none)) else (none)) else (none)) else (spec_l6Turn.l0 k (wrap64 (x4 + 1)) x102000 x102001 x102002 x104000 x104001 x104002)
end
def spec_l6Turn.f (k : Nat) (a0_0 : Int) (a0_1 : Int) (l0_2 : List (S36)) : Option (Int × Int × (List (S36))) := spec_l6Turn.l0 k 0 a0_0 a0_1 l0_2 a0_1 a0_0 ([] : List (S36))
def spec_l6Turn.T8 : Bool × List (List Nat × List Nat) := (true, [([], []), ([0], [0]), ([], []), ([2], [2]), ([], []), ([4], [4]), ([5], [5]), ([], []), ([6, 7], [6, 7]), ([], []), ([9], [9]), ([8, 10], [8, 10]), ([], []), ([11, 12], [11, 12]), ([3, 13], [3, 13]), ([14], [14]), ([15], [15]), ([1, 16], [1, 16]), ([0, 1, 2, 3, 4, 5, 6, 7, 8, 9, 10, 11, 12, 13, 14, 15, 16, 17], []), ([18, 17, 17, 0, 1, 2, 3, 4, 5, 6, 7, 8, 9, 10, 11, 12, 13, 14, 15, 16, 17], [17, 18])])
def spec_l6Turn.B8 : List Nat := [0, 1, 0, 4, 0, 16, 48, 0, 240, 0, 512, 2032, 0, 8176, 16380, 32764, 65532, 131071, 262143, 524287]
theorem spec_l6Turn.tab8 : rtab .any (opsOf Try.f76 8) = spec_l6Turn.T8 := by kernel_rfl
theorem spec_l6Turn.bits8 : waitsOk spec_l6Turn.T8.2 spec_l6Turn.B8 = true := by kernel_rfl
set_option maxHeartbeats 8000000 in
set_option maxRecDepth 100000 in
theorem spec_l6Turn.calls (k : Nat) (a0_0 : Int) (a0_1 : Int) (A0_2 : Option Addr) (c0_2 : Nat) (l0_2 : List (S36)) (r1 : Int) (r2 : Int) (r3 : List (S36)) (w : World) (hr0_2 : Kd.C k36 w A0_2 l0_2.length l0_2) (hc0_2 : l0_2.length ≤ c0_2) (h : spec_l6Turn.f k a0_0 a0_1 l0_2 = some (r1, r2, r3)) :
  Calls Try.prog 76 #[.agg #[.int .i64 a0_0, .int .i64 a0_1, .slice A0_2 l0_2.length c0_2]] w fun e w' => ∃ v2_ : Value, e = .returned (.agg #[.int .i64 r1, .int .i64 r2, v2_]) ∧ Kd.R k36 36 w' w.heap.size (fun _ => True) v2_ r3 ∧ Below w.heap.size w w' := by
 have hu25 := Try.underlying25
 have hu36 := Try.underlying36
 have HR0_2 := yaa hr0_2
 have HC0_2 := yaa hc0_2
 clear hr0_2 hc0_2
 have HB := yaa (Below.refl w.heap.size w)
 have H : (spec_l6Turn.l0 k 0 a0_0 a0_1 l0_2 a0_1 a0_0 ([] : List (S36))) = some (r1, r2, r3) := h
 clear h
 have H' := yaa H
 clear H
 go_enter Try.func76, Try.ntmps76
 go_wp2_with (first | ((with_reducible refine gate_dst (N := 1) rfl ?_); refine box_event ?hg (N := 1) ?hd (cs := #[.int .i64 a0_0, .int .i64 a0_1, .slice A0_2 l0_2.length c0_2]) (t := 25) ?hr ?_; (case hd => rfl); (case hg => rfl); (case hr => first | (go_simp; done) | (go_simp; rfl)); intro b1 hg w2 hbox hb; have n0_ := yaa (below_step (by repeat (first | (with_reducible first | exact HB.out | apply yaf | apply yac | apply yae) | exact HB.out)) hb); have n1_ := yaa (hbox); have n2_ := yaa ((by rw [hg]; exact (below_size (by repeat (first | (with_reducible first | exact HB.out | apply yaf | apply yac | apply yae) | exact HB.out))) : w.heap.size ≤ b1)); have n3_ := yaa ((by rw [hg]; exact (below_size (by repeat (first | (with_reducible first | exact HB.out | apply yaf | apply yac | apply yae) | exact HB.out))) : w.heap.size ≤ b1)); clear HB; have HB := n0_; have a4 := n1_; have j2 := n2_; have j3 := n3_; clear n0_ n1_ n2_ n3_; clear hb hbox hg) | ((with_reducible refine gate_dst (N := 2) rfl ?_); refine box_event ?hg (N := 2) ?hd (cs := #[.int .i64 0, .int .i64 0, .slice none 0 0]) (t := 25) ?hr ?_; (case hd => rfl); (case hg => rfl); (case hr => first | (go_simp; done) | (go_simp; rfl)); intro b2 hg w3 hbox hb; have n0_ := yaa (blk_below (g := b1) (o := .cells #[.int .i64 a0_0, .int .i64 a0_1, .slice A0_2 l0_2.length c0_2] 25 (0, 0)) (upB a4.out) hb); have n1_ := yaa (below_step (by repeat (first | (with_reducible first | exact HB.out | apply yaf | apply yac | apply yae | refine below_set ?_ (Aside0.out ‹_›)) | exact HB.out)) hb); have n2_ := yaa (hbox); have n3_ := yaa ((by rw [hg]; exact (below_size (by repeat (first | (with_reducible first | exact HB.out | apply yaf | apply yac | apply yae | refine below_set ?_ (Aside0.out ‹_›)) | exact HB.out))) : w.heap.size ≤ b2)); have n4_ := yaa ((by rw [hg]; exact (below_size (by repeat (first | (with_reducible first | exact HB.out | apply yaf | apply yac | apply yae | refine below_set ?_ (Aside0.out ‹_›)) | exact HB.out))) : w.heap.size ≤ b2)); have n5_ := yaa ((by rw [hg]; exact Nat.ne_of_lt (blk_lt (g := b1) (o := .cells #[.int .i64 a0_0, .int .i64 a0_1, .slice A0_2 l0_2.length c0_2] 25 (0, 0)) (upB a4.out)) : b1 ≠ b2)); have n6_ := yaa ((by rw [hg]; exact Nat.ne_of_gt (blk_lt (g := b1) (o := .cells #[.int .i64 a0_0, .int .i64 a0_1, .slice A0_2 l0_2.length c0_2] 25 (0, 0)) (upB a4.out)) : b2 ≠ b1)); clear a4; clear HB; have a4 := n0_; have HB := n1_; have a7 := n2_; have j4 := n3_; have j5 := n4_; have d0 := n5_; have d1 := n6_; clear n0_ n1_ n2_ n3_ n4_ n5_ n6_; clear hb hbox hg; have m3 := d0.out; have m4 := d1.out; have d2 : w3.cell? ⟨b1, 0, none⟩ = some (.int .i64 a0_0) := (yab a4.out 0).trans rfl; have d3 : w3.cell? ⟨b1, 1, none⟩ = some (.int .i64 a0_1) := (yab a4.out 1).trans rfl; have d4 : w3.cell? ⟨b1, 2, none⟩ = some (.slice A0_2 l0_2.length c0_2) := (yab a4.out 2).trans rfl; have d5 := yad a4.out 0; have d6 := yad a4.out 1; have d7 := yad a4.out 2) | ((with_reducible refine gate_dst (N := 3) rfl ?_); refine box_event ?hg (N := 3) ?hd (cs := #[.int .i64 0, .int .i64 0, .slice none 0 0]) (t := 25) ?hr ?_; (case hd => rfl); (case hg => rfl); (case hr => first | (go_simp; done) | (go_simp; rfl)); intro a6 hg w6 hbox hb; have n0_ := yaa (blk_below (g := b1) (o := .cells #[.int .i64 a0_0, .int .i64 a0_1, .slice A0_2 l0_2.length c0_2] 25 (0, 0)) (upB a4.out) hb); have n1_ := yaa (blk_below (g := b2) (o := .cells #[.int .i64 0, .int .i64 0, .slice none 0 0] 25 (0, 0)) (upB a7.out) hb); have n2_ := yaa (below_step (by repeat (first | (with_reducible first | exact HB.out | apply yaf | apply yac | apply yae | refine below_set ?_ (Aside0.out ‹_›)) | exact HB.out)) hb); have n3_ := yaa (hbox); have n4_ := yaa ((by rw [hg]; exact (below_size (by repeat (first | (with_reducible first | exact HB.out | apply yaf | apply yac | apply yae | refine below_set ?_ (Aside0.out ‹_›)) | exact HB.out))) : w.heap.size ≤ a6)); have n5_ := yaa ((by rw [hg]; exact (below_size (by repeat (first | (with_reducible first | exact HB.out | apply yaf | apply yac | apply yae | refine below_set ?_ (Aside0.out ‹_›)) | exact HB.out))) : w.heap.size ≤ a6)); have n6_ := yaa ((by rw [hg]; exact Nat.ne_of_lt (blk_lt (g := b1) (o := .cells #[.int .i64 a0_0, .int .i64 a0_1, .slice A0_2 l0_2.length c0_2] 25 (0, 0)) (upB a4.out)) : b1 ≠ a6)); have n7_ := yaa ((by rw [hg]; exact Nat.ne_of_gt (blk_lt (g := b1) (o := .cells #[.int .i64 a0_0, .int .i64 a0_1, .slice A0_2 l0_2.length c0_2] 25 (0, 0)) (upB a4.out)) : a6 ≠ b1)); have n8_ := yaa ((by rw [hg]; exact Nat.ne_of_lt (blk_lt (g := b2) (o := .cells #[.int .i64 0, .int .i64 0, .slice none 0 0] 25 (0, 0)) (upB a7.out)) : b2 ≠ a6)); have n9_ := yaa ((by rw [hg]; exact Nat.ne_of_gt (blk_lt (g := b2) (o := .cells #[.int .i64 0, .int .i64 0, .slice none 0 0] 25 (0, 0)) (upB a7.out)) : a6 ≠ b2)); clear a4; clear a7; clear HB; have a4 := n0_; have a7 := n1_; have HB := n2_; have a3 := n3_; have j6 := n4_; have j7 := n5_; have a8 := n6_; have b3 := n7_; have a9 := n8_; have b4 := n9_; clear n0_ n1_ n2_ n3_ n4_ n5_ n6_ n7_ n8_ n9_; clear hb hbox hg; have m5 := b3.out; have m6 := a8.out; have m7 := b4.out; have m8 := a9.out; have d8 : w6.cell? ⟨a6, 0, none⟩ = some (.int .i64 0) := (yab a3.out 0).trans rfl; have d9 : w6.cell? ⟨a6, 1, none⟩ = some (.int .i64 0) := (yab a3.out 1).trans rfl; have e0 : w6.cell? ⟨a6, 2, none⟩ = some (.slice none 0 0) := (yab a3.out 2).trans rfl; have e1 := yad a3.out 0; have e2 := yad a3.out 1; have e3 := yad a3.out 2))
 (try simp only [Act.put, List.setIfInBounds_toArray, List.set_cons_zero, List.set_cons_succ])
 go_loopg [4] k (fun kq v4 w' => ∃ (c6 : Int) (b5 : List (S36)) (u104002 : Value), v4 = .int .i64 c6 ∧ Aside0 (spec_l6Turn.l0 kq c6 a0_0 a0_1 l0_2 a0_1 a0_0 b5 = some (r1, r2, r3)) ∧ Aside0 (kq ≤ k) ∧ Aside0 (Kd.R k36 36 w' w.heap.size (fun _ => True) u104002 b5) ∧ Aside0 (w'.heap[b1]? = some (.cells #[.int .i64 a0_0, .int .i64 a0_1, (.slice A0_2 l0_2.length c0_2)] 25 (0, 0))) ∧ Aside0 (w'.heap[b2]? = some (.cells #[.int .i64 0, .int .i64 0, (.slice none 0 0)] 25 (0, 0))) ∧ Aside0 (w'.heap[a6]? = some (.cells #[.int .i64 a0_1, .int .i64 a0_0, u104002] 25 (0, 0))) ∧ Aside0 (Below w.heap.size w w'))
 case atStart => exact ⟨(0), (([] : List (S36))), (.slice none 0 0), (by first | rfl | (simp; done) | (simp [*]; done)), H', ⟨Nat.le_refl _⟩, ⟨by first | exact Kd.R_nil _ _ _ _ _ | exact Kd.N_nil _ _ _ _ _ | exact Kd.V_nil _ _ _ _ _ | exact Kd.Q_nil _ _ _ _ _ | exact Kd.S_nil _ _ _ _ _⟩, ⟨by (with_reducible repeat (first | refine blk_drewN ?_ _ | refine blk_drew ?_ | refine yag ?_ _)); refine blk_far ?_ a8.out _; (with_reducible repeat (first | refine blk_drewN ?_ _ | refine blk_drew ?_ | refine yag ?_ _)); refine blk_far ?_ a8.out _; (with_reducible repeat (first | refine blk_drewN ?_ _ | refine blk_drew ?_ | refine yag ?_ _)); refine blk_far ?_ a8.out _; exact upB a4.out⟩, ⟨by (with_reducible repeat (first | refine blk_drewN ?_ _ | refine blk_drew ?_ | refine yag ?_ _)); refine blk_far ?_ a9.out _; (with_reducible repeat (first | refine blk_drewN ?_ _ | refine blk_drew ?_ | refine yag ?_ _)); refine blk_far ?_ a9.out _; (with_reducible repeat (first | refine blk_drewN ?_ _ | refine blk_drew ?_ | refine yag ?_ _)); refine blk_far ?_ a9.out _; exact upB a7.out⟩, ⟨by (with_reducible repeat (first | refine blk_drewN ?_ _ | refine blk_drew ?_ | refine yag ?_ _)); refine blk_put (cs := #[.int .i64 a0_1, .int .i64 a0_0, .slice none 0 0]) ?_ 2 _ rfl; (with_reducible repeat (first | refine blk_drewN ?_ _ | refine blk_drew ?_ | refine yag ?_ _)); refine blk_put (cs := #[.int .i64 a0_1, .int .i64 0, .slice none 0 0]) ?_ 1 _ rfl; (with_reducible repeat (first | refine blk_drewN ?_ _ | refine blk_drew ?_ | refine yag ?_ _)); refine blk_put (cs := #[.int .i64 0, .int .i64 0, .slice none 0 0]) ?_ 0 _ rfl; exact upB a3.out⟩, ⟨by repeat (first | (with_reducible first | exact HB.out | apply yaf | apply yac | apply yae | refine below_set ?_ (Aside0.out ‹_›)) | exact HB.out)⟩⟩
 case round =>
  clear H'
  try clear p2
  try clear c4
  try clear c7
  try clear c8
  try clear d2
  try clear d3
  try clear d4
  try clear d8
  try clear d9
  try clear e0
  try clear d5
  try clear d6
  try clear d7
  try clear e1
  try clear e2
  try clear e3
  obtain ⟨c6, b5, u104002, rfl, HA, HK1, a5, a4, a7, a3, HB⟩ := hrel
  cases gk with
  | zero => exact absurd HA.out (by simp [spec_l6Turn.l0])
  | succ k1 =>
   have H := HA.out
   clear HA
   simp only [spec_l6Turn.l0] at H
   by_cases c10 : c6 < a0_0
   ·
    rw [if_pos c10] at H
    have f4 : decide (c6 < a0_0) = true := decide_eq_true c10
    clear c10
    have H' := yaa H
    clear H
    have j8 := b3.out
    have j9 := a8.out
    have k0 := b4.out
    have k3 := a9.out
    have e4 : wr.cell? ⟨a6, 0, none⟩ = some (.int .i64 a0_1) := (yab a3.out 0).trans rfl
    have e5 : wr.cell? ⟨a6, 1, none⟩ = some (.int .i64 a0_0) := (yab a3.out 1).trans rfl
    have e6 : wr.cell? ⟨a6, 2, none⟩ = some (u104002) := (yab a3.out 2).trans rfl
    have e7 := yad a3.out 0
    have e8 := yad a3.out 1
    have e9 := yad a3.out 2
    go_wp2
    (try simp only [Act.put, List.setIfInBounds_toArray, List.set_cons_zero, List.set_cons_succ])
    go_loopg [5] k1 (fun kq v5 w' => ∃ (c9 : Int) (b0 : List (S36)) (u104002 : Value), v5 = .int .i64 c9 ∧ Aside0 (spec_l6Turn.l1 kq c6 c9 a0_0 a0_1 l0_2 a0_1 a0_0 b0 = some (r1, r2, r3)) ∧ Aside0 (kq ≤ k1) ∧ Aside0 (Kd.R k36 36 w' w.heap.size (fun _ => True) u104002 b0) ∧ Aside0 (w'.heap[b1]? = some (.cells #[.int .i64 a0_0, .int .i64 a0_1, (.slice A0_2 l0_2.length c0_2)] 25 (0, 0))) ∧ Aside0 (w'.heap[b2]? = some (.cells #[.int .i64 0, .int .i64 0, (.slice none 0 0)] 25 (0, 0))) ∧ Aside0 (w'.heap[a6]? = some (.cells #[.int .i64 a0_1, .int .i64 a0_0, u104002] 25 (0, 0))) ∧ Aside0 (Below w.heap.size w w'))
    case atStart => exact ⟨(0), (b5), (u104002), (by first | rfl | (simp; done) | (simp [*]; done)), H', ⟨Nat.le_refl _⟩, ⟨by exact upR a5.out⟩, ⟨by exact upB a4.out⟩, ⟨by exact upB a7.out⟩, ⟨by exact upB a3.out⟩, ⟨by repeat (first | (with_reducible first | exact HB.out | apply yaf | apply yac | apply yae | refine below_set ?_ (Aside0.out ‹_›)) | exact HB.out)⟩⟩
    case round =>
     clear H'
     try clear c1
     try clear p2
     try clear c4
     try clear c7
     try clear c8
     try clear c10
     try clear f4
     try clear c11
     try clear c12
     try clear e4
     try clear e5
     try clear e6
     try clear d2
     try clear d3
     try clear d4
     try clear d8
     try clear d9
     try clear e0
     try clear e7
     try clear e8
     try clear e9
     try clear d5
     try clear d6
     try clear d7
     try clear e1
     try clear e2
     try clear e3
     try clear p2
     obtain ⟨c9, b0, u104002, rfl, HA, HK2, a5, a4, a7, a3, HB⟩ := hrel
     cases gk with
     | zero => exact absurd HA.out (by simp [spec_l6Turn.l1])
     | succ k2 =>
      have H := HA.out
      clear HA
      simp only [spec_l6Turn.l1] at H
      by_cases c14 : c9 < a0_1
      ·
       rw [if_pos c14] at H
       have f6 : decide (c9 < a0_1) = true := decide_eq_true c14
       clear c14
       obtain ⟨ji15, hji15⟩ : ∃ j_ : Int, (wrap64 ((wrap64 ((wrap64 ((wrap64 (a0_1 - 1)) - c9)) * a0_0)) + c6)) = j_ := ⟨_, rfl⟩
       replace H : (if 0 ≤ (ji15) then (if (ji15) < (l0_2.length : Int) then (if b0.length < 4398046511104 then (spec_l6Turn.l1 k2 c6 (wrap64 (c9 + 1)) a0_0 a0_1 l0_2 a0_1 a0_0 (b0 ++ [(⟨(rd_T36 l0_2 (ji15)).f0, (rd_T36 l0_2 (ji15)).f1, (rd_T36 l0_2 (ji15)).f2, (rd_T36 l0_2 (ji15)).f3⟩ : S36)])) else (none)) else (none)) else (none)) = some (r1, r2, r3) := by first | (rw [hji15] at H; exact H) | (simp only [hji15] at H ⊢; exact H)
       have hji15w : (IntKind.i64.wrap ((wrap64 ((wrap64 ((wrap64 (a0_1 - 1)) - c9)) * a0_0)) + c6)) = ji15 := (i64_w _).trans hji15
       by_cases c16 : 0 ≤ (ji15)
       ·
        rw [if_pos c16] at H
        have k4 : decide (0 ≤ (ji15)) = true := decide_eq_true c16
        clear c16
        by_cases c17 : (ji15) < (l0_2.length : Int)
        ·
         rw [if_pos c17] at H
         have k5 : decide ((ji15) < (l0_2.length : Int)) = true := decide_eq_true c17
         clear c17
         by_cases c18 : b0.length < 4398046511104
         ·
          rw [if_pos c18] at H
          have LMc18 := yaa c18
          clear c18
          obtain ⟨y105, hy105⟩ : ∃ y_ : List (S36), y_ = (b0 ++ [(⟨(rd_T36 l0_2 (ji15)).f0, (rd_T36 l0_2 (ji15)).f1, (rd_T36 l0_2 (ji15)).f2, (rd_T36 l0_2 (ji15)).f3⟩ : S36)]) := ⟨_, rfl⟩
          replace H : (spec_l6Turn.l1 k2 c6 (wrap64 (c9 + 1)) a0_0 a0_1 l0_2 a0_1 a0_0 y105) = some (r1, r2, r3) := by first | (rw [hy105]; with_reducible exact H) | (have H2_ := (Option.bind_some _ _).symm.trans H; rw [hy105]; with_reducible exact H2_) | (have H2_ := (Option.bind_some _ _).symm.trans H; with_reducible exact H2_) | with_reducible exact H | (rw [hy105]; exact H) | exact H
          have Ny105 := yaa hy105
          clear hy105
          have H' := yaa H
          clear H
          have k6 := b3.out
          have k7 := a8.out
          have k8 := b4.out
          have k9 := a9.out
          have g2 : wr.cell? ⟨a6, 0, none⟩ = some (.int .i64 a0_1) := (yab a3.out 0).trans rfl
          have g3 : wr.cell? ⟨a6, 1, none⟩ = some (.int .i64 a0_0) := (yab a3.out 1).trans rfl
          have g4 : wr.cell? ⟨a6, 2, none⟩ = some (u104002) := (yab a3.out 2).trans rfl
          have g5 := yad a3.out 0
          have g6 := yad a3.out 1
          have g7 := yad a3.out 2
          try go_wp2
          have n0_ := yaa (Kd.R_drew a5.out)
          have n1_ := yaa (blk_drew a4.out)
          have n2_ := yaa (blk_drew a7.out)
          have n3_ := yaa (blk_drew a3.out)
          have n4_ := yaa (yae HB.out)
          clear a5 a4 a7 a3 HB
          have a5 := n0_
          have a4 := n1_
          have a7 := n2_
          have a3 := n3_
          have HB := n4_
          clear n0_ n1_ n2_ n3_ n4_
          have p104 : 0 ≤ ((ji15) : Int) := of_decide_eq_true (by first | (with_reducible assumption) | assumption)
          have q104 : (ji15) < (l0_2.length : Int) := of_decide_eq_true (by first | (with_reducible assumption) | assumption)
          obtain ⟨ad104, j0, c0, c2, c3, c5⟩ := at_T36 HR0_2.out (ji15) p104 q104
          have b6 := c5
          have b7 := c3
          have b8 := c2
          have b9 := c0
          cases j0
          replace c0 := (HB.out.cell (World.block_lt_of_cell? w _ c0)).trans c0
          replace c2 := (HB.out.cell (World.block_lt_of_cell? w _ c2)).trans c2
          replace c3 := (HB.out.cell (World.block_lt_of_cell? w _ c3)).trans c3
          replace c5 := (HB.out.cell (World.block_lt_of_cell? w _ c5)).trans c5
          replace p104 := eq_true p104
          replace q104 := eq_true q104
          refine start_ (n := 20) (S := fun w' => w'.cell? ⟨a6, 0, none⟩ = some (.int .i64 a0_1) ∧ w'.cell? ⟨a6, 1, none⟩ = some (.int .i64 a0_0) ∧ w'.cell? ⟨a6, 2, none⟩ = some (u104002) ∧ w'.cell? ⟨b1, 0, none⟩ = some (.int .i64 a0_0) ∧ w'.cell? ⟨b1, 1, none⟩ = some (.int .i64 a0_1) ∧ w'.cell? ⟨b1, 2, none⟩ = some (.slice (some ad104) l0_2.length c0_2) ∧ w'.cell? (ad104.add (((ji15)).toNat * 4)) = some (.int .i64 ((rd_T36 l0_2 (ji15)).f0)) ∧ w'.cell? ⟨(ad104.add (((ji15)).toNat * 4)).block, (ad104.add (((ji15)).toNat * 4)).off + 1, none⟩ = some (.int .i64 ((rd_T36 l0_2 (ji15)).f1)) ∧ w'.cell? ⟨(ad104.add (((ji15)).toNat * 4)).block, (ad104.add (((ji15)).toNat * 4)).off + 2, none⟩ = some (.int .i64 ((rd_T36 l0_2 (ji15)).f2)) ∧ w'.cell? ⟨(ad104.add (((ji15)).toNat * 4)).block, (ad104.add (((ji15)).toNat * 4)).off + 3, none⟩ = some (.int .i64 ((rd_T36 l0_2 (ji15)).f3))) (ds := [19]) q76_0 (by kernel_rfl) rfl rfl ⟨(yab a3.out 0).trans rfl, (yab a3.out 1).trans rfl, (yab a3.out 2).trans rfl, (yab a4.out 0).trans rfl, (yab a4.out 1).trans rfl, (yab a4.out 2).trans rfl, ((HB.out.cell (World.block_lt_of_cell? w _ b9)).trans b9), ((HB.out.cell (World.block_lt_of_cell? w _ b8)).trans b8), ((HB.out.cell (World.block_lt_of_cell? w _ b7)).trans b7), ((HB.out.cell (World.block_lt_of_cell? w _ b6)).trans b6)⟩ (fun hHeld => ?_); refine with_tabW spec_l6Turn.tab8 spec_l6Turn.bits8 (fun HT_ HW_ => ?_)
          generalize wr.drew = w22 at a5 a4 a7 a3 HB c0 c2 c3 c5 hHeld ⊢
          refine pz_ 0 23 q76_1 HT_ (by kernel_rfl) ?_
          refine pz_ 2 25 q76_2 HT_ (by kernel_rfl) ?_
          refine pz_ 4 27 q76_3 HT_ (by kernel_rfl) ?_
          refine pz_ 7 30 q76_4 HT_ (by kernel_rfl) ?_
          refine pz_ 9 32 q76_5 HT_ (by kernel_rfl) ?_
          refine pz_ 12 35 q76_6 HT_ (by kernel_rfl) ?_
          refine tz_ 1 24 q76_7 HT_ HW_ (by kernel_rfl) hHeld ?_
          refine tz_ 3 26 q76_8 HT_ HW_ (by kernel_rfl) hHeld ?_
          refine tz_ 5 28 q76_9 HT_ HW_ (by kernel_rfl) hHeld ?_
          refine pz_ 6 29 q76_10 HT_ (by kernel_rfl) ?_
          refine pz_ 8 31 q76_11 HT_ (by kernel_rfl) ?_
          refine tz_ 10 33 q76_12 HT_ HW_ (by kernel_rfl) hHeld ?_
          refine pz_ 11 34 q76_13 HT_ (by kernel_rfl) ?_
          refine pz_ 13 36 q76_14 HT_ (by kernel_rfl) ?_
          refine pz_ 14 37 q76_15 HT_ (by kernel_rfl) ?_
          refine tz_ 15 38 q76_16 HT_ HW_ (by kernel_rfl) hHeld ?_
          refine one_ (i := 16) (N := some 39) q76_17 rfl rfl (one_of HT_.out (by kernel_rfl)) (by decide) (fun K hK => ?_)
          refine value_ (w1 := ?_) (v := ?_) (by rfl) rfl ?_ ?_
          rotate_left 2
          ·
           go_simp
           constructor
           ·
            rfl
           ·
            rfl
          refine hK.out _ _ ⟨(yab (yag a3.out _) 0).trans rfl, (yab (yag a3.out _) 1).trans rfl, (yab (yag a3.out _) 2).trans rfl, (yab (yag a4.out _) 0).trans rfl, (yab (yag a4.out _) 1).trans rfl, (yab (yag a4.out _) 2).trans rfl, (World.cell?_alloc_lt _ _ _ (World.block_lt_of_cell? _ _ (((HB.out.cell (World.block_lt_of_cell? w _ b9)).trans b9)))).trans (((HB.out.cell (World.block_lt_of_cell? w _ b9)).trans b9)), (World.cell?_alloc_lt _ _ _ (World.block_lt_of_cell? _ _ (((HB.out.cell (World.block_lt_of_cell? w _ b8)).trans b8)))).trans (((HB.out.cell (World.block_lt_of_cell? w _ b8)).trans b8)), (World.cell?_alloc_lt _ _ _ (World.block_lt_of_cell? _ _ (((HB.out.cell (World.block_lt_of_cell? w _ b7)).trans b7)))).trans (((HB.out.cell (World.block_lt_of_cell? w _ b7)).trans b7)), (World.cell?_alloc_lt _ _ _ (World.block_lt_of_cell? _ _ (((HB.out.cell (World.block_lt_of_cell? w _ b6)).trans b6)))).trans (((HB.out.cell (World.block_lt_of_cell? w _ b6)).trans b6))⟩ (fun hHeld => ?_)
          clear hK K
          refine norm_ (a' := ?_) ?_ ?_
          rotate_left
          ·
           show Act.put _ (some 39) _ = _
           simp only [Act.put, List.setIfInBounds_toArray, List.set_cons_zero, List.set_cons_succ, i64_w, i32_w]
           rfl
          refine one_ (i := 17) (N := some 40) q76_18 rfl rfl (one_of HT_.out (by kernel_rfl)) (by decide) (fun K hK => ?_)
          refine Kd.R_append_step k36 (w0 := w) w.heap.size (by rfl) (.tmp 24) (.tmp 39) 23 36 (.agg #[(.int .i64 0), (.int .i64 0), (.int .i64 0), (.int .i64 0)]) 32 rfl Try.underlying23 info36 rfl (by decide) (by omega) u104002 b0 (⟨(rd_T36 l0_2 (ji15)).f0, (rd_T36 l0_2 (ji15)).f1, (rd_T36 l0_2 (ji15)).f2, (rd_T36 l0_2 (ji15)).f3⟩ : S36) [.int .i64 ((rd_T36 l0_2 (ji15)).f0), .int .i64 ((rd_T36 l0_2 (ji15)).f1), .int .i64 ((rd_T36 l0_2 (ji15)).f2), .int .i64 ((rd_T36 l0_2 (ji15)).f3)] (fun _ => True) (fun _ => False) rfl rfl ?aP (fun _ hk => hk.elim) ?aF ?aO ?aB ?aS ?aL ?_
          (case aP => exact k36_mkM _ _ _ (⟨(rd_T36 l0_2 (ji15)).f0, (rd_T36 l0_2 (ji15)).f1, (rd_T36 l0_2 (ji15)).f2, (rd_T36 l0_2 (ji15)).f3⟩ : S36))
          (case aB => exact (by repeat (first | (with_reducible first | exact HB.out | apply yaf | apply yac | apply yae | refine below_set ?_ (Aside0.out ‹_›)) | exact HB.out)))
          (case aF => exact (fun _ _ => trivial))
          (case aO => exact (upR a5.out))
          (case aS => exact (below_size (by repeat (first | (with_reducible first | exact HB.out | apply yaf | apply yac | apply yae | refine below_set ?_ (Aside0.out ‹_›)) | exact HB.out))))
          (case aL => have := LMc18.out; omega)
          intro m9 w23 ho hb hg hat
          rw [← Ny105.out] at ho
          have n0_ := yaa (blk_grown (g := b1) (o := .cells #[.int .i64 a0_0, .int .i64 a0_1, .slice (some ad104) l0_2.length c0_2] 25 (0, 0)) (upB a4.out) hg (Kd.R_ne a5.out a4.out (by decide)))
          have n1_ := yaa (blk_grown (g := b2) (o := .cells #[.int .i64 0, .int .i64 0, .slice none 0 0] 25 (0, 0)) (upB a7.out) hg (Kd.R_ne a5.out a7.out (by decide)))
          have n2_ := yaa (blk_grown (g := a6) (o := .cells #[.int .i64 a0_1, .int .i64 a0_0, u104002] 25 (0, 0)) (upB a3.out) hg (Kd.R_ne a5.out a3.out (by decide)))
          have n3_ := yaa (hb)
          have n4_ := yaa (ho)
          clear a4 a7 a3 HB a5
          have a4 := n0_
          have a7 := n1_
          have a3 := n2_
          have HB := n3_
          have f5 := n4_
          clear n0_ n1_ n2_ n3_ n4_ ho hb hg hat
          obtain ⟨f7, f8, f9⟩ := Kd.R_slice f5.out
          (first | subst f9 | (injection f9 with f1_ f2_ f3_; have f4_ := f1_.symm; have f5_ := f3_.symm; clear f1_ f2_ f3_; subst f4_; subst f5_))
          refine hK.out _ _ ⟨(yab a3.out 0).trans rfl, (yab a3.out 1).trans rfl, (yab a3.out 2).trans rfl, (yab a4.out 0).trans rfl, (yab a4.out 1).trans rfl, (yab a4.out 2).trans rfl, ((HB.out.cell (World.block_lt_of_cell? w _ b9)).trans b9), ((HB.out.cell (World.block_lt_of_cell? w _ b8)).trans b8), ((HB.out.cell (World.block_lt_of_cell? w _ b7)).trans b7), ((HB.out.cell (World.block_lt_of_cell? w _ b6)).trans b6)⟩ (fun hHeld => ?_)
          clear hK K
          refine norm_ (a' := ?_) ?_ ?_
          rotate_left
          ·
           show Act.put _ (some 40) _ = _
           simp only [Act.put, List.setIfInBounds_toArray, List.set_cons_zero, List.set_cons_succ, i64_w, i32_w]
           rfl
          refine pz_ 18 41 q76_19 HT_ (by kernel_rfl) ?_
          refine last_ (i := 19) (N := none) q76_20 rfl rfl (one_of HT_.out (by kernel_rfl)) (by decide) (fun K hK => ?_)
          have n0 : w23.cell? ⟨a6, 2, none⟩ = some (u104002) := (yab a3.out 2).trans rfl
          have l2 := yad a3.out 2
          have g8 := a8.out
          have g9 := a9.out
          have h0 := b3.out
          have h1 := b4.out
          refine skip_ (w1 := ?_) (by rfl) rfl ?_ ?_
          rotate_left
          ·
           go_simp
           rfl
          refine hK.out _ _ ?_
          clear hK K
          refine done_ (done_of HT_.out (by kernel_rfl)) ?_
          try go_wp2
          go_roundg k2
          case measure => have := HK1.out; have := HK2.out; omega
          case rel => exact ⟨(wrap64 (c9 + 1)), (y105), (.slice f7 y105.length f8), (by first | rfl | (simp; done) | (simp [*]; done)), H', ⟨by have := HK1.out; have := HK2.out; omega⟩, ⟨by (with_reducible repeat (first | apply Kd.R_alloc | apply Kd.R_drewN | apply Kd.R_drew)); exact Kd.R_mono (Kd.R_far (p := ⟨a6, 2, none⟩) (Kd.R_types f5.out a3.out (by decide)) (fun _ hk => hk.2) (.slice f7 y105.length f8)) (fun _ hk => trivial)⟩, ⟨by (with_reducible repeat (first | refine blk_drewN ?_ _ | refine blk_drew ?_ | refine yag ?_ _)); refine blk_far ?_ a8.out _; exact upB a4.out⟩, ⟨by (with_reducible repeat (first | refine blk_drewN ?_ _ | refine blk_drew ?_ | refine yag ?_ _)); refine blk_far ?_ a9.out _; exact upB a7.out⟩, ⟨by (with_reducible repeat (first | refine blk_drewN ?_ _ | refine blk_drew ?_ | refine yag ?_ _)); refine blk_put (cs := #[.int .i64 a0_1, .int .i64 a0_0, u104002]) ?_ 2 _ rfl; exact upB a3.out⟩, ⟨by repeat (first | (with_reducible first | exact HB.out | apply yaf | apply yac | apply yae | refine below_set ?_ (Aside0.out ‹_›)) | exact HB.out)⟩⟩
         ·
          rw [if_neg c18] at H
          exact absurd H (by simp)
        ·
         rw [if_neg c17] at H
         exact absurd H (by simp)
       ·
        rw [if_neg c16] at H
        exact absurd H (by simp)
      ·
       rw [if_neg c14] at H
       have f6 : decide (c9 < a0_1) = false := decide_eq_false c14
       clear c14
       have H' := yaa H
       clear H
       have l3 := b3.out
       have l4 := a8.out
       have l5 := b4.out
       have l6 := a9.out
       have h2 : wr.cell? ⟨a6, 0, none⟩ = some (.int .i64 a0_1) := (yab a3.out 0).trans rfl
       have h3 : wr.cell? ⟨a6, 1, none⟩ = some (.int .i64 a0_0) := (yab a3.out 1).trans rfl
       have h4 : wr.cell? ⟨a6, 2, none⟩ = some (u104002) := (yab a3.out 2).trans rfl
       have h5 := yad a3.out 0
       have h6 := yad a3.out 1
       have h7 := yad a3.out 2
       go_wp2
       go_roundg k2
       case measure => have := HK1.out; have := HK2.out; omega
       case rel => exact ⟨(wrap64 (c6 + 1)), (b0), (u104002), (by first | rfl | (simp; done) | (simp [*]; done)), H', ⟨by have := HK1.out; have := HK2.out; omega⟩, ⟨by exact upR a5.out⟩, ⟨by exact upB a4.out⟩, ⟨by exact upB a7.out⟩, ⟨by exact upB a3.out⟩, ⟨by repeat (first | (with_reducible first | exact HB.out | apply yaf | apply yac | apply yae | refine below_set ?_ (Aside0.out ‹_›)) | exact HB.out)⟩⟩
   ·
    rw [if_neg c10] at H
    have f4 : decide (c6 < a0_0) = false := decide_eq_false c10
    clear c10
    simp only [Option.some.injEq, Prod.mk.injEq] at H
    obtain ⟨rfl, rfl, rfl⟩ := H
    have l7 := b3.out
    have l8 := a8.out
    have l9 := b4.out
    have m0 := a9.out
    have h8 : wr.cell? ⟨a6, 0, none⟩ = some (.int .i64 a0_1) := (yab a3.out 0).trans rfl
    have h9 : wr.cell? ⟨a6, 1, none⟩ = some (.int .i64 a0_0) := (yab a3.out 1).trans rfl
    have i0 : wr.cell? ⟨a6, 2, none⟩ = some (u104002) := (yab a3.out 2).trans rfl
    have i1 := yad a3.out 0
    have i2 := yad a3.out 1
    have i3 := yad a3.out 2
    have m1 := d1.out
    have m2 := d0.out
    have i4 : wr.cell? ⟨b2, 0, none⟩ = some (.int .i64 0) := (yab a7.out 0).trans rfl
    have i5 : wr.cell? ⟨b2, 1, none⟩ = some (.int .i64 0) := (yab a7.out 1).trans rfl
    have i6 : wr.cell? ⟨b2, 2, none⟩ = some (.slice none 0 0) := (yab a7.out 2).trans rfl
    have i7 := yad a7.out 0
    have i8 := yad a7.out 1
    have i9 := yad a7.out 2
    obtain ⟨g0, g1, j1⟩ := Kd.R_slice a5.out
    subst j1
    go_wp2
    refine bodyPost_ret (results_cell_row rfl _ _ b2 25 #[.int .i64 a0_1, .int .i64 a0_0, .slice g0 b5.length g1] (0, 0) _ rfl (by (with_reducible repeat (first | refine blk_drewN ?_ _ | refine blk_drew ?_ | refine yag ?_ _)); refine blk_put (cs := #[.int .i64 a0_1, .int .i64 a0_0, .slice none 0 0]) ?_ 2 _ rfl; (with_reducible repeat (first | refine blk_drewN ?_ _ | refine blk_drew ?_ | refine yag ?_ _)); refine blk_put (cs := #[.int .i64 a0_1, .int .i64 0, .slice none 0 0]) ?_ 1 _ rfl; (with_reducible repeat (first | refine blk_drewN ?_ _ | refine blk_drew ?_ | refine yag ?_ _)); refine blk_put (cs := #[.int .i64 0, .int .i64 0, .slice none 0 0]) ?_ 0 _ rfl; exact upB a7.out) Try.underlying25 rfl (by kernel_rfl)) rfl ?_
    exact ⟨_, by first | rfl | (simp [errW_none, errW_some] <;> rfl) | (simp [*, errW_none, errW_some] <;> rfl), by (with_reducible repeat (first | apply Kd.R_alloc | apply Kd.R_drewN | apply Kd.R_drew)); exact Kd.R_mono (Kd.R_far (p := ⟨b2, 2, none⟩) (Kd.R_far (p := ⟨b2, 1, none⟩) (Kd.R_far (p := ⟨b2, 0, none⟩) (Kd.R_types a5.out a7.out (by decide)) (fun _ hk => hk.2) (.int .i64 a0_1)) (fun _ hk => hk.2) (.int .i64 a0_0)) (fun _ hk => hk.2) (.slice g0 b5.length g1)) (fun _ hk => trivial), by repeat (first | (with_reducible first | exact HB.out | apply yaf | apply yac | apply yae | refine below_set ?_ (Aside0.out ‹_›)) | exact HB.out)⟩

end Go.Proofs.Ytoifpgkfpdeglaa.X

namespace Go.Proofs.Ytoifpgkfpdeglaa.X
open Go.RowKit Go.Proofs.YtoifpgkfpdeglaaW.PrintWords Go.Proofs.YtoifpgkfpdeglaaW.PrintLast Go.Proofs.YtoifpgkfpdeglaaW.PrintMore
attribute [local go_sem] max2_int min2_int max_two min_two max_three min_three max_four min_four
set_option linter.unusedVariables false
set_option linter.unusedSimpArgs false

open Go.Proofs.YtoifpgkfpdeglaaW.PrintWords renaming blk_cell → yaa, blk_frozen → yac, pw_below_drewN → yad, blk_alloc → yae, below_drew1 → yaf, below_alloc → yag, blk_drew → yah, blk_drewN → yai
open Go.Proofs.YtoifpgkfpdeglaaW.PrintWords.Aside0 renaming mk → yab

/-! ### spec_l6Size: function 77 -/
abbrev q77_0 : Array Bool := #[false, false, false, false, false, false, false, false, false, false, false, false, false, false, false, false, false, false, false, false, false, false, false, false, false, false, false, false, false, false, false, false, false, false]
abbrev q77_1 : Array Bool := #[true, false, false, false, false, false, false, false, false, false, false, false, false, false, false, false, false, false, false, false, false, false, false, false, false, false, false, false, false, false, false, false, false, false]
abbrev q77_2 : Array Bool := #[true, false, true, false, false, false, false, false, false, false, false, false, false, false, false, false, false, false, false, false, false, false, false, false, false, false, false, false, false, false, false, false, false, false]
abbrev q77_3 : Array Bool := #[true, false, true, false, true, false, false, false, false, false, false, false, false, false, false, false, false, false, false, false, false, false, false, false, false, false, false, false, false, false, false, false, false, false]
abbrev q77_4 : Array Bool := #[true, false, true, false, true, true, false, false, false, false, false, false, false, false, false, false, false, false, false, false, false, false, false, false, false, false, false, false, false, false, false, false, false, false]
abbrev q77_5 : Array Bool := #[true, false, true, false, true, true, true, false, false, false, false, false, false, false, false, false, false, false, false, false, false, false, false, false, false, false, false, false, false, false, false, false, false, false]
abbrev q77_6 : Array Bool := #[true, false, true, false, true, true, true, true, false, false, false, false, false, false, false, false, false, false, false, false, false, false, false, false, false, false, false, false, false, false, false, false, false, false]
abbrev q77_7 : Array Bool := #[true, false, true, false, true, true, true, true, false, false, true, false, false, false, false, false, false, false, false, false, false, false, false, false, false, false, false, false, false, false, false, false, false, false]
abbrev q77_8 : Array Bool := #[true, false, true, false, true, true, true, true, false, false, true, false, false, false, true, false, false, false, false, false, false, false, false, false, false, false, false, false, false, false, false, false, false, false]
abbrev q77_9 : Array Bool := #[true, false, true, false, true, true, true, true, false, false, true, false, false, false, true, false, false, true, false, false, false, false, false, false, false, false, false, false, false, false, false, false, false, false]
abbrev q77_10 : Array Bool := #[true, false, true, false, true, true, true, true, false, false, true, false, false, false, true, false, false, true, true, false, false, false, false, false, false, false, false, false, false, false, false, false, false, false]
abbrev q77_11 : Array Bool := #[true, false, true, false, true, true, true, true, false, false, true, false, false, false, true, false, false, true, true, true, false, false, false, false, false, false, false, false, false, false, false, false, false, false]
abbrev q77_12 : Array Bool := #[true, false, true, false, true, true, true, true, false, false, true, false, false, false, true, false, false, true, true, true, true, false, false, false, false, false, false, false, false, false, false, false, false, false]
abbrev q77_13 : Array Bool := #[true, false, true, false, true, true, true, true, false, false, true, false, false, false, true, false, false, true, true, true, true, false, false, true, false, false, false, false, false, false, false, false, false, false]
abbrev q77_14 : Array Bool := #[true, true, true, false, true, true, true, true, false, false, true, false, false, false, true, false, false, true, true, true, true, false, false, true, false, false, false, false, false, false, false, false, false, false]
abbrev q77_15 : Array Bool := #[true, true, true, true, true, true, true, true, false, false, true, false, false, false, true, false, false, true, true, true, true, false, false, true, false, false, false, false, false, false, false, false, false, false]
abbrev q77_16 : Array Bool := #[true, true, true, true, true, true, true, true, true, false, true, false, false, false, true, false, false, true, true, true, true, false, false, true, false, false, false, false, false, false, false, false, false, false]
abbrev q77_17 : Array Bool := #[true, true, true, true, true, true, true, true, true, true, true, false, false, false, true, false, false, true, true, true, true, false, false, true, false, false, false, false, false, false, false, false, false, false]
abbrev q77_18 : Array Bool := #[true, true, true, true, true, true, true, true, true, true, true, true, false, false, true, false, false, true, true, true, true, false, false, true, false, false, false, false, false, false, false, false, false, false]
abbrev q77_19 : Array Bool := #[true, true, true, true, true, true, true, true, true, true, true, true, true, false, true, false, false, true, true, true, true, false, false, true, false, false, false, false, false, false, false, false, false, false]
abbrev q77_20 : Array Bool := #[true, true, true, true, true, true, true, true, true, true, true, true, true, true, true, false, false, true, true, true, true, false, false, true, false, false, false, false, false, false, false, false, false, false]
abbrev q77_21 : Array Bool := #[true, true, true, true, true, true, true, true, true, true, true, true, true, true, true, true, false, true, true, true, true, false, false, true, false, false, false, false, false, false, false, false, false, false]
abbrev q77_22 : Array Bool := #[true, true, true, true, true, true, true, true, true, true, true, true, true, true, true, true, true, true, true, true, true, false, false, true, false, false, false, false, false, false, false, false, false, false]
abbrev q77_23 : Array Bool := #[true, true, true, true, true, true, true, true, true, true, true, true, true, true, true, true, true, true, true, true, true, true, false, true, false, false, false, false, false, false, false, false, false, false]
abbrev q77_24 : Array Bool := #[true, true, true, true, true, true, true, true, true, true, true, true, true, true, true, true, true, true, true, true, true, true, true, true, false, false, false, false, false, false, false, false, false, false]
abbrev q77_25 : Array Bool := #[true, true, true, true, true, true, true, true, true, true, true, true, true, true, true, true, true, true, true, true, true, true, true, true, true, false, false, false, false, false, false, false, false, false]
abbrev q77_26 : Array Bool := #[true, true, true, true, true, true, true, true, true, true, true, true, true, true, true, true, true, true, true, true, true, true, true, true, true, true, false, false, false, false, false, false, false, false]
abbrev q77_27 : Array Bool := #[true, true, true, true, true, true, true, true, true, true, true, true, true, true, true, true, true, true, true, true, true, true, true, true, true, true, true, false, false, false, false, false, false, false]
abbrev q77_28 : Array Bool := #[true, true, true, true, true, true, true, true, true, true, true, true, true, true, true, true, true, true, true, true, true, true, true, true, true, true, true, true, false, false, false, false, false, false]
abbrev q77_29 : Array Bool := #[true, true, true, true, true, true, true, true, true, true, true, true, true, true, true, true, true, true, true, true, true, true, true, true, true, true, true, true, true, false, false, false, false, false]
abbrev q77_30 : Array Bool := #[true, true, true, true, true, true, true, true, true, true, true, true, true, true, true, true, true, true, true, true, true, true, true, true, true, true, true, true, true, true, false, false, false, false]
abbrev q77_31 : Array Bool := #[true, true, true, true, true, true, true, true, true, true, true, true, true, true, true, true, true, true, true, true, true, true, true, true, true, true, true, true, true, true, true, false, false, false]
abbrev q77_32 : Array Bool := #[true, true, true, true, true, true, true, true, true, true, true, true, true, true, true, true, true, true, true, true, true, true, true, true, true, true, true, true, true, true, true, true, false, false]
abbrev q77_33 : Array Bool := #[true, true, true, true, true, true, true, true, true, true, true, true, true, true, true, true, true, true, true, true, true, true, true, true, true, true, true, true, true, true, true, true, true, false]
abbrev q77_34 : Array Bool := #[true, true, true, true, true, true, true, true, true, true, true, true, true, true, true, true, true, true, true, true, true, true, true, true, true, true, true, true, true, true, true, true, true, true]
mutual
def spec_l6Size.l0 : Nat → Int → Int → Int → List (S36) → Int → Int → Int → Int → Int → Int → Int → List (S36) → Option (Int × Int × (List (S36)))
 | 0, _, _, _, _, _, _, _, _, _, _, _, _ => none
 | k + 1, x6, x102000, x102001, x102002, x103000, x103001, x103002, x103003, x103004, x105000, x105001, x105002 => if x6 < x103002 then (spec_l6Size.l1 k x6 0 x102000 x102001 x102002 x103000 x103001 x103002 x103003 x103004 x105000 x105001 x105002) else (some (x105000, x105001, x105002))
def spec_l6Size.l1 : Nat → Int → Int → Int → Int → List (S36) → Int → Int → Int → Int → Int → Int → Int → List (S36) → Option (Int × Int × (List (S36)))
 | 0, _, _, _, _, _, _, _, _, _, _, _, _, _ => none
 | k + 1, x6, x7, x102000, x102001, x102002, x103000, x103001, x103002, x103003, x103004, x105000, x105001, x105002 => if x7 < x103001 then (if (wrap64 (2 * x103002)) = 0 then (none) else (if (wrap64 (2 * x103001)) = 0 then (none) else (if 0 ≤ (wrap64 ((wrap64 ((wrap64 (Int.tdiv (wrap64 ((wrap64 ((wrap64 (2 * x6)) + 1)) * x102001)) (wrap64 (2 * x103002)))) * x102000)) + (wrap64 (Int.tdiv (wrap64 ((wrap64 ((wrap64 (2 * x7)) + 1)) * x102000)) (wrap64 (2 * x103001)))))) then (if (wrap64 ((wrap64 ((wrap64 (Int.tdiv (wrap64 ((wrap64 ((wrap64 (2 * x6)) + 1)) * x102001)) (wrap64 (2 * x103002)))) * x102000)) + (wrap64 (Int.tdiv (wrap64 ((wrap64 ((wrap64 (2 * x7)) + 1)) * x102000)) (wrap64 (2 * x103001)))))) < (x102002.length : Int) then (if x105002.length < 4398046511104 then (spec_l6Size.l1 k x6 (wrap64 (x7 + 1)) x102000 x102001 x102002 x103000 x103001 x103002 x103003 x103004 x105000 x105001 (x105002 ++ [(⟨(rd_T36 x102002 (wrap64 ((wrap64 ((wrap64 (Int.tdiv (wrap64 ((wrap64 ((wrap64 (2 * x6)) + 1)) * x102001)) (wrap64 (2 * x103002)))) * x102000)) + (wrap64 (Int.tdiv (wrap64 ((wrap64 ((wrap64 (2 * x7)) + 1)) * x102000)) (wrap64 (2 * x103001))))))).f0, (rd_T36 x102002 (wrap64 ((wrap64 ((wrap64 (Int.tdiv (wrap64 ((wrap64 ((wrap64 (2 * x6)) + 1)) * x102001)) (wrap64 (2 * x103002)))) * x102000)) + (wrap64 (Int.tdiv (wrap64 ((wrap64 ((wrap64 (2 * x7)) + 1)) * x102000)) (wrap64 (2 * x103001))))))).f1, (rd_T36 x102002 (wrap64 ((wrap64 ((wrap64 (Int.tdiv (wrap64 ((wrap64 ((wrap64 (2 * x6)) + 1)) * x102001)) (wrap64 (2 * x103002)))) * x102000)) + (wrap64 (Int.tdiv (wrap64 ((wrap64 ((wrap64 (2 * x7)) + 1)) * x102000)) (wrap64 (2 * x103001))))))).f2, (rd_T36 x102002 (wrap64 ((wrap64 ((wrap64 (Int.tdiv (wrap64 ((wrap64 ((wrap64 (2 * x6)) + 1)) * x102001)) (wrap64 (2 * x103002)))) * x102000)) + (wrap64 (Int.tdiv (wrap64 ((wrap64 ((wrap64 (2 * x7)) + 1)) * x102000)) (wrap64 (2 * x103001))))))).f3⟩ : S36)])) else (none)) else (none)) else (none)))) else (spec_l6Size.l0 k (wrap64 (x6 + 1)) x102000 x102001 x102002 x103000 x103001 x103002 x103003 x103004 x105000 x105001 x105002)
end
def spec_l6Size.f (k : Nat) (a0_0 : Int) (a0_1 : Int) (l0_2 : List (S36)) (a1_0 : Int) (a1_1 : Int) (a1_2 : Int) (a1_3 : Int) (a1_4 : Int) : Option (Int × Int × (List (S36))) := spec_l6Size.l0 k 0 a0_0 a0_1 l0_2 a1_0 a1_1 a1_2 a1_3 a1_4 a1_1 a1_2 ([] : List (S36))
def spec_l6Size.T8 : Bool × List (List Nat × List Nat) := (true, [([], []), ([0], [0]), ([], []), ([2], [2]), ([], []), ([4], [4]), ([5], [5]), ([], []), ([7], [7]), ([6, 8], [6, 8]), ([], []), ([10], [10]), ([11], [11]), ([9, 12], [9, 12]), ([], []), ([14], [14]), ([13, 15], [13, 15]), ([], []), ([17], [17]), ([18], [18]), ([], []), ([20], [20]), ([19, 21], [19, 21]), ([], []), ([23], [23]), ([24], [24]), ([22, 25], [22, 25]), ([16, 26], [16, 26]), ([3, 27], [3, 27]), ([28], [28]), ([29], [29]), ([1, 30], [1, 30]), ([0, 1, 2, 3, 4, 5, 6, 7, 8, 9, 10, 11, 12, 13, 14, 15, 16, 17, 18, 19, 20, 21, 22, 23, 24, 25, 26, 27, 28, 29, 30, 31], []), ([32, 31, 31, 0, 1, 2, 3, 4, 5, 6, 7, 8, 9, 10, 11, 12, 13, 14, 15, 16, 17, 18, 19, 20, 21, 22, 23, 24, 25, 26, 27, 28, 29, 30, 31], [31, 32])])
def spec_l6Size.B8 : List Nat := [0, 1, 0, 4, 0, 16, 48, 0, 128, 496, 0, 1024, 3072, 8176, 0, 16384, 65520, 0, 131072, 393216, 0, 1048576, 4063232, 0, 8388608, 25165824, 66977792, 134217712, 268435452, 536870908, 1073741820, 2147483647, 4294967295, 8589934591]
theorem spec_l6Size.tab8 : rtab .any (opsOf Try.f77 8) = spec_l6Size.T8 := by kernel_rfl
theorem spec_l6Size.bits8 : waitsOk spec_l6Size.T8.2 spec_l6Size.B8 = true := by kernel_rfl
set_option maxHeartbeats 8000000 in
set_option maxRecDepth 100000 in
theorem spec_l6Size.calls (k : Nat) (a0_0 : Int) (a0_1 : Int) (A0_2 : Option Addr) (c0_2 : Nat) (l0_2 : List (S36)) (a1_0 : Int) (a1_1 : Int) (a1_2 : Int) (a1_3 : Int) (a1_4 : Int) (r1 : Int) (r2 : Int) (r3 : List (S36)) (w : World) (hr0_2 : Kd.C k36 w A0_2 l0_2.length l0_2) (hc0_2 : l0_2.length ≤ c0_2) (h : spec_l6Size.f k a0_0 a0_1 l0_2 a1_0 a1_1 a1_2 a1_3 a1_4 = some (r1, r2, r3)) :
  Calls Try.prog 77 #[.agg #[.int .i64 a0_0, .int .i64 a0_1, .slice A0_2 l0_2.length c0_2], .agg #[.int .i64 a1_0, .int .i64 a1_1, .int .i64 a1_2, .int .i64 a1_3, .int .i64 a1_4]] w fun e w' => ∃ v2_ : Value, e = .returned (.agg #[.int .i64 r1, .int .i64 r2, v2_]) ∧ Kd.R k36 36 w' w.heap.size (fun _ => True) v2_ r3 ∧ Below w.heap.size w w' := by
 have hu25 := Try.underlying25
 have hu27 := Try.underlying27
 have hu36 := Try.underlying36
 have HR0_2 := yab hr0_2
 have HC0_2 := yab hc0_2
 clear hr0_2 hc0_2
 have HB := yab (Below.refl w.heap.size w)
 have H : (spec_l6Size.l0 k 0 a0_0 a0_1 l0_2 a1_0 a1_1 a1_2 a1_3 a1_4 a1_1 a1_2 ([] : List (S36))) = some (r1, r2, r3) := h
 clear h
 have H' := yab H
 clear H
 go_enter Try.func77, Try.ntmps77
 go_wp2_with (first | ((with_reducible refine gate_dst (N := 2) rfl ?_); refine box_event ?hg (N := 2) ?hd (cs := #[.int .i64 a0_0, .int .i64 a0_1, .slice A0_2 l0_2.length c0_2]) (t := 25) ?hr ?_; (case hd => rfl); (case hg => rfl); (case hr => first | (go_simp; done) | (go_simp; rfl)); intro b5 hg w3 hbox hb; have n0_ := yab (below_step (by repeat (first | (with_reducible first | exact HB.out | apply yag | apply yad | apply yaf) | exact HB.out)) hb); have n1_ := yab (hbox); have n2_ := yab ((by rw [hg]; exact (below_size (by repeat (first | (with_reducible first | exact HB.out | apply yag | apply yad | apply yaf) | exact HB.out))) : w.heap.size ≤ b5)); have n3_ := yab ((by rw [hg]; exact (below_size (by repeat (first | (with_reducible first | exact HB.out | apply yag | apply yad | apply yaf) | exact HB.out))) : w.heap.size ≤ b5)); clear HB; have HB := n0_; have b0 := n1_; have n9 := n2_; have o0 := n3_; clear n0_ n1_ n2_ n3_; clear hb hbox hg) | ((with_reducible refine gate_dst (N := 3) rfl ?_); refine box_event ?hg (N := 3) ?hd (cs := #[.int .i64 a1_0, .int .i64 a1_1, .int .i64 a1_2, .int .i64 a1_3, .int .i64 a1_4]) (t := 27) ?hr ?_; (case hd => rfl); (case hg => rfl); (case hr => first | (go_simp; done) | (go_simp; rfl)); intro a9 hg w4 hbox hb; have n0_ := yab (blk_below (g := b5) (o := .cells #[.int .i64 a0_0, .int .i64 a0_1, .slice A0_2 l0_2.length c0_2] 25 (0, 0)) (upB b0.out) hb); have n1_ := yab (below_step (by repeat (first | (with_reducible first | exact HB.out | apply yag | apply yad | apply yaf | refine below_set ?_ (Aside0.out ‹_›)) | exact HB.out)) hb); have n2_ := yab (hbox); have n3_ := yab ((by rw [hg]; exact (below_size (by repeat (first | (with_reducible first | exact HB.out | apply yag | apply yad | apply yaf | refine below_set ?_ (Aside0.out ‹_›)) | exact HB.out))) : w.heap.size ≤ a9)); have n4_ := yab ((by rw [hg]; exact (below_size (by repeat (first | (with_reducible first | exact HB.out | apply yag | apply yad | apply yaf | refine below_set ?_ (Aside0.out ‹_›)) | exact HB.out))) : w.heap.size ≤ a9)); have n5_ := yab ((by rw [hg]; exact Nat.ne_of_lt (blk_lt (g := b5) (o := .cells #[.int .i64 a0_0, .int .i64 a0_1, .slice A0_2 l0_2.length c0_2] 25 (0, 0)) (upB b0.out)) : b5 ≠ a9)); have n6_ := yab ((by rw [hg]; exact Nat.ne_of_gt (blk_lt (g := b5) (o := .cells #[.int .i64 a0_0, .int .i64 a0_1, .slice A0_2 l0_2.length c0_2] 25 (0, 0)) (upB b0.out)) : a9 ≠ b5)); clear b0; clear HB; have b0 := n0_; have HB := n1_; have a8 := n2_; have o1 := n3_; have o2 := n4_; have d0 := n5_; have d1 := n6_; clear n0_ n1_ n2_ n3_ n4_ n5_ n6_; clear hb hbox hg) | ((with_reducible refine gate_dst (N := 4) rfl ?_); refine box_event ?hg (N := 4) ?hd (cs := #[.int .i64 0, .int .i64 0, .slice none 0 0]) (t := 25) ?hr ?_; (case hd => rfl); (case hg => rfl); (case hr => first | (go_simp; done) | (go_simp; rfl)); intro b8 hg w5 hbox hb; have n0_ := yab (blk_below (g := b5) (o := .cells #[.int .i64 a0_0, .int .i64 a0_1, .slice A0_2 l0_2.length c0_2] 25 (0, 0)) (upB b0.out) hb); have n1_ := yab (blk_below (g := a9) (o := .cells #[.int .i64 a1_0, .int .i64 a1_1, .int .i64 a1_2, .int .i64 a1_3, .int .i64 a1_4] 27 (0, 0)) (upB a8.out) hb); have n2_ := yab (below_step (by repeat (first | (with_reducible first | exact HB.out | apply yag | apply yad | apply yaf | refine below_set ?_ (Aside0.out ‹_›)) | exact HB.out)) hb); have n3_ := yab (hbox); have n4_ := yab ((by rw [hg]; exact (below_size (by repeat (first | (with_reducible first | exact HB.out | apply yag | apply yad | apply yaf | refine below_set ?_ (Aside0.out ‹_›)) | exact HB.out))) : w.heap.size ≤ b8)); have n5_ := yab ((by rw [hg]; exact (below_size (by repeat (first | (with_reducible first | exact HB.out | apply yag | apply yad | apply yaf | refine below_set ?_ (Aside0.out ‹_›)) | exact HB.out))) : w.heap.size ≤ b8)); have n6_ := yab ((by rw [hg]; exact Nat.ne_of_lt (blk_lt (g := b5) (o := .cells #[.int .i64 a0_0, .int .i64 a0_1, .slice A0_2 l0_2.length c0_2] 25 (0, 0)) (upB b0.out)) : b5 ≠ b8)); have n7_ := yab ((by rw [hg]; exact Nat.ne_of_gt (blk_lt (g := b5) (o := .cells #[.int .i64 a0_0, .int .i64 a0_1, .slice A0_2 l0_2.length c0_2] 25 (0, 0)) (upB b0.out)) : b8 ≠ b5)); have n8_ := yab ((by rw [hg]; exact Nat.ne_of_lt (blk_lt (g := a9) (o := .cells #[.int .i64 a1_0, .int .i64 a1_1, .int .i64 a1_2, .int .i64 a1_3, .int .i64 a1_4] 27 (0, 0)) (upB a8.out)) : a9 ≠ b8)); have n9_ := yab ((by rw [hg]; exact Nat.ne_of_gt (blk_lt (g := a9) (o := .cells #[.int .i64 a1_0, .int .i64 a1_1, .int .i64 a1_2, .int .i64 a1_3, .int .i64 a1_4] 27 (0, 0)) (upB a8.out)) : b8 ≠ a9)); clear b0; clear a8; clear HB; have b0 := n0_; have a8 := n1_; have HB := n2_; have b3 := n3_; have o3 := n4_; have o4 := n5_; have e8 := n6_; have e9 := n7_; have d2 := n8_; have d3 := n9_; clear n0_ n1_ n2_ n3_ n4_ n5_ n6_ n7_ n8_ n9_; clear hb hbox hg; have t4 := d1.out; have t5 := d0.out; have t6 := d2.out; have t7 := d3.out; have f4 : w5.cell? ⟨a9, 0, none⟩ = some (.int .i64 a1_0) := (yaa a8.out 0).trans rfl; have f5 : w5.cell? ⟨a9, 1, none⟩ = some (.int .i64 a1_1) := (yaa a8.out 1).trans rfl; have f6 : w5.cell? ⟨a9, 2, none⟩ = some (.int .i64 a1_2) := (yaa a8.out 2).trans rfl; have f7 : w5.cell? ⟨a9, 3, none⟩ = some (.int .i64 a1_3) := (yaa a8.out 3).trans rfl; have f8 : w5.cell? ⟨a9, 4, none⟩ = some (.int .i64 a1_4) := (yaa a8.out 4).trans rfl; have f9 := yac a8.out 0; have g0 := yac a8.out 1; have g1 := yac a8.out 2; have g2 := yac a8.out 3; have g3 := yac a8.out 4) | ((with_reducible refine gate_dst (N := 5) rfl ?_); refine box_event ?hg (N := 5) ?hd (cs := #[.int .i64 0, .int .i64 0, .slice none 0 0]) (t := 25) ?hr ?_; (case hd => rfl); (case hg => rfl); (case hr => first | (go_simp; done) | (go_simp; rfl)); intro b7 hg w9 hbox hb; have n0_ := yab (blk_below (g := b5) (o := .cells #[.int .i64 a0_0, .int .i64 a0_1, .slice A0_2 l0_2.length c0_2] 25 (0, 0)) (upB b0.out) hb); have n1_ := yab (blk_below (g := a9) (o := .cells #[.int .i64 a1_0, .int .i64 a1_1, .int .i64 a1_2, .int .i64 a1_3, .int .i64 a1_4] 27 (0, 0)) (upB a8.out) hb); have n2_ := yab (blk_below (g := b8) (o := .cells #[.int .i64 0, .int .i64 0, .slice none 0 0] 25 (0, 0)) (upB b3.out) hb); have n3_ := yab (below_step (by repeat (first | (with_reducible first | exact HB.out | apply yag | apply yad | apply yaf | refine below_set ?_ (Aside0.out ‹_›)) | exact HB.out)) hb); have n4_ := yab (hbox); have n5_ := yab ((by rw [hg]; exact (below_size (by repeat (first | (with_reducible first | exact HB.out | apply yag | apply yad | apply yaf | refine below_set ?_ (Aside0.out ‹_›)) | exact HB.out))) : w.heap.size ≤ b7)); have n6_ := yab ((by rw [hg]; exact (below_size (by repeat (first | (with_reducible first | exact HB.out | apply yag | apply yad | apply yaf | refine below_set ?_ (Aside0.out ‹_›)) | exact HB.out))) : w.heap.size ≤ b7)); have n7_ := yab ((by rw [hg]; exact Nat.ne_of_lt (blk_lt (g := b5) (o := .cells #[.int .i64 a0_0, .int .i64 a0_1, .slice A0_2 l0_2.length c0_2] 25 (0, 0)) (upB b0.out)) : b5 ≠ b7)); have n8_ := yab ((by rw [hg]; exact Nat.ne_of_gt (blk_lt (g := b5) (o := .cells #[.int .i64 a0_0, .int .i64 a0_1, .slice A0_2 l0_2.length c0_2] 25 (0, 0)) (upB b0.out)) : b7 ≠ b5)); have n9_ := yab ((by rw [hg]; exact Nat.ne_of_lt (blk_lt (g := a9) (o := .cells #[.int .i64 a1_0, .int .i64 a1_1, .int .i64 a1_2, .int .i64 a1_3, .int .i64 a1_4] 27 (0, 0)) (upB a8.out)) : a9 ≠ b7)); have h6 := yab ((by rw [hg]; exact Nat.ne_of_gt (blk_lt (g := a9) (o := .cells #[.int .i64 a1_0, .int .i64 a1_1, .int .i64 a1_2, .int .i64 a1_3, .int .i64 a1_4] 27 (0, 0)) (upB a8.out)) : b7 ≠ a9)); have h7 := yab ((by rw [hg]; exact Nat.ne_of_lt (blk_lt (g := b8) (o := .cells #[.int .i64 0, .int .i64 0, .slice none 0 0] 25 (0, 0)) (upB b3.out)) : b8 ≠ b7)); have h8 := yab ((by rw [hg]; exact Nat.ne_of_gt (blk_lt (g := b8) (o := .cells #[.int .i64 0, .int .i64 0, .slice none 0 0] 25 (0, 0)) (upB b3.out)) : b7 ≠ b8)); clear b0; clear a8; clear b3; clear HB; have b0 := n0_; have a8 := n1_; have b3 := n2_; have HB := n3_; have b1 := n4_; have o5 := n5_; have o6 := n6_; have b9 := n7_; have d8 := n8_; have b4 := n9_; have c2 := h6; have c0 := h7; have d9 := h8; clear n0_ n1_ n2_ n3_ n4_ n5_ n6_ n7_ n8_ n9_ h6 h7 h8; clear hb hbox hg; have o7 := d8.out; have o8 := b9.out; have o9 := c2.out; have p0 := b4.out; have p1 := d9.out; have p3 := c0.out; have e2 : w9.cell? ⟨b7, 0, none⟩ = some (.int .i64 0) := (yaa b1.out 0).trans rfl; have e3 : w9.cell? ⟨b7, 1, none⟩ = some (.int .i64 0) := (yaa b1.out 1).trans rfl; have e4 : w9.cell? ⟨b7, 2, none⟩ = some (.slice none 0 0) := (yaa b1.out 2).trans rfl; have e5 := yac b1.out 0; have e6 := yac b1.out 1; have e7 := yac b1.out 2))
 (try simp only [Act.put, List.setIfInBounds_toArray, List.set_cons_zero, List.set_cons_succ])
 go_loopg [6] k (fun kq v6 w' => ∃ (e0 : Int) (c3 : List (S36)) (u105002 : Value), v6 = .int .i64 e0 ∧ Aside0 (spec_l6Size.l0 kq e0 a0_0 a0_1 l0_2 a1_0 a1_1 a1_2 a1_3 a1_4 a1_1 a1_2 c3 = some (r1, r2, r3)) ∧ Aside0 (kq ≤ k) ∧ Aside0 (Kd.R k36 36 w' w.heap.size (fun _ => True) u105002 c3) ∧ Aside0 (w'.heap[b5]? = some (.cells #[.int .i64 a0_0, .int .i64 a0_1, (.slice A0_2 l0_2.length c0_2)] 25 (0, 0))) ∧ Aside0 (w'.heap[a9]? = some (.cells #[.int .i64 a1_0, .int .i64 a1_1, .int .i64 a1_2, .int .i64 a1_3, .int .i64 a1_4] 27 (0, 0))) ∧ Aside0 (w'.heap[b8]? = some (.cells #[.int .i64 0, .int .i64 0, (.slice none 0 0)] 25 (0, 0))) ∧ Aside0 (w'.heap[b7]? = some (.cells #[.int .i64 a1_1, .int .i64 a1_2, u105002] 25 (0, 0))) ∧ Aside0 (Below w.heap.size w w'))
 case atStart => exact ⟨(0), (([] : List (S36))), (.slice none 0 0), (by first | rfl | (simp; done) | (simp [*]; done)), H', ⟨Nat.le_refl _⟩, ⟨by first | exact Kd.R_nil _ _ _ _ _ | exact Kd.N_nil _ _ _ _ _ | exact Kd.V_nil _ _ _ _ _ | exact Kd.Q_nil _ _ _ _ _ | exact Kd.S_nil _ _ _ _ _⟩, ⟨by (with_reducible repeat (first | refine yai ?_ _ | refine yah ?_ | refine yae ?_ _)); refine blk_far ?_ b9.out _; (with_reducible repeat (first | refine yai ?_ _ | refine yah ?_ | refine yae ?_ _)); refine blk_far ?_ b9.out _; (with_reducible repeat (first | refine yai ?_ _ | refine yah ?_ | refine yae ?_ _)); refine blk_far ?_ b9.out _; exact upB b0.out⟩, ⟨by (with_reducible repeat (first | refine yai ?_ _ | refine yah ?_ | refine yae ?_ _)); refine blk_far ?_ b4.out _; (with_reducible repeat (first | refine yai ?_ _ | refine yah ?_ | refine yae ?_ _)); refine blk_far ?_ b4.out _; (with_reducible repeat (first | refine yai ?_ _ | refine yah ?_ | refine yae ?_ _)); refine blk_far ?_ b4.out _; exact upB a8.out⟩, ⟨by (with_reducible repeat (first | refine yai ?_ _ | refine yah ?_ | refine yae ?_ _)); refine blk_far ?_ c0.out _; (with_reducible repeat (first | refine yai ?_ _ | refine yah ?_ | refine yae ?_ _)); refine blk_far ?_ c0.out _; (with_reducible repeat (first | refine yai ?_ _ | refine yah ?_ | refine yae ?_ _)); refine blk_far ?_ c0.out _; exact upB b3.out⟩, ⟨by (with_reducible repeat (first | refine yai ?_ _ | refine yah ?_ | refine yae ?_ _)); refine blk_put (cs := #[.int .i64 a1_1, .int .i64 a1_2, .slice none 0 0]) ?_ 2 _ rfl; (with_reducible repeat (first | refine yai ?_ _ | refine yah ?_ | refine yae ?_ _)); refine blk_put (cs := #[.int .i64 a1_1, .int .i64 0, .slice none 0 0]) ?_ 1 _ rfl; (with_reducible repeat (first | refine yai ?_ _ | refine yah ?_ | refine yae ?_ _)); refine blk_put (cs := #[.int .i64 0, .int .i64 0, .slice none 0 0]) ?_ 0 _ rfl; exact upB b1.out⟩, ⟨by repeat (first | (with_reducible first | exact HB.out | apply yag | apply yad | apply yaf | refine below_set ?_ (Aside0.out ‹_›)) | exact HB.out)⟩⟩
 case round =>
  clear H'
  try clear c1
  try clear p2
  try clear c6
  try clear c7
  try clear c10
  try clear c11
  try clear c12
  try clear e2
  try clear e3
  try clear e4
  try clear f4
  try clear f5
  try clear f6
  try clear f7
  try clear f8
  try clear e5
  try clear e6
  try clear e7
  try clear f9
  try clear g0
  try clear g1
  try clear g2
  try clear g3
  obtain ⟨e0, c3, u105002, rfl, HA, HK1, b2, b0, a8, b3, b1, HB⟩ := hrel
  cases gk with
  | zero => exact absurd HA.out (by simp [spec_l6Size.l0])
  | succ k1 =>
   have H := HA.out
   clear HA
   simp only [spec_l6Size.l0] at H
   by_cases c14 : e0 < a1_2
   ·
    rw [if_pos c14] at H
    have h4 : decide (e0 < a1_2) = true := decide_eq_true c14
    clear c14
    have H' := yab H
    clear H
    have p4 := d1.out
    have p5 := d0.out
    have p6 := d2.out
    have p7 := d3.out
    have p8 := b4.out
    have p9 := c2.out
    have g4 : wr.cell? ⟨a9, 0, none⟩ = some (.int .i64 a1_0) := (yaa a8.out 0).trans rfl
    have g5 : wr.cell? ⟨a9, 1, none⟩ = some (.int .i64 a1_1) := (yaa a8.out 1).trans rfl
    have g6 : wr.cell? ⟨a9, 2, none⟩ = some (.int .i64 a1_2) := (yaa a8.out 2).trans rfl
    have g7 : wr.cell? ⟨a9, 3, none⟩ = some (.int .i64 a1_3) := (yaa a8.out 3).trans rfl
    have g8 : wr.cell? ⟨a9, 4, none⟩ = some (.int .i64 a1_4) := (yaa a8.out 4).trans rfl
    have g9 := yac a8.out 0
    have h0 := yac a8.out 1
    have h1 := yac a8.out 2
    have h2 := yac a8.out 3
    have h3 := yac a8.out 4
    go_wp2
    (try simp only [Act.put, List.setIfInBounds_toArray, List.set_cons_zero, List.set_cons_succ])
    go_loopg [7] k1 (fun kq v7 w' => ∃ (e1 : Int) (b6 : List (S36)) (u105002 : Value), v7 = .int .i64 e1 ∧ Aside0 (spec_l6Size.l1 kq e0 e1 a0_0 a0_1 l0_2 a1_0 a1_1 a1_2 a1_3 a1_4 a1_1 a1_2 b6 = some (r1, r2, r3)) ∧ Aside0 (kq ≤ k1) ∧ Aside0 (Kd.R k36 36 w' w.heap.size (fun _ => True) u105002 b6) ∧ Aside0 (w'.heap[b5]? = some (.cells #[.int .i64 a0_0, .int .i64 a0_1, (.slice A0_2 l0_2.length c0_2)] 25 (0, 0))) ∧ Aside0 (w'.heap[a9]? = some (.cells #[.int .i64 a1_0, .int .i64 a1_1, .int .i64 a1_2, .int .i64 a1_3, .int .i64 a1_4] 27 (0, 0))) ∧ Aside0 (w'.heap[b8]? = some (.cells #[.int .i64 0, .int .i64 0, (.slice none 0 0)] 25 (0, 0))) ∧ Aside0 (w'.heap[b7]? = some (.cells #[.int .i64 a1_1, .int .i64 a1_2, u105002] 25 (0, 0))) ∧ Aside0 (Below w.heap.size w w'))
    case atStart => exact ⟨(0), (c3), (u105002), (by first | rfl | (simp; done) | (simp [*]; done)), H', ⟨Nat.le_refl _⟩, ⟨by exact upR b2.out⟩, ⟨by exact upB b0.out⟩, ⟨by exact upB a8.out⟩, ⟨by exact upB b3.out⟩, ⟨by exact upB b1.out⟩, ⟨by repeat (first | (with_reducible first | exact HB.out | apply yag | apply yad | apply yaf | refine below_set ?_ (Aside0.out ‹_›)) | exact HB.out)⟩⟩
    case round =>
     clear H'
     try clear c1
     try clear p2
     try clear c6
     try clear c7
     try clear c10
     try clear c11
     try clear c12
     try clear c14
     try clear h4
     try clear c15
     try clear c16
     try clear c17
     try clear e2
     try clear e3
     try clear e4
     try clear g4
     try clear g5
     try clear g6
     try clear g7
     try clear g8
     try clear f4
     try clear f5
     try clear f6
     try clear f7
     try clear f8
     try clear e5
     try clear e6
     try clear e7
     try clear g9
     try clear h0
     try clear h1
     try clear h2
     try clear h3
     try clear f9
     try clear g0
     try clear g1
     try clear g2
     try clear g3
     try clear p2
     obtain ⟨e1, b6, u105002, rfl, HA, HK2, b2, b0, a8, b3, b1, HB⟩ := hrel
     cases gk with
     | zero => exact absurd HA.out (by simp [spec_l6Size.l1])
     | succ k2 =>
      have H := HA.out
      clear HA
      simp only [spec_l6Size.l1] at H
      by_cases c19 : e1 < a1_1
      ·
       rw [if_pos c19] at H
       have h9 : decide (e1 < a1_1) = true := decide_eq_true c19
       clear c19
       by_cases c20 : (wrap64 (2 * a1_2)) = 0
       ·
        rw [if_pos c20] at H
        exact absurd H (by simp)
       ·
        rw [if_neg c20] at H
        have q0 : ((wrap64 (2 * a1_2)) == 0) = false := beq_eq_false_iff_ne.mpr c20
        have q1 : ((wrap64 (2 * a1_2)) != 0) = true := bne_iff_ne.mpr c20
        by_cases c21 : (wrap64 (2 * a1_1)) = 0
        ·
         rw [if_pos c21] at H
         exact absurd H (by simp)
        ·
         rw [if_neg c21] at H
         have q2 : ((wrap64 (2 * a1_1)) == 0) = false := beq_eq_false_iff_ne.mpr c21
         have q3 : ((wrap64 (2 * a1_1)) != 0) = true := bne_iff_ne.mpr c21
         obtain ⟨ji22, hji22⟩ : ∃ j_ : Int, (wrap64 ((wrap64 ((wrap64 (Int.tdiv (wrap64 ((wrap64 ((wrap64 (2 * e0)) + 1)) * a0_1)) (wrap64 (2 * a1_2)))) * a0_0)) + (wrap64 (Int.tdiv (wrap64 ((wrap64 ((wrap64 (2 * e1)) + 1)) * a0_0)) (wrap64 (2 * a1_1)))))) = j_ := ⟨_, rfl⟩
         replace H : (if 0 ≤ (ji22) then (if (ji22) < (l0_2.length : Int) then (if b6.length < 4398046511104 then (spec_l6Size.l1 k2 e0 (wrap64 (e1 + 1)) a0_0 a0_1 l0_2 a1_0 a1_1 a1_2 a1_3 a1_4 a1_1 a1_2 (b6 ++ [(⟨(rd_T36 l0_2 (ji22)).f0, (rd_T36 l0_2 (ji22)).f1, (rd_T36 l0_2 (ji22)).f2, (rd_T36 l0_2 (ji22)).f3⟩ : S36)])) else (none)) else (none)) else (none)) = some (r1, r2, r3) := by first | (rw [hji22] at H; exact H) | (simp only [hji22] at H ⊢; exact H)
         have hji22w : (IntKind.i64.wrap ((wrap64 ((wrap64 (Int.tdiv (wrap64 ((wrap64 ((wrap64 (2 * e0)) + 1)) * a0_1)) (wrap64 (2 * a1_2)))) * a0_0)) + (wrap64 (Int.tdiv (wrap64 ((wrap64 ((wrap64 (2 * e1)) + 1)) * a0_0)) (wrap64 (2 * a1_1)))))) = ji22 := (i64_w _).trans hji22
         by_cases c23 : 0 ≤ (ji22)
         ·
          rw [if_pos c23] at H
          have q4 : decide (0 ≤ (ji22)) = true := decide_eq_true c23
          clear c23
          by_cases c24 : (ji22) < (l0_2.length : Int)
          ·
           rw [if_pos c24] at H
           have q5 : decide ((ji22) < (l0_2.length : Int)) = true := decide_eq_true c24
           clear c24
           by_cases c25 : b6.length < 4398046511104
           ·
            rw [if_pos c25] at H
            have LMc25 := yab c25
            clear c25
            obtain ⟨y106, hy106⟩ : ∃ y_ : List (S36), y_ = (b6 ++ [(⟨(rd_T36 l0_2 (ji22)).f0, (rd_T36 l0_2 (ji22)).f1, (rd_T36 l0_2 (ji22)).f2, (rd_T36 l0_2 (ji22)).f3⟩ : S36)]) := ⟨_, rfl⟩
            replace H : (spec_l6Size.l1 k2 e0 (wrap64 (e1 + 1)) a0_0 a0_1 l0_2 a1_0 a1_1 a1_2 a1_3 a1_4 a1_1 a1_2 y106) = some (r1, r2, r3) := by first | (rw [hy106]; with_reducible exact H) | (have H2_ := (Option.bind_some _ _).symm.trans H; rw [hy106]; with_reducible exact H2_) | (have H2_ := (Option.bind_some _ _).symm.trans H; with_reducible exact H2_) | with_reducible exact H | (rw [hy106]; exact H) | exact H
            have Ny106 := yab hy106
            clear hy106
            have H' := yab H
            clear H
            have q6 := d1.out
            have q7 := d0.out
            have q8 := d2.out
            have q9 := d3.out
            have r0 := b4.out
            have r4 := c2.out
            have i5 : wr.cell? ⟨a9, 0, none⟩ = some (.int .i64 a1_0) := (yaa a8.out 0).trans rfl
            have i6 : wr.cell? ⟨a9, 1, none⟩ = some (.int .i64 a1_1) := (yaa a8.out 1).trans rfl
            have i7 : wr.cell? ⟨a9, 2, none⟩ = some (.int .i64 a1_2) := (yaa a8.out 2).trans rfl
            have i8 : wr.cell? ⟨a9, 3, none⟩ = some (.int .i64 a1_3) := (yaa a8.out 3).trans rfl
            have i9 : wr.cell? ⟨a9, 4, none⟩ = some (.int .i64 a1_4) := (yaa a8.out 4).trans rfl
            have j0 := yac a8.out 0
            have j1 := yac a8.out 1
            have j2 := yac a8.out 2
            have j3 := yac a8.out 3
            have j4 := yac a8.out 4
            try go_wp2
            have n0_ := yab (Kd.R_drew b2.out)
            have n1_ := yab (yah b0.out)
            have n2_ := yab (yah a8.out)
            have n3_ := yab (yah b3.out)
            have n4_ := yab (yah b1.out)
            have n5_ := yab (yaf HB.out)
            clear b2 b0 a8 b3 b1 HB
            have b2 := n0_
            have b0 := n1_
            have a8 := n2_
            have b3 := n3_
            have b1 := n4_
            have HB := n5_
            clear n0_ n1_ n2_ n3_ n4_ n5_
            have p105 : 0 ≤ ((ji22) : Int) := of_decide_eq_true (by first | (with_reducible assumption) | assumption)
            have q105 : (ji22) < (l0_2.length : Int) := of_decide_eq_true (by first | (with_reducible assumption) | assumption)
            obtain ⟨ad105, n7, d4, d5, d6, d7⟩ := at_T36 HR0_2.out (ji22) p105 q105
            have c4 := d7
            have c5 := d6
            have c8 := d5
            have c9 := d4
            cases n7
            replace d4 := (HB.out.cell (World.block_lt_of_cell? w _ d4)).trans d4
            replace d5 := (HB.out.cell (World.block_lt_of_cell? w _ d5)).trans d5
            replace d6 := (HB.out.cell (World.block_lt_of_cell? w _ d6)).trans d6
            replace d7 := (HB.out.cell (World.block_lt_of_cell? w _ d7)).trans d7
            replace p105 := eq_true p105
            replace q105 := eq_true q105
            refine start_ (n := 34) (S := fun w' => w'.cell? ⟨b7, 0, none⟩ = some (.int .i64 a1_1) ∧ w'.cell? ⟨b7, 1, none⟩ = some (.int .i64 a1_2) ∧ w'.cell? ⟨b7, 2, none⟩ = some (u105002) ∧ w'.cell? ⟨b5, 0, none⟩ = some (.int .i64 a0_0) ∧ w'.cell? ⟨b5, 1, none⟩ = some (.int .i64 a0_1) ∧ w'.cell? ⟨b5, 2, none⟩ = some (.slice (some ad105) l0_2.length c0_2) ∧ w'.cell? ⟨a9, 0, none⟩ = some (.int .i64 a1_0) ∧ w'.cell? ⟨a9, 1, none⟩ = some (.int .i64 a1_1) ∧ w'.cell? ⟨a9, 2, none⟩ = some (.int .i64 a1_2) ∧ w'.cell? ⟨a9, 3, none⟩ = some (.int .i64 a1_3) ∧ w'.cell? ⟨a9, 4, none⟩ = some (.int .i64 a1_4) ∧ w'.cell? (ad105.add (((ji22)).toNat * 4)) = some (.int .i64 ((rd_T36 l0_2 (ji22)).f0)) ∧ w'.cell? ⟨(ad105.add (((ji22)).toNat * 4)).block, (ad105.add (((ji22)).toNat * 4)).off + 1, none⟩ = some (.int .i64 ((rd_T36 l0_2 (ji22)).f1)) ∧ w'.cell? ⟨(ad105.add (((ji22)).toNat * 4)).block, (ad105.add (((ji22)).toNat * 4)).off + 2, none⟩ = some (.int .i64 ((rd_T36 l0_2 (ji22)).f2)) ∧ w'.cell? ⟨(ad105.add (((ji22)).toNat * 4)).block, (ad105.add (((ji22)).toNat * 4)).off + 3, none⟩ = some (.int .i64 ((rd_T36 l0_2 (ji22)).f3))) (ds := [33]) q77_0 (by kernel_rfl) rfl rfl ⟨(yaa b1.out 0).trans rfl, (yaa b1.out 1).trans rfl, (yaa b1.out 2).trans rfl, (yaa b0.out 0).trans rfl, (yaa b0.out 1).trans rfl, (yaa b0.out 2).trans rfl, (yaa a8.out 0).trans rfl, (yaa a8.out 1).trans rfl, (yaa a8.out 2).trans rfl, (yaa a8.out 3).trans rfl, (yaa a8.out 4).trans rfl, ((HB.out.cell (World.block_lt_of_cell? w _ c9)).trans c9), ((HB.out.cell (World.block_lt_of_cell? w _ c8)).trans c8), ((HB.out.cell (World.block_lt_of_cell? w _ c5)).trans c5), ((HB.out.cell (World.block_lt_of_cell? w _ c4)).trans c4)⟩ (fun hHeld => ?_); refine with_tabW spec_l6Size.tab8 spec_l6Size.bits8 (fun HT_ HW_ => ?_)
            generalize wr.drew = w30 at b2 b0 a8 b3 b1 HB d4 d5 d6 d7 hHeld ⊢
            refine pz_ 0 25 q77_1 HT_ (by kernel_rfl) ?_
            refine pz_ 2 27 q77_2 HT_ (by kernel_rfl) ?_
            refine pz_ 4 29 q77_3 HT_ (by kernel_rfl) ?_
            refine pz_ 5 30 q77_4 HT_ (by kernel_rfl) ?_
            refine pz_ 6 31 q77_5 HT_ (by kernel_rfl) ?_
            refine pz_ 7 32 q77_6 HT_ (by kernel_rfl) ?_
            refine pz_ 10 35 q77_7 HT_ (by kernel_rfl) ?_
            refine pz_ 14 39 q77_8 HT_ (by kernel_rfl) ?_
            refine pz_ 17 42 q77_9 HT_ (by kernel_rfl) ?_
            refine pz_ 18 43 q77_10 HT_ (by kernel_rfl) ?_
            refine pz_ 19 44 q77_11 HT_ (by kernel_rfl) ?_
            refine pz_ 20 45 q77_12 HT_ (by kernel_rfl) ?_
            refine pz_ 23 48 q77_13 HT_ (by kernel_rfl) ?_
            refine tz_ 1 26 q77_14 HT_ HW_ (by kernel_rfl) hHeld ?_
            refine tz_ 3 28 q77_15 HT_ HW_ (by kernel_rfl) hHeld ?_
            refine tz_ 8 33 q77_16 HT_ HW_ (by kernel_rfl) hHeld ?_
            refine pz_ 9 34 q77_17 HT_ (by kernel_rfl) ?_
            refine tz_ 11 36 q77_18 HT_ HW_ (by kernel_rfl) hHeld ?_
            refine pz_ 12 37 q77_19 HT_ (by kernel_rfl) ?_
            refine pz_ 13 38 q77_20 HT_ (by kernel_rfl) ?_
            refine tz_ 15 40 q77_21 HT_ HW_ (by kernel_rfl) hHeld ?_
            refine pz_ 16 41 q77_22 HT_ (by kernel_rfl) ?_
            refine tz_ 21 46 q77_23 HT_ HW_ (by kernel_rfl) hHeld ?_
            refine pz_ 22 47 q77_24 HT_ (by kernel_rfl) ?_
            refine tz_ 24 49 q77_25 HT_ HW_ (by kernel_rfl) hHeld ?_
            refine pz_ 25 50 q77_26 HT_ (by kernel_rfl) ?_
            refine pz_ 26 51 q77_27 HT_ (by kernel_rfl) ?_
            refine pz_ 27 52 q77_28 HT_ (by kernel_rfl) ?_
            refine pz_ 28 53 q77_29 HT_ (by kernel_rfl) ?_
            refine tz_ 29 54 q77_30 HT_ HW_ (by kernel_rfl) hHeld ?_
            refine one_ (i := 30) (N := some 55) q77_31 rfl rfl (one_of HT_.out (by kernel_rfl)) (by decide) (fun K hK => ?_)
            refine value_ (w1 := ?_) (v := ?_) (by rfl) rfl ?_ ?_
            rotate_left 2
            ·
             go_simp
             constructor
             ·
              rfl
             ·
              rfl
            refine hK.out _ _ ⟨(yaa (yae b1.out _) 0).trans rfl, (yaa (yae b1.out _) 1).trans rfl, (yaa (yae b1.out _) 2).trans rfl, (yaa (yae b0.out _) 0).trans rfl, (yaa (yae b0.out _) 1).trans rfl, (yaa (yae b0.out _) 2).trans rfl, (yaa (yae a8.out _) 0).trans rfl, (yaa (yae a8.out _) 1).trans rfl, (yaa (yae a8.out _) 2).trans rfl, (yaa (yae a8.out _) 3).trans rfl, (yaa (yae a8.out _) 4).trans rfl, (World.cell?_alloc_lt _ _ _ (World.block_lt_of_cell? _ _ (((HB.out.cell (World.block_lt_of_cell? w _ c9)).trans c9)))).trans (((HB.out.cell (World.block_lt_of_cell? w _ c9)).trans c9)), (World.cell?_alloc_lt _ _ _ (World.block_lt_of_cell? _ _ (((HB.out.cell (World.block_lt_of_cell? w _ c8)).trans c8)))).trans (((HB.out.cell (World.block_lt_of_cell? w _ c8)).trans c8)), (World.cell?_alloc_lt _ _ _ (World.block_lt_of_cell? _ _ (((HB.out.cell (World.block_lt_of_cell? w _ c5)).trans c5)))).trans (((HB.out.cell (World.block_lt_of_cell? w _ c5)).trans c5)), (World.cell?_alloc_lt _ _ _ (World.block_lt_of_cell? _ _ (((HB.out.cell (World.block_lt_of_cell? w _ c4)).trans c4)))).trans (((HB.out.cell (World.block_lt_of_cell? w _ c4)).trans c4))⟩ (fun hHeld => ?_)
            clear hK K
            refine norm_ (a' := ?_) ?_ ?_
            rotate_left
            ·
             show Act.put _ (some 55) _ = _
             simp only [Act.put, List.setIfInBounds_toArray, List.set_cons_zero, List.set_cons_succ, i64_w, i32_w]
             rfl
            refine one_ (i := 31) (N := some 56) q77_32 rfl rfl (one_of HT_.out (by kernel_rfl)) (by decide) (fun K hK => ?_)
            refine Kd.R_append_step k36 (w0 := w) w.heap.size (by rfl) (.tmp 26) (.tmp 55) 23 36 (.agg #[(.int .i64 0), (.int .i64 0), (.int .i64 0), (.int .i64 0)]) 32 rfl Try.underlying23 info36 rfl (by decide) (by omega) u105002 b6 (⟨(rd_T36 l0_2 (ji22)).f0, (rd_T36 l0_2 (ji22)).f1, (rd_T36 l0_2 (ji22)).f2, (rd_T36 l0_2 (ji22)).f3⟩ : S36) [.int .i64 ((rd_T36 l0_2 (ji22)).f0), .int .i64 ((rd_T36 l0_2 (ji22)).f1), .int .i64 ((rd_T36 l0_2 (ji22)).f2), .int .i64 ((rd_T36 l0_2 (ji22)).f3)] (fun _ => True) (fun _ => False) rfl rfl ?aP (fun _ hk => hk.elim) ?aF ?aO ?aB ?aS ?aL ?_
            (case aP => exact k36_mkM _ _ _ (⟨(rd_T36 l0_2 (ji22)).f0, (rd_T36 l0_2 (ji22)).f1, (rd_T36 l0_2 (ji22)).f2, (rd_T36 l0_2 (ji22)).f3⟩ : S36))
            (case aB => exact (by repeat (first | (with_reducible first | exact HB.out | apply yag | apply yad | apply yaf | refine below_set ?_ (Aside0.out ‹_›)) | exact HB.out)))
            (case aF => exact (fun _ _ => trivial))
            (case aO => exact (upR b2.out))
            (case aS => exact (below_size (by repeat (first | (with_reducible first | exact HB.out | apply yag | apply yad | apply yaf | refine below_set ?_ (Aside0.out ‹_›)) | exact HB.out))))
            (case aL => have := LMc25.out; omega)
            intro t8 w31 ho hb hg hat
            rw [← Ny106.out] at ho
            have n0_ := yab (blk_grown (g := b5) (o := .cells #[.int .i64 a0_0, .int .i64 a0_1, .slice (some ad105) l0_2.length c0_2] 25 (0, 0)) (upB b0.out) hg (Kd.R_ne b2.out b0.out (by decide)))
            have n1_ := yab (blk_grown (g := a9) (o := .cells #[.int .i64 a1_0, .int .i64 a1_1, .int .i64 a1_2, .int .i64 a1_3, .int .i64 a1_4] 27 (0, 0)) (upB a8.out) hg (Kd.R_ne b2.out a8.out (by decide)))
            have n2_ := yab (blk_grown (g := b8) (o := .cells #[.int .i64 0, .int .i64 0, .slice none 0 0] 25 (0, 0)) (upB b3.out) hg (Kd.R_ne b2.out b3.out (by decide)))
            have n3_ := yab (blk_grown (g := b7) (o := .cells #[.int .i64 a1_1, .int .i64 a1_2, u105002] 25 (0, 0)) (upB b1.out) hg (Kd.R_ne b2.out b1.out (by decide)))
            have n4_ := yab (hb)
            have n5_ := yab (ho)
            clear b0 a8 b3 b1 HB b2
            have b0 := n0_
            have a8 := n1_
            have b3 := n2_
            have b1 := n3_
            have HB := n4_
            have h5 := n5_
            clear n0_ n1_ n2_ n3_ n4_ n5_ ho hb hg hat
            obtain ⟨i0, i1, i2⟩ := Kd.R_slice h5.out
            (first | subst i2 | (injection i2 with f1_ f2_ f3_; have f4_ := f1_.symm; have f5_ := f3_.symm; clear f1_ f2_ f3_; subst f4_; subst f5_))
            refine hK.out _ _ ⟨(yaa b1.out 0).trans rfl, (yaa b1.out 1).trans rfl, (yaa b1.out 2).trans rfl, (yaa b0.out 0).trans rfl, (yaa b0.out 1).trans rfl, (yaa b0.out 2).trans rfl, (yaa a8.out 0).trans rfl, (yaa a8.out 1).trans rfl, (yaa a8.out 2).trans rfl, (yaa a8.out 3).trans rfl, (yaa a8.out 4).trans rfl, ((HB.out.cell (World.block_lt_of_cell? w _ c9)).trans c9), ((HB.out.cell (World.block_lt_of_cell? w _ c8)).trans c8), ((HB.out.cell (World.block_lt_of_cell? w _ c5)).trans c5), ((HB.out.cell (World.block_lt_of_cell? w _ c4)).trans c4)⟩ (fun hHeld => ?_)
            clear hK K
            refine norm_ (a' := ?_) ?_ ?_
            rotate_left
            ·
             show Act.put _ (some 56) _ = _
             simp only [Act.put, List.setIfInBounds_toArray, List.set_cons_zero, List.set_cons_succ, i64_w, i32_w]
             rfl
            refine pz_ 32 57 q77_33 HT_ (by kernel_rfl) ?_
            refine last_ (i := 33) (N := none) q77_34 rfl rfl (one_of HT_.out (by kernel_rfl)) (by decide) (fun K hK => ?_)
            have t9 : w31.cell? ⟨b7, 2, none⟩ = some (u105002) := (yaa b1.out 2).trans rfl
            have r5 := yac b1.out 2
            have j5 := b9.out
            have j6 := b4.out
            have j7 := c0.out
            have j8 := d8.out
            have j9 := c2.out
            have k0 := d9.out
            refine skip_ (w1 := ?_) (by rfl) rfl ?_ ?_
            rotate_left
            ·
             go_simp
             rfl
            refine hK.out _ _ ?_
            clear hK K
            refine done_ (done_of HT_.out (by kernel_rfl)) ?_
            try go_wp2
            go_roundg k2
            case measure => have := HK1.out; have := HK2.out; omega
            case rel => exact ⟨(wrap64 (e1 + 1)), (y106), (.slice i0 y106.length i1), (by first | rfl | (simp; done) | (simp [*]; done)), H', ⟨by have := HK1.out; have := HK2.out; omega⟩, ⟨by (with_reducible repeat (first | apply Kd.R_alloc | apply Kd.R_drewN | apply Kd.R_drew)); exact Kd.R_mono (Kd.R_far (p := ⟨b7, 2, none⟩) (Kd.R_types h5.out b1.out (by decide)) (fun _ hk => hk.2) (.slice i0 y106.length i1)) (fun _ hk => trivial)⟩, ⟨by (with_reducible repeat (first | refine yai ?_ _ | refine yah ?_ | refine yae ?_ _)); refine blk_far ?_ b9.out _; exact upB b0.out⟩, ⟨by (with_reducible repeat (first | refine yai ?_ _ | refine yah ?_ | refine yae ?_ _)); refine blk_far ?_ b4.out _; exact upB a8.out⟩, ⟨by (with_reducible repeat (first | refine yai ?_ _ | refine yah ?_ | refine yae ?_ _)); refine blk_far ?_ c0.out _; exact upB b3.out⟩, ⟨by (with_reducible repeat (first | refine yai ?_ _ | refine yah ?_ | refine yae ?_ _)); refine blk_put (cs := #[.int .i64 a1_1, .int .i64 a1_2, u105002]) ?_ 2 _ rfl; exact upB b1.out⟩, ⟨by repeat (first | (with_reducible first | exact HB.out | apply yag | apply yad | apply yaf | refine below_set ?_ (Aside0.out ‹_›)) | exact HB.out)⟩⟩
           ·
            rw [if_neg c25] at H
            exact absurd H (by simp)
          ·
           rw [if_neg c24] at H
           exact absurd H (by simp)
         ·
          rw [if_neg c23] at H
          exact absurd H (by simp)
      ·
       rw [if_neg c19] at H
       have h9 : decide (e1 < a1_1) = false := decide_eq_false c19
       clear c19
       have H' := yab H
       clear H
       have r6 := d1.out
       have r7 := d0.out
       have r8 := d2.out
       have r9 := d3.out
       have s0 := b4.out
       have s1 := c2.out
       have k3 : wr.cell? ⟨a9, 0, none⟩ = some (.int .i64 a1_0) := (yaa a8.out 0).trans rfl
       have k4 : wr.cell? ⟨a9, 1, none⟩ = some (.int .i64 a1_1) := (yaa a8.out 1).trans rfl
       have k5 : wr.cell? ⟨a9, 2, none⟩ = some (.int .i64 a1_2) := (yaa a8.out 2).trans rfl
       have k6 : wr.cell? ⟨a9, 3, none⟩ = some (.int .i64 a1_3) := (yaa a8.out 3).trans rfl
       have k7 : wr.cell? ⟨a9, 4, none⟩ = some (.int .i64 a1_4) := (yaa a8.out 4).trans rfl
       have k8 := yac a8.out 0
       have k9 := yac a8.out 1
       have l2 := yac a8.out 2
       have l3 := yac a8.out 3
       have l4 := yac a8.out 4
       go_wp2
       go_roundg k2
       case measure => have := HK1.out; have := HK2.out; omega
       case rel => exact ⟨(wrap64 (e0 + 1)), (b6), (u105002), (by first | rfl | (simp; done) | (simp [*]; done)), H', ⟨by have := HK1.out; have := HK2.out; omega⟩, ⟨by exact upR b2.out⟩, ⟨by exact upB b0.out⟩, ⟨by exact upB a8.out⟩, ⟨by exact upB b3.out⟩, ⟨by exact upB b1.out⟩, ⟨by repeat (first | (with_reducible first | exact HB.out | apply yag | apply yad | apply yaf | refine below_set ?_ (Aside0.out ‹_›)) | exact HB.out)⟩⟩
   ·
    rw [if_neg c14] at H
    have h4 : decide (e0 < a1_2) = false := decide_eq_false c14
    clear c14
    simp only [Option.some.injEq, Prod.mk.injEq] at H
    obtain ⟨rfl, rfl, rfl⟩ := H
    have s2 := d1.out
    have s3 := d0.out
    have s4 := d2.out
    have s5 := d3.out
    have s6 := b4.out
    have s7 := c2.out
    have l5 : wr.cell? ⟨a9, 0, none⟩ = some (.int .i64 a1_0) := (yaa a8.out 0).trans rfl
    have l6 : wr.cell? ⟨a9, 1, none⟩ = some (.int .i64 a1_1) := (yaa a8.out 1).trans rfl
    have l7 : wr.cell? ⟨a9, 2, none⟩ = some (.int .i64 a1_2) := (yaa a8.out 2).trans rfl
    have l8 : wr.cell? ⟨a9, 3, none⟩ = some (.int .i64 a1_3) := (yaa a8.out 3).trans rfl
    have l9 : wr.cell? ⟨a9, 4, none⟩ = some (.int .i64 a1_4) := (yaa a8.out 4).trans rfl
    have m0 := yac a8.out 0
    have m1 := yac a8.out 1
    have m2 := yac a8.out 2
    have m3 := yac a8.out 3
    have m4 := yac a8.out 4
    have s8 := d8.out
    have s9 := b9.out
    have t0 := d9.out
    have t1 := c0.out
    have m5 : wr.cell? ⟨b7, 0, none⟩ = some (.int .i64 a1_1) := (yaa b1.out 0).trans rfl
    have m6 : wr.cell? ⟨b7, 1, none⟩ = some (.int .i64 a1_2) := (yaa b1.out 1).trans rfl
    have m7 : wr.cell? ⟨b7, 2, none⟩ = some (u105002) := (yaa b1.out 2).trans rfl
    have m8 := yac b1.out 0
    have m9 := yac b1.out 1
    have n0 := yac b1.out 2
    have t2 := e9.out
    have t3 := e8.out
    have n1 : wr.cell? ⟨b8, 0, none⟩ = some (.int .i64 0) := (yaa b3.out 0).trans rfl
    have n2 : wr.cell? ⟨b8, 1, none⟩ = some (.int .i64 0) := (yaa b3.out 1).trans rfl
    have n3 : wr.cell? ⟨b8, 2, none⟩ = some (.slice none 0 0) := (yaa b3.out 2).trans rfl
    have n4 := yac b3.out 0
    have n5 := yac b3.out 1
    have n6 := yac b3.out 2
    obtain ⟨i3, i4, n8⟩ := Kd.R_slice b2.out
    subst n8
    go_wp2
    refine bodyPost_ret (results_cell_row rfl _ _ b8 25 #[.int .i64 a1_1, .int .i64 a1_2, .slice i3 c3.length i4] (0, 0) _ rfl (by (with_reducible repeat (first | refine yai ?_ _ | refine yah ?_ | refine yae ?_ _)); refine blk_put (cs := #[.int .i64 a1_1, .int .i64 a1_2, .slice none 0 0]) ?_ 2 _ rfl; (with_reducible repeat (first | refine yai ?_ _ | refine yah ?_ | refine yae ?_ _)); refine blk_put (cs := #[.int .i64 a1_1, .int .i64 0, .slice none 0 0]) ?_ 1 _ rfl; (with_reducible repeat (first | refine yai ?_ _ | refine yah ?_ | refine yae ?_ _)); refine blk_put (cs := #[.int .i64 0, .int .i64 0, .slice none 0 0]) ?_ 0 _ rfl; exact upB b3.out) Try.underlying25 rfl (by kernel_rfl)) rfl ?_
    exact ⟨_, by first | rfl | (simp [errW_none, errW_some] <;> rfl) | (simp [*, errW_none, errW_some] <;> rfl), by (with_reducible repeat (first | apply Kd.R_alloc | apply Kd.R_drewN | apply Kd.R_drew)); exact Kd.R_mono (Kd.R_far (p := ⟨b8, 2, none⟩) (Kd.R_far (p := ⟨b8, 1, none⟩) (Kd.R_far (p := ⟨b8, 0, none⟩) (Kd.R_types b2.out b3.out (by decide)) (fun _ hk => hk.2) (.int .i64 a1_1)) (fun _ hk => hk.2) (.int .i64 a1_2)) (fun _ hk => hk.2) (.slice i3 c3.length i4)) (fun _ hk => trivial), by repeat (first | (with_reducible first | exact HB.out | apply yag | apply yad | apply yaf | refine below_set ?_ (Aside0.out ‹_›)) | exact HB.out)⟩

end Go.Proofs.Ytoifpgkfpdeglaa.X

namespace Go.Proofs.Ytoifpgkfpdeglaa.X
open Go.RowKit Go.Proofs.YtoifpgkfpdeglaaW.PrintWords Go.Proofs.YtoifpgkfpdeglaaW.PrintLast Go.Proofs.YtoifpgkfpdeglaaW.PrintMore
attribute [local go_sem] max2_int min2_int max_two min_two max_three min_three max_four min_four
set_option linter.unusedVariables false
set_option linter.unusedSimpArgs false

/-! ### spec_l6Gray: function 94 -/
def spec_l6Gray.f (a0_0 : Int) (a0_1 : Int) (a0_2 : Int) (a0_3 : Int) : Option (Int × Int × Int × Int) := some (wrap64 (Int.tdiv (wrap64 ((wrap64 ((wrap64 (77 * a0_0)) + (wrap64 (150 * a0_1)))) + (wrap64 (29 * a0_2)))) 256), wrap64 (Int.tdiv (wrap64 ((wrap64 ((wrap64 (77 * a0_0)) + (wrap64 (150 * a0_1)))) + (wrap64 (29 * a0_2)))) 256), wrap64 (Int.tdiv (wrap64 ((wrap64 ((wrap64 (77 * a0_0)) + (wrap64 (150 * a0_1)))) + (wrap64 (29 * a0_2)))) 256), a0_3)
set_option maxHeartbeats 8000000 in
set_option maxRecDepth 100000 in
theorem spec_l6Gray.calls (a0_0 : Int) (a0_1 : Int) (a0_2 : Int) (a0_3 : Int) (r1 : Int) (r2 : Int) (r3 : Int) (r4 : Int) (w : World) (h : spec_l6Gray.f a0_0 a0_1 a0_2 a0_3 = some (r1, r2, r3, r4)) :
  Calls Try.prog 94 #[.agg #[.int .i64 a0_0, .int .i64 a0_1, .int .i64 a0_2, .int .i64 a0_3]] w fun e w' => e = .returned (.agg #[.int .i64 r1, .int .i64 r2, .int .i64 r3, .int .i64 r4]) ∧ Below w.heap.size w w' := by
 have hu36 := Try.underlying36
 have HB := Aside0.mk (Below.refl w.heap.size w)
 have H : (some (wrap64 (Int.tdiv (wrap64 ((wrap64 ((wrap64 (77 * a0_0)) + (wrap64 (150 * a0_1)))) + (wrap64 (29 * a0_2)))) 256), wrap64 (Int.tdiv (wrap64 ((wrap64 ((wrap64 (77 * a0_0)) + (wrap64 (150 * a0_1)))) + (wrap64 (29 * a0_2)))) 256), wrap64 (Int.tdiv (wrap64 ((wrap64 ((wrap64 (77 * a0_0)) + (wrap64 (150 * a0_1)))) + (wrap64 (29 * a0_2)))) 256), a0_3)) = some (r1, r2, r3, r4) := h
 clear h
 simp only [Option.some.injEq, Prod.mk.injEq] at H
 obtain ⟨rfl, rfl, rfl, rfl⟩ := H
 go_enter Try.func94, Try.ntmps94
 go_wp2_with (first | ((with_reducible refine gate_dst (N := 1) rfl ?_); refine box_event ?hg (N := 1) ?hd (cs := #[.int .i64 a0_0, .int .i64 a0_1, .int .i64 a0_2, .int .i64 a0_3]) (t := 36) ?hr ?_; (case hd => rfl); (case hg => rfl); (case hr => first | (go_simp; done) | (go_simp; rfl)); intro a1 hg w2 hbox hb; have n0_ := Aside0.mk (below_step (by repeat (first | (with_reducible first | exact HB.out | apply below_alloc | apply pw_below_drewN | apply below_drew1) | exact HB.out)) hb); have n1_ := Aside0.mk (hbox); have n2_ := Aside0.mk ((by rw [hg]; exact (below_size (by repeat (first | (with_reducible first | exact HB.out | apply below_alloc | apply pw_below_drewN | apply below_drew1) | exact HB.out))) : w.heap.size ≤ a1)); have n3_ := Aside0.mk ((by rw [hg]; exact (below_size (by repeat (first | (with_reducible first | exact HB.out | apply below_alloc | apply pw_below_drewN | apply below_drew1) | exact HB.out))) : w.heap.size ≤ a1)); clear HB; have HB := n0_; have a0 := n1_; have c2 := n2_; have c3 := n3_; clear n0_ n1_ n2_ n3_; clear hb hbox hg) | ((with_reducible refine gate_dst (N := 2) rfl ?_); refine box_event ?hg (N := 2) ?hd (cs := #[.int .i64 0, .int .i64 0, .int .i64 0, .int .i64 0]) (t := 36) ?hr ?_; (case hd => rfl); (case hg => rfl); (case hr => first | (go_simp; done) | (go_simp; rfl)); intro a2 hg w3 hbox hb; have n0_ := Aside0.mk (blk_below (g := a1) (o := .cells #[.int .i64 a0_0, .int .i64 a0_1, .int .i64 a0_2, .int .i64 a0_3] 36 (0, 0)) (upB a0.out) hb); have n1_ := Aside0.mk (below_step (by repeat (first | (with_reducible first | exact HB.out | apply below_alloc | apply pw_below_drewN | apply below_drew1 | refine below_set ?_ (Aside0.out ‹_›)) | exact HB.out)) hb); have n2_ := Aside0.mk (hbox); have n3_ := Aside0.mk ((by rw [hg]; exact (below_size (by repeat (first | (with_reducible first | exact HB.out | apply below_alloc | apply pw_below_drewN | apply below_drew1 | refine below_set ?_ (Aside0.out ‹_›)) | exact HB.out))) : w.heap.size ≤ a2)); have n4_ := Aside0.mk ((by rw [hg]; exact (below_size (by repeat (first | (with_reducible first | exact HB.out | apply below_alloc | apply pw_below_drewN | apply below_drew1 | refine below_set ?_ (Aside0.out ‹_›)) | exact HB.out))) : w.heap.size ≤ a2)); have n5_ := Aside0.mk ((by rw [hg]; exact Nat.ne_of_lt (blk_lt (g := a1) (o := .cells #[.int .i64 a0_0, .int .i64 a0_1, .int .i64 a0_2, .int .i64 a0_3] 36 (0, 0)) (upB a0.out)) : a1 ≠ a2)); have n6_ := Aside0.mk ((by rw [hg]; exact Nat.ne_of_gt (blk_lt (g := a1) (o := .cells #[.int .i64 a0_0, .int .i64 a0_1, .int .i64 a0_2, .int .i64 a0_3] 36 (0, 0)) (upB a0.out)) : a2 ≠ a1)); clear a0; clear HB; have a0 := n0_; have HB := n1_; have a3 := n2_; have c4 := n3_; have c5 := n4_; have a4 := n5_; have a5 := n6_; clear n0_ n1_ n2_ n3_ n4_ n5_ n6_; clear hb hbox hg; have c6 := a4.out; have c7 := a5.out; have a6 : w3.cell? ⟨a1, 0, none⟩ = some (.int .i64 a0_0) := (blk_cell a0.out 0).trans rfl; have a7 : w3.cell? ⟨a1, 1, none⟩ = some (.int .i64 a0_1) := (blk_cell a0.out 1).trans rfl; have a8 : w3.cell? ⟨a1, 2, none⟩ = some (.int .i64 a0_2) := (blk_cell a0.out 2).trans rfl; have a9 : w3.cell? ⟨a1, 3, none⟩ = some (.int .i64 a0_3) := (blk_cell a0.out 3).trans rfl; have b0 := blk_frozen a0.out 0; have b1 := blk_frozen a0.out 1; have b2 := blk_frozen a0.out 2; have b3 := blk_frozen a0.out 3; have b4 : w3.cell? ⟨a2, 0, none⟩ = some (.int .i64 0) := (blk_cell a3.out 0).trans rfl; have b5 : w3.cell? ⟨a2, 1, none⟩ = some (.int .i64 0) := (blk_cell a3.out 1).trans rfl; have b6 : w3.cell? ⟨a2, 2, none⟩ = some (.int .i64 0) := (blk_cell a3.out 2).trans rfl; have b7 : w3.cell? ⟨a2, 3, none⟩ = some (.int .i64 0) := (blk_cell a3.out 3).trans rfl; have b8 := blk_frozen a3.out 0; have b9 := blk_frozen a3.out 1; have c0 := blk_frozen a3.out 2; have c1 := blk_frozen a3.out 3))
 refine bodyPost_ret (results_cell_row rfl _ _ a2 36 #[.int .i64 (wrap64 (Int.tdiv (wrap64 ((wrap64 ((wrap64 (77 * a0_0)) + (wrap64 (150 * a0_1)))) + (wrap64 (29 * a0_2)))) 256)), .int .i64 (wrap64 (Int.tdiv (wrap64 ((wrap64 ((wrap64 (77 * a0_0)) + (wrap64 (150 * a0_1)))) + (wrap64 (29 * a0_2)))) 256)), .int .i64 (wrap64 (Int.tdiv (wrap64 ((wrap64 ((wrap64 (77 * a0_0)) + (wrap64 (150 * a0_1)))) + (wrap64 (29 * a0_2)))) 256)), .int .i64 a0_3] (0, 0) _ rfl (by (with_reducible repeat (first | refine blk_drewN ?_ _ | refine blk_drew ?_ | refine blk_alloc ?_ _)); refine blk_put (cs := #[.int .i64 (wrap64 (Int.tdiv (wrap64 ((wrap64 ((wrap64 (77 * a0_0)) + (wrap64 (150 * a0_1)))) + (wrap64 (29 * a0_2)))) 256)), .int .i64 (wrap64 (Int.tdiv (wrap64 ((wrap64 ((wrap64 (77 * a0_0)) + (wrap64 (150 * a0_1)))) + (wrap64 (29 * a0_2)))) 256)), .int .i64 (wrap64 (Int.tdiv (wrap64 ((wrap64 ((wrap64 (77 * a0_0)) + (wrap64 (150 * a0_1)))) + (wrap64 (29 * a0_2)))) 256)), .int .i64 0]) ?_ 3 _ rfl; (with_reducible repeat (first | refine blk_drewN ?_ _ | refine blk_drew ?_ | refine blk_alloc ?_ _)); refine blk_put (cs := #[.int .i64 (wrap64 (Int.tdiv (wrap64 ((wrap64 ((wrap64 (77 * a0_0)) + (wrap64 (150 * a0_1)))) + (wrap64 (29 * a0_2)))) 256)), .int .i64 (wrap64 (Int.tdiv (wrap64 ((wrap64 ((wrap64 (77 * a0_0)) + (wrap64 (150 * a0_1)))) + (wrap64 (29 * a0_2)))) 256)), .int .i64 0, .int .i64 0]) ?_ 2 _ rfl; (with_reducible repeat (first | refine blk_drewN ?_ _ | refine blk_drew ?_ | refine blk_alloc ?_ _)); refine blk_put (cs := #[.int .i64 (wrap64 (Int.tdiv (wrap64 ((wrap64 ((wrap64 (77 * a0_0)) + (wrap64 (150 * a0_1)))) + (wrap64 (29 * a0_2)))) 256)), .int .i64 0, .int .i64 0, .int .i64 0]) ?_ 1 _ rfl; (with_reducible repeat (first | refine blk_drewN ?_ _ | refine blk_drew ?_ | refine blk_alloc ?_ _)); refine blk_put (cs := #[.int .i64 0, .int .i64 0, .int .i64 0, .int .i64 0]) ?_ 0 _ rfl; exact upB a3.out) Try.underlying36 rfl (by kernel_rfl)) rfl ?_
 exact ⟨by first | rfl | (simp [errW_none, errW_some] <;> rfl) | (simp [*, errW_none, errW_some] <;> rfl), by repeat (first | (with_reducible first | exact HB.out | apply below_alloc | apply pw_below_drewN | apply below_drew1 | refine below_set ?_ (Aside0.out ‹_›)) | exact HB.out)⟩

end Go.Proofs.Ytoifpgkfpdeglaa.X

namespace Go.Proofs.Ytoifpgkfpdeglaa.X
open Go.RowKit Go.Proofs.YtoifpgkfpdeglaaW.PrintWords Go.Proofs.YtoifpgkfpdeglaaW.PrintLast Go.Proofs.YtoifpgkfpdeglaaW.PrintMore
attribute [local go_sem] max2_int min2_int max_two min_two max_three min_three max_four min_four
set_option linter.unusedVariables false
set_option linter.unusedSimpArgs false

open Go.Proofs.YtoifpgkfpdeglaaW.PrintWords.Aside0 renaming mk → yaa
open Go.Proofs.YtoifpgkfpdeglaaW.PrintWords renaming blk_drewN → yab, blk_alloc → yac, blk_drew → yad, blk_frozen → yae, pw_below_drewN → yaf, blk_cell → yag, below_drew1 → yah, below_alloc → yai, blk_far → yaj

/-! ### spec_l6Mean: function 95 -/
abbrev q95_0 : Array Bool := #[false, false, false, false, false, false, false, false, false, false, false, false, false, false, false, false, false, false]
abbrev q95_1 : Array Bool := #[true, false, false, false, false, false, false, false, false, false, false, false, false, false, false, false, false, false]
abbrev q95_2 : Array Bool := #[true, false, true, false, false, false, false, false, false, false, false, false, false, false, false, false, false, false]
abbrev q95_3 : Array Bool := #[true, false, true, false, true, false, false, false, false, false, false, false, false, false, false, false, false, false]
abbrev q95_4 : Array Bool := #[true, false, true, false, true, false, true, false, false, false, false, false, false, false, false, false, false, false]
abbrev q95_5 : Array Bool := #[true, false, true, false, true, false, true, false, true, false, false, false, false, false, false, false, false, false]
abbrev q95_6 : Array Bool := #[true, false, true, false, true, false, true, false, true, false, true, false, false, false, false, false, false, false]
abbrev q95_7 : Array Bool := #[true, false, true, false, true, false, true, false, true, false, true, false, true, false, false, false, false, false]
abbrev q95_8 : Array Bool := #[true, false, true, false, true, false, true, false, true, false, true, false, true, false, true, false, false, false]
abbrev q95_9 : Array Bool := #[true, true, true, false, true, false, true, false, true, false, true, false, true, false, true, false, false, false]
abbrev q95_10 : Array Bool := #[true, true, true, true, true, false, true, false, true, false, true, false, true, false, true, false, false, false]
abbrev q95_11 : Array Bool := #[true, true, true, true, true, true, true, false, true, false, true, false, true, false, true, false, false, false]
abbrev q95_12 : Array Bool := #[true, true, true, true, true, true, true, true, true, false, true, false, true, false, true, false, false, false]
abbrev q95_13 : Array Bool := #[true, true, true, true, true, true, true, true, true, true, true, false, true, false, true, false, false, false]
abbrev q95_14 : Array Bool := #[true, true, true, true, true, true, true, true, true, true, true, true, true, false, true, false, false, false]
abbrev q95_15 : Array Bool := #[true, true, true, true, true, true, true, true, true, true, true, true, true, true, true, false, false, false]
abbrev q95_16 : Array Bool := #[true, true, true, true, true, true, true, true, true, true, true, true, true, true, true, true, false, false]
abbrev q95_17 : Array Bool := #[true, true, true, true, true, true, true, true, true, true, true, true, true, true, true, true, true, false]
abbrev q95_18 : Array Bool := #[true, true, true, true, true, true, true, true, true, true, true, true, true, true, true, true, true, true]
mutual
def spec_l6Mean.l0 : Nat → Int → Int → Int → Int → Int → Int → List (S36) → Int → Int → Int → Int → Option (Int × Int × Int × Int)
 | 0, _, _, _, _, _, _, _, _, _, _, _ => none
 | k + 1, x1, x2, x7, x9, x102000, x102001, x102002, x104000, x104001, x104002, x104003 => if x9 ≤ (mn (wrap64 (x102001 - 1)) (wrap64 (x2 + 1))) then (spec_l6Mean.l1 k x1 x2 x7 x9 (mx 0 (wrap64 (x1 - 1))) x102000 x102001 x102002 x104000 x104001 x104002 x104003) else (if x7 = 0 then (none) else (some (wrap64 (Int.tdiv x104000 x7), wrap64 (Int.tdiv x104001 x7), wrap64 (Int.tdiv x104002 x7), wrap64 (Int.tdiv x104003 x7))))
def spec_l6Mean.l1 : Nat → Int → Int → Int → Int → Int → Int → Int → List (S36) → Int → Int → Int → Int → Option (Int × Int × Int × Int)
 | 0, _, _, _, _, _, _, _, _, _, _, _, _ => none
 | k + 1, x1, x2, x7, x9, x10, x102000, x102001, x102002, x104000, x104001, x104002, x104003 => if x10 ≤ (mn (wrap64 (x102000 - 1)) (wrap64 (x1 + 1))) then (if 0 ≤ (wrap64 ((wrap64 (x9 * x102000)) + x10)) then (if (wrap64 ((wrap64 (x9 * x102000)) + x10)) < (x102002.length : Int) then (spec_l6Mean.l1 k x1 x2 (wrap64 (x7 + 1)) x9 (wrap64 (x10 + 1)) x102000 x102001 x102002 (wrap64 (x104000 + ((rd_T36 x102002 (wrap64 ((wrap64 (x9 * x102000)) + x10))).f0))) (wrap64 (x104001 + ((rd_T36 x102002 (wrap64 ((wrap64 (x9 * x102000)) + x10))).f1))) (wrap64 (x104002 + ((rd_T36 x102002 (wrap64 ((wrap64 (x9 * x102000)) + x10))).f2))) (wrap64 (x104003 + ((rd_T36 x102002 (wrap64 ((wrap64 (x9 * x102000)) + x10))).f3)))) else (none)) else (none)) else (spec_l6Mean.l0 k x1 x2 x7 (wrap64 (x9 + 1)) x102000 x102001 x102002 x104000 x104001 x104002 x104003)
end
def spec_l6Mean.f (k : Nat) (a0_0 : Int) (a0_1 : Int) (l0_2 : List (S36)) (a1 : Int) (a2 : Int) : Option (Int × Int × Int × Int) := spec_l6Mean.l0 k a1 a2 0 (mx 0 (wrap64 (a2 - 1))) a0_0 a0_1 l0_2 0 0 0 0
def spec_l6Mean.T12 : Bool × List (List Nat × List Nat) := (true, [([], []), ([0], [0]), ([], []), ([1, 2], [1, 2]), ([], []), ([4], [4]), ([], []), ([5, 6], [5, 6]), ([], []), ([8], [8]), ([], []), ([9, 10], [9, 10]), ([], []), ([12], [12]), ([], []), ([13, 14], [13, 14]), ([3, 7, 11, 15], [3, 7, 11, 15]), ([16, 0, 1, 2, 3, 4, 5, 6, 7, 8, 9, 10, 11, 12, 13, 14, 15, 16], [16])])
def spec_l6Mean.B12 : List Nat := [0, 1, 0, 7, 0, 16, 0, 112, 0, 256, 0, 1792, 0, 4096, 0, 28672, 65535, 131071]
theorem spec_l6Mean.tab12 : rtab .any (opsOf Try.f95 12) = spec_l6Mean.T12 := by kernel_rfl
theorem spec_l6Mean.bits12 : waitsOk spec_l6Mean.T12.2 spec_l6Mean.B12 = true := by kernel_rfl
set_option maxHeartbeats 8000000 in
set_option maxRecDepth 100000 in
theorem spec_l6Mean.calls (k : Nat) (a0_0 : Int) (a0_1 : Int) (A0_2 : Option Addr) (c0_2 : Nat) (l0_2 : List (S36)) (a1 : Int) (a2 : Int) (r1 : Int) (r2 : Int) (r3 : Int) (r4 : Int) (w : World) (hr0_2 : Kd.C k36 w A0_2 l0_2.length l0_2) (hc0_2 : l0_2.length ≤ c0_2) (h : spec_l6Mean.f k a0_0 a0_1 l0_2 a1 a2 = some (r1, r2, r3, r4)) :
  Calls Try.prog 95 #[.agg #[.int .i64 a0_0, .int .i64 a0_1, .slice A0_2 l0_2.length c0_2], .int .i64 a1, .int .i64 a2] w fun e w' => e = .returned (.agg #[.int .i64 r1, .int .i64 r2, .int .i64 r3, .int .i64 r4]) ∧ Below w.heap.size w w' := by
 have hu25 := Try.underlying25
 have hu36 := Try.underlying36
 have HR0_2 := yaa hr0_2
 have HC0_2 := yaa hc0_2
 clear hr0_2 hc0_2
 have HB := yaa (Below.refl w.heap.size w)
 have H : (spec_l6Mean.l0 k a1 a2 0 (mx 0 (wrap64 (a2 - 1))) a0_0 a0_1 l0_2 0 0 0 0) = some (r1, r2, r3, r4) := h
 clear h
 obtain ⟨ji4, hji4⟩ : ∃ j_ : Int, (mx 0 (wrap64 (a2 - 1))) = j_ := ⟨_, rfl⟩
 replace H : (spec_l6Mean.l0 k a1 a2 0 ji4 a0_0 a0_1 l0_2 0 0 0 0) = some (r1, r2, r3, r4) := by first | (rw [hji4] at H; exact H) | (simp only [hji4] at H ⊢; exact H)
 (try (have hji4l : 0 ≤ ji4 := by (rw [← hji4]; unfold mx; (repeat' split) <;> omega)))
 (try (have hji4m : 0 ≤ ji4 := by omega))
 have hji4_ : (if 0 < (wrap64 (a2 - 1)) then (wrap64 (a2 - 1)) else 0) = ji4 := hji4
 have H' := yaa H
 clear H
 go_enter Try.func95, Try.ntmps95
 go_wp2_with (first | ((with_reducible refine gate_dst (N := 3) rfl ?_); refine box_event ?hg (N := 3) ?hd (cs := #[.int .i64 a0_0, .int .i64 a0_1, .slice A0_2 l0_2.length c0_2]) (t := 25) ?hr ?_; (case hd => rfl); (case hg => rfl); (case hr => first | (go_simp; done) | (go_simp; rfl)); intro b5 hg w5 hbox hb; have n0_ := yaa (below_step (by repeat (first | (with_reducible first | exact HB.out | apply yai | apply yaf | apply yah) | exact HB.out)) hb); have n1_ := yaa (hbox); have n2_ := yaa ((by rw [hg]; exact (below_size (by repeat (first | (with_reducible first | exact HB.out | apply yai | apply yaf | apply yah) | exact HB.out))) : w.heap.size ≤ b5)); have n3_ := yaa ((by rw [hg]; exact (below_size (by repeat (first | (with_reducible first | exact HB.out | apply yai | apply yaf | apply yah) | exact HB.out))) : w.heap.size ≤ b5)); clear HB; have HB := n0_; have a6 := n1_; have m2 := n2_; have m3 := n3_; clear n0_ n1_ n2_ n3_; clear hb hbox hg) | ((with_reducible refine gate_dst (N := 6) rfl ?_); refine box_event ?hg (N := 6) ?hd (cs := #[.int .i64 0, .int .i64 0, .int .i64 0, .int .i64 0]) (t := 36) ?hr ?_; (case hd => rfl); (case hg => rfl); (case hr => first | (go_simp; done) | (go_simp; rfl)); intro b1 hg w6 hbox hb; have n0_ := yaa (blk_below (g := b5) (o := .cells #[.int .i64 a0_0, .int .i64 a0_1, .slice A0_2 l0_2.length c0_2] 25 (0, 0)) (upB a6.out) hb); have n1_ := yaa (below_step (by repeat (first | (with_reducible first | exact HB.out | apply yai | apply yaf | apply yah | refine below_set ?_ (Aside0.out ‹_›)) | exact HB.out)) hb); have n2_ := yaa (hbox); have n3_ := yaa ((by rw [hg]; exact (below_size (by repeat (first | (with_reducible first | exact HB.out | apply yai | apply yaf | apply yah | refine below_set ?_ (Aside0.out ‹_›)) | exact HB.out))) : w.heap.size ≤ b1)); have n4_ := yaa ((by rw [hg]; exact (below_size (by repeat (first | (with_reducible first | exact HB.out | apply yai | apply yaf | apply yah | refine below_set ?_ (Aside0.out ‹_›)) | exact HB.out))) : w.heap.size ≤ b1)); have n5_ := yaa ((by rw [hg]; exact Nat.ne_of_lt (blk_lt (g := b5) (o := .cells #[.int .i64 a0_0, .int .i64 a0_1, .slice A0_2 l0_2.length c0_2] 25 (0, 0)) (upB a6.out)) : b5 ≠ b1)); have n6_ := yaa ((by rw [hg]; exact Nat.ne_of_gt (blk_lt (g := b5) (o := .cells #[.int .i64 a0_0, .int .i64 a0_1, .slice A0_2 l0_2.length c0_2] 25 (0, 0)) (upB a6.out)) : b1 ≠ b5)); clear a6; clear HB; have a6 := n0_; have HB := n1_; have b7 := n2_; have m4 := n3_; have m5 := n4_; have c3 := n5_; have c4 := n6_; clear n0_ n1_ n2_ n3_ n4_ n5_ n6_; clear hb hbox hg) | ((with_reducible refine gate_dst (N := 8) rfl ?_); refine box_event ?hg (N := 8) ?hd (cs := #[.int .i64 0, .int .i64 0, .int .i64 0, .int .i64 0]) (t := 36) ?hr ?_; (case hd => rfl); (case hg => rfl); (case hr => first | (go_simp; done) | (go_simp; rfl)); intro b9 hg w7 hbox hb; have n0_ := yaa (blk_below (g := b5) (o := .cells #[.int .i64 a0_0, .int .i64 a0_1, .slice A0_2 l0_2.length c0_2] 25 (0, 0)) (upB a6.out) hb); have n1_ := yaa (blk_below (g := b1) (o := .cells #[.int .i64 0, .int .i64 0, .int .i64 0, .int .i64 0] 36 (0, 0)) (upB b7.out) hb); have n2_ := yaa (below_step (by repeat (first | (with_reducible first | exact HB.out | apply yai | apply yaf | apply yah | refine below_set ?_ (Aside0.out ‹_›)) | exact HB.out)) hb); have n3_ := yaa (hbox); have n4_ := yaa ((by rw [hg]; exact (below_size (by repeat (first | (with_reducible first | exact HB.out | apply yai | apply yaf | apply yah | refine below_set ?_ (Aside0.out ‹_›)) | exact HB.out))) : w.heap.size ≤ b9)); have n5_ := yaa ((by rw [hg]; exact (below_size (by repeat (first | (with_reducible first | exact HB.out | apply yai | apply yaf | apply yah | refine below_set ?_ (Aside0.out ‹_›)) | exact HB.out))) : w.heap.size ≤ b9)); have n6_ := yaa ((by rw [hg]; exact Nat.ne_of_lt (blk_lt (g := b5) (o := .cells #[.int .i64 a0_0, .int .i64 a0_1, .slice A0_2 l0_2.length c0_2] 25 (0, 0)) (upB a6.out)) : b5 ≠ b9)); have n7_ := yaa ((by rw [hg]; exact Nat.ne_of_gt (blk_lt (g := b5) (o := .cells #[.int .i64 a0_0, .int .i64 a0_1, .slice A0_2 l0_2.length c0_2] 25 (0, 0)) (upB a6.out)) : b9 ≠ b5)); have n8_ := yaa ((by rw [hg]; exact Nat.ne_of_lt (blk_lt (g := b1) (o := .cells #[.int .i64 0, .int .i64 0, .int .i64 0, .int .i64 0] 36 (0, 0)) (upB b7.out)) : b1 ≠ b9)); have n9_ := yaa ((by rw [hg]; exact Nat.ne_of_gt (blk_lt (g := b1) (o := .cells #[.int .i64 0, .int .i64 0, .int .i64 0, .int .i64 0] 36 (0, 0)) (upB b7.out)) : b9 ≠ b1)); clear a6; clear b7; clear HB; have a6 := n0_; have b7 := n1_; have HB := n2_; have b2 := n3_; have m6 := n4_; have m7 := n5_; have b4 := n6_; have d0 := n7_; have b3 := n8_; have a5 := n9_; clear n0_ n1_ n2_ n3_ n4_ n5_ n6_ n7_ n8_ n9_; clear hb hbox hg; have q4 := d0.out; have q5 := b4.out; have q6 := a5.out; have q7 := b3.out; have e1 : w7.cell? ⟨b9, 0, none⟩ = some (.int .i64 0) := (yag b2.out 0).trans rfl; have e2 : w7.cell? ⟨b9, 1, none⟩ = some (.int .i64 0) := (yag b2.out 1).trans rfl; have e3 : w7.cell? ⟨b9, 2, none⟩ = some (.int .i64 0) := (yag b2.out 2).trans rfl; have e4 : w7.cell? ⟨b9, 3, none⟩ = some (.int .i64 0) := (yag b2.out 3).trans rfl; have e5 := yae b2.out 0; have e6 := yae b2.out 1; have e7 := yae b2.out 2; have e8 := yae b2.out 3))
 (try simp only [Act.put, List.setIfInBounds_toArray, List.set_cons_zero, List.set_cons_succ])
 go_loopg [7, 9] k (fun kq v7 v9 w' => ∃ (c6 : Int) (c7 : Int) (b6 : Int) (b8 : Int) (c0 : Int) (c2 : Int), v7 = .int .i64 c6 ∧ v9 = .int .i64 c7 ∧ Aside0 (spec_l6Mean.l0 kq a1 a2 c6 c7 a0_0 a0_1 l0_2 b6 b8 c0 c2 = some (r1, r2, r3, r4)) ∧ Aside0 (kq ≤ k) ∧ Aside0 (w'.heap[b5]? = some (.cells #[.int .i64 a0_0, .int .i64 a0_1, (.slice A0_2 l0_2.length c0_2)] 25 (0, 0))) ∧ Aside0 (w'.heap[b1]? = some (.cells #[.int .i64 0, .int .i64 0, .int .i64 0, .int .i64 0] 36 (0, 0))) ∧ Aside0 (w'.heap[b9]? = some (.cells #[.int .i64 b6, .int .i64 b8, .int .i64 c0, .int .i64 c2] 36 (0, 0))) ∧ Aside0 (Below w.heap.size w w'))
 case atStart => exact ⟨(0), (ji4), (0), (0), (0), (0), (by first | rfl | (simp; done) | (simp [*]; done)), (by first | rfl | (simp; done) | (simp only [← hji4] <;> (first | rfl | simp)) | (simp [*]; done)), H', ⟨Nat.le_refl _⟩, ⟨by (with_reducible repeat (first | refine yab ?_ _ | refine yad ?_ | refine yac ?_ _)); refine yaj ?_ b4.out _; (with_reducible repeat (first | refine yab ?_ _ | refine yad ?_ | refine yac ?_ _)); refine yaj ?_ b4.out _; (with_reducible repeat (first | refine yab ?_ _ | refine yad ?_ | refine yac ?_ _)); refine yaj ?_ b4.out _; (with_reducible repeat (first | refine yab ?_ _ | refine yad ?_ | refine yac ?_ _)); refine yaj ?_ b4.out _; exact upB a6.out⟩, ⟨by (with_reducible repeat (first | refine yab ?_ _ | refine yad ?_ | refine yac ?_ _)); refine yaj ?_ b3.out _; (with_reducible repeat (first | refine yab ?_ _ | refine yad ?_ | refine yac ?_ _)); refine yaj ?_ b3.out _; (with_reducible repeat (first | refine yab ?_ _ | refine yad ?_ | refine yac ?_ _)); refine yaj ?_ b3.out _; (with_reducible repeat (first | refine yab ?_ _ | refine yad ?_ | refine yac ?_ _)); refine yaj ?_ b3.out _; exact upB b7.out⟩, ⟨by (with_reducible repeat (first | refine yab ?_ _ | refine yad ?_ | refine yac ?_ _)); refine blk_put (cs := #[.int .i64 0, .int .i64 0, .int .i64 0, .int .i64 0]) ?_ 3 _ rfl; (with_reducible repeat (first | refine yab ?_ _ | refine yad ?_ | refine yac ?_ _)); refine blk_put (cs := #[.int .i64 0, .int .i64 0, .int .i64 0, .int .i64 0]) ?_ 2 _ rfl; (with_reducible repeat (first | refine yab ?_ _ | refine yad ?_ | refine yac ?_ _)); refine blk_put (cs := #[.int .i64 0, .int .i64 0, .int .i64 0, .int .i64 0]) ?_ 1 _ rfl; (with_reducible repeat (first | refine yab ?_ _ | refine yad ?_ | refine yac ?_ _)); refine blk_put (cs := #[.int .i64 0, .int .i64 0, .int .i64 0, .int .i64 0]) ?_ 0 _ rfl; exact upB b2.out⟩, ⟨by repeat (first | (with_reducible first | exact HB.out | apply yai | apply yaf | apply yah | refine below_set ?_ (Aside0.out ‹_›)) | exact HB.out)⟩⟩
 case round =>
  clear H'
  try clear p2
  try clear p6
  try clear c8
  try clear c9
  try clear e1
  try clear e2
  try clear e3
  try clear e4
  try clear e5
  try clear e6
  try clear e7
  try clear e8
  obtain ⟨c6, c7, b6, b8, c0, c2, rfl, rfl, HA, HK1, a6, b7, b2, HB⟩ := hrel
  cases gk with
  | zero => exact absurd HA.out (by simp [spec_l6Mean.l0])
  | succ k1 =>
   have H := HA.out
   clear HA
   simp only [spec_l6Mean.l0] at H
   obtain ⟨ji11, hji11⟩ : ∃ j_ : Int, (mn (wrap64 (a0_1 - 1)) (wrap64 (a2 + 1))) = j_ := ⟨_, rfl⟩
   replace H : (if c7 ≤ (ji11) then (spec_l6Mean.l1 k1 a1 a2 c6 c7 (mx 0 (wrap64 (a1 - 1))) a0_0 a0_1 l0_2 b6 b8 c0 c2) else (if c6 = 0 then (none) else (some (wrap64 (Int.tdiv b6 c6), wrap64 (Int.tdiv b8 c6), wrap64 (Int.tdiv c0 c6), wrap64 (Int.tdiv c2 c6))))) = some (r1, r2, r3, r4) := by first | (rw [hji11] at H; exact H) | (simp only [hji11] at H ⊢; exact H)
   have hji11_ : (if (wrap64 (a2 + 1)) < (wrap64 (a0_1 - 1)) then (wrap64 (a2 + 1)) else (wrap64 (a0_1 - 1))) = ji11 := hji11
   by_cases c12 : c7 ≤ (ji11)
   ·
    rw [if_pos c12] at H
    have g2 : decide (c7 ≤ (ji11)) = true := decide_eq_true c12
    clear c12
    obtain ⟨ji13, hji13⟩ : ∃ j_ : Int, (mx 0 (wrap64 (a1 - 1))) = j_ := ⟨_, rfl⟩
    replace H : (spec_l6Mean.l1 k1 a1 a2 c6 c7 ji13 a0_0 a0_1 l0_2 b6 b8 c0 c2) = some (r1, r2, r3, r4) := by first | (rw [hji13] at H; exact H) | (simp only [hji13] at H ⊢; exact H)
    have hji13_ : (if 0 < (wrap64 (a1 - 1)) then (wrap64 (a1 - 1)) else 0) = ji13 := hji13
    have H' := yaa H
    clear H
    have m8 := c3.out
    have m9 := c4.out
    have n0 := b4.out
    have n1 := d0.out
    have f6 : wr.cell? ⟨b5, 0, none⟩ = some (.int .i64 a0_0) := (yag a6.out 0).trans rfl
    have f7 : wr.cell? ⟨b5, 1, none⟩ = some (.int .i64 a0_1) := (yag a6.out 1).trans rfl
    have f8 : wr.cell? ⟨b5, 2, none⟩ = some (.slice A0_2 l0_2.length c0_2) := (yag a6.out 2).trans rfl
    have f9 := yae a6.out 0
    have g0 := yae a6.out 1
    have g1 := yae a6.out 2
    go_wp2
    (try simp only [Act.put, List.setIfInBounds_toArray, List.set_cons_zero, List.set_cons_succ])
    go_loopg [7, 10] k1 (fun kq v7 v10 w' => ∃ (e0 : Int) (c5 : Int) (a7 : Int) (a8 : Int) (a9 : Int) (b0 : Int), v7 = .int .i64 e0 ∧ v10 = .int .i64 c5 ∧ Aside0 (spec_l6Mean.l1 kq a1 a2 e0 c7 c5 a0_0 a0_1 l0_2 a7 a8 a9 b0 = some (r1, r2, r3, r4)) ∧ Aside0 (kq ≤ k1) ∧ Aside0 (w'.heap[b5]? = some (.cells #[.int .i64 a0_0, .int .i64 a0_1, (.slice A0_2 l0_2.length c0_2)] 25 (0, 0))) ∧ Aside0 (w'.heap[b1]? = some (.cells #[.int .i64 0, .int .i64 0, .int .i64 0, .int .i64 0] 36 (0, 0))) ∧ Aside0 (w'.heap[b9]? = some (.cells #[.int .i64 a7, .int .i64 a8, .int .i64 a9, .int .i64 b0] 36 (0, 0))) ∧ Aside0 (Below w.heap.size w w'))
    case atStart => exact ⟨(c6), (ji13), (b6), (b8), (c0), (c2), (by first | rfl | (simp; done) | (simp [*]; done)), (by first | rfl | (simp; done) | (simp only [← hji13] <;> (first | rfl | simp)) | (simp [*]; done)), H', ⟨Nat.le_refl _⟩, ⟨by exact upB a6.out⟩, ⟨by exact upB b7.out⟩, ⟨by exact upB b2.out⟩, ⟨by repeat (first | (with_reducible first | exact HB.out | apply yai | apply yaf | apply yah | refine below_set ?_ (Aside0.out ‹_›)) | exact HB.out)⟩⟩
    case round =>
     clear H'
     try clear c1
     try clear p2
     try clear p6
     try clear c8
     try clear c9
     try clear c12
     try clear g2
     try clear c14
     try clear c15
     try clear e1
     try clear e2
     try clear e3
     try clear e4
     try clear f6
     try clear f7
     try clear f8
     try clear e5
     try clear e6
     try clear e7
     try clear e8
     try clear f9
     try clear g0
     try clear g1
     try clear p2
     try clear p6
     obtain ⟨e0, c5, a7, a8, a9, b0, rfl, rfl, HA, HK2, a6, b7, b2, HB⟩ := hrel
     cases gk with
     | zero => exact absurd HA.out (by simp [spec_l6Mean.l1])
     | succ k2 =>
      have H := HA.out
      clear HA
      simp only [spec_l6Mean.l1] at H
      obtain ⟨ji17, hji17⟩ : ∃ j_ : Int, (mn (wrap64 (a0_0 - 1)) (wrap64 (a1 + 1))) = j_ := ⟨_, rfl⟩
      replace H : (if c5 ≤ (ji17) then (if 0 ≤ (wrap64 ((wrap64 (c7 * a0_0)) + c5)) then (if (wrap64 ((wrap64 (c7 * a0_0)) + c5)) < (l0_2.length : Int) then (spec_l6Mean.l1 k2 a1 a2 (wrap64 (e0 + 1)) c7 (wrap64 (c5 + 1)) a0_0 a0_1 l0_2 (wrap64 (a7 + ((rd_T36 l0_2 (wrap64 ((wrap64 (c7 * a0_0)) + c5))).f0))) (wrap64 (a8 + ((rd_T36 l0_2 (wrap64 ((wrap64 (c7 * a0_0)) + c5))).f1))) (wrap64 (a9 + ((rd_T36 l0_2 (wrap64 ((wrap64 (c7 * a0_0)) + c5))).f2))) (wrap64 (b0 + ((rd_T36 l0_2 (wrap64 ((wrap64 (c7 * a0_0)) + c5))).f3)))) else (none)) else (none)) else (spec_l6Mean.l0 k2 a1 a2 e0 (wrap64 (c7 + 1)) a0_0 a0_1 l0_2 a7 a8 a9 b0)) = some (r1, r2, r3, r4) := by first | (rw [hji17] at H; exact H) | (simp only [hji17] at H ⊢; exact H)
      have hji17_ : (if (wrap64 (a1 + 1)) < (wrap64 (a0_0 - 1)) then (wrap64 (a1 + 1)) else (wrap64 (a0_0 - 1))) = ji17 := hji17
      by_cases c18 : c5 ≤ (ji17)
      ·
       rw [if_pos c18] at H
       have g3 : decide (c5 ≤ (ji17)) = true := decide_eq_true c18
       clear c18
       obtain ⟨ji19, hji19⟩ : ∃ j_ : Int, (wrap64 ((wrap64 (c7 * a0_0)) + c5)) = j_ := ⟨_, rfl⟩
       replace H : (if 0 ≤ (ji19) then (if (ji19) < (l0_2.length : Int) then (spec_l6Mean.l1 k2 a1 a2 (wrap64 (e0 + 1)) c7 (wrap64 (c5 + 1)) a0_0 a0_1 l0_2 (wrap64 (a7 + ((rd_T36 l0_2 (ji19)).f0))) (wrap64 (a8 + ((rd_T36 l0_2 (ji19)).f1))) (wrap64 (a9 + ((rd_T36 l0_2 (ji19)).f2))) (wrap64 (b0 + ((rd_T36 l0_2 (ji19)).f3)))) else (none)) else (none)) = some (r1, r2, r3, r4) := by first | (rw [hji19] at H; exact H) | (simp only [hji19] at H ⊢; exact H)
       have hji19w : (IntKind.i64.wrap ((wrap64 (c7 * a0_0)) + c5)) = ji19 := (i64_w _).trans hji19
       by_cases c20 : 0 ≤ (ji19)
       ·
        rw [if_pos c20] at H
        have n2 : decide (0 ≤ (ji19)) = true := decide_eq_true c20
        clear c20
        by_cases c21 : (ji19) < (l0_2.length : Int)
        ·
         rw [if_pos c21] at H
         have n3 : decide ((ji19) < (l0_2.length : Int)) = true := decide_eq_true c21
         clear c21
         have H' := yaa H
         clear H
         have n4 := c3.out
         have n5 := c4.out
         have n6 := b4.out
         have n7 := d0.out
         have g7 : wr.cell? ⟨b5, 0, none⟩ = some (.int .i64 a0_0) := (yag a6.out 0).trans rfl
         have g8 : wr.cell? ⟨b5, 1, none⟩ = some (.int .i64 a0_1) := (yag a6.out 1).trans rfl
         have g9 : wr.cell? ⟨b5, 2, none⟩ = some (.slice A0_2 l0_2.length c0_2) := (yag a6.out 2).trans rfl
         have h0 := yae a6.out 0
         have h1 := yae a6.out 1
         have h2 := yae a6.out 2
         have p104 : 0 ≤ ((ji19) : Int) := of_decide_eq_true (by first | (with_reducible assumption) | assumption)
         have q104 : (ji19) < (l0_2.length : Int) := of_decide_eq_true (by first | (with_reducible assumption) | assumption)
         obtain ⟨ad104, m1, d6, d7, d8, d9⟩ := at_T36 HR0_2.out (ji19) p104 q104
         cases m1
         replace d6 := (HB.out.cell (World.block_lt_of_cell? w _ d6)).trans d6
         replace d7 := (HB.out.cell (World.block_lt_of_cell? w _ d7)).trans d7
         replace d8 := (HB.out.cell (World.block_lt_of_cell? w _ d8)).trans d8
         replace d9 := (HB.out.cell (World.block_lt_of_cell? w _ d9)).trans d9
         replace p104 := eq_true p104
         replace q104 := eq_true q104
         go_wp2_with (first | ((with_reducible refine gate_dst (N := 11) rfl ?_); refine box_event ?hg (N := 11) ?hd (cs := #[.int .i64 0, .int .i64 0, .int .i64 0, .int .i64 0]) (t := 36) ?hr ?_; (case hd => rfl); (case hg => rfl); (case hr => first | (go_simp; done) | (go_simp; rfl)); intro d4 hg w25 hbox hb; have n0_ := yaa (blk_below (g := b5) (o := .cells #[.int .i64 a0_0, .int .i64 a0_1, .slice (some ad104) l0_2.length c0_2] 25 (0, 0)) (upB a6.out) hb); have n1_ := yaa (blk_below (g := b1) (o := .cells #[.int .i64 0, .int .i64 0, .int .i64 0, .int .i64 0] 36 (0, 0)) (upB b7.out) hb); have n2_ := yaa (blk_below (g := b9) (o := .cells #[.int .i64 a7, .int .i64 a8, .int .i64 a9, .int .i64 b0] 36 (0, 0)) (upB b2.out) hb); have n3_ := yaa (below_step (by repeat (first | (with_reducible first | exact HB.out | apply yai | apply yaf | apply yah | refine below_set ?_ (Aside0.out ‹_›)) | exact HB.out)) hb); have n4_ := yaa (hbox); have n5_ := yaa ((by rw [hg]; exact (below_size (by repeat (first | (with_reducible first | exact HB.out | apply yai | apply yaf | apply yah | refine below_set ?_ (Aside0.out ‹_›)) | exact HB.out))) : w.heap.size ≤ d4)); have n6_ := yaa ((by rw [hg]; exact (below_size (by repeat (first | (with_reducible first | exact HB.out | apply yai | apply yaf | apply yah | refine below_set ?_ (Aside0.out ‹_›)) | exact HB.out))) : w.heap.size ≤ d4)); have n7_ := yaa ((by rw [hg]; exact Nat.ne_of_lt (blk_lt (g := b5) (o := .cells #[.int .i64 a0_0, .int .i64 a0_1, .slice (some ad104) l0_2.length c0_2] 25 (0, 0)) (upB a6.out)) : b5 ≠ d4)); have n8_ := yaa ((by rw [hg]; exact Nat.ne_of_gt (blk_lt (g := b5) (o := .cells #[.int .i64 a0_0, .int .i64 a0_1, .slice (some ad104) l0_2.length c0_2] 25 (0, 0)) (upB a6.out)) : d4 ≠ b5)); have n9_ := yaa ((by rw [hg]; exact Nat.ne_of_lt (blk_lt (g := b1) (o := .cells #[.int .i64 0, .int .i64 0, .int .i64 0, .int .i64 0] 36 (0, 0)) (upB b7.out)) : b1 ≠ d4)); have g4 := yaa ((by rw [hg]; exact Nat.ne_of_gt (blk_lt (g := b1) (o := .cells #[.int .i64 0, .int .i64 0, .int .i64 0, .int .i64 0] 36 (0, 0)) (upB b7.out)) : d4 ≠ b1)); have g5 := yaa ((by rw [hg]; exact Nat.ne_of_lt (blk_lt (g := b9) (o := .cells #[.int .i64 a7, .int .i64 a8, .int .i64 a9, .int .i64 b0] 36 (0, 0)) (upB b2.out)) : b9 ≠ d4)); have g6 := yaa ((by rw [hg]; exact Nat.ne_of_gt (blk_lt (g := b9) (o := .cells #[.int .i64 a7, .int .i64 a8, .int .i64 a9, .int .i64 b0] 36 (0, 0)) (upB b2.out)) : d4 ≠ b9)); clear a6; clear b7; clear b2; clear HB; have a6 := n0_; have b7 := n1_; have b2 := n2_; have HB := n3_; have d5 := n4_; have n8 := n5_; have n9 := n6_; have d1 := n7_; have e9 := n8_; have d2 := n9_; have f4 := g4; have d3 := g5; have f5 := g6; clear n0_ n1_ n2_ n3_ n4_ n5_ n6_ n7_ n8_ n9_ g4 g5 g6; clear hb hbox hg; have o0 := e9.out; have o1 := d1.out; have o2 := f4.out; have o3 := d2.out; have o4 := f5.out; have o5 := d3.out; have h3 : w25.cell? ⟨d4, 0, none⟩ = some (.int .i64 0) := (yag d5.out 0).trans rfl; have h4 : w25.cell? ⟨d4, 1, none⟩ = some (.int .i64 0) := (yag d5.out 1).trans rfl; have h5 : w25.cell? ⟨d4, 2, none⟩ = some (.int .i64 0) := (yag d5.out 2).trans rfl; have h6 : w25.cell? ⟨d4, 3, none⟩ = some (.int .i64 0) := (yag d5.out 3).trans rfl; have h7 := yae d5.out 0; have h8 := yae d5.out 1; have h9 := yae d5.out 2; have i0 := yae d5.out 3; have o6 := a5.out; have o7 := b3.out; have i1 : w25.cell? ⟨b9, 0, none⟩ = some (.int .i64 a7) := (yag b2.out 0).trans rfl; have i2 : w25.cell? ⟨b9, 1, none⟩ = some (.int .i64 a8) := (yag b2.out 1).trans rfl; have i3 : w25.cell? ⟨b9, 2, none⟩ = some (.int .i64 a9) := (yag b2.out 2).trans rfl; have i4 : w25.cell? ⟨b9, 3, none⟩ = some (.int .i64 b0) := (yag b2.out 3).trans rfl; have i5 := yae b2.out 0; have i6 := yae b2.out 1; have i7 := yae b2.out 2; have i8 := yae b2.out 3))
         go_roundg k2
         case measure => have := HK1.out; have := HK2.out; omega
         case rel => exact ⟨(wrap64 (e0 + 1)), (wrap64 (c5 + 1)), (wrap64 (a7 + ((rd_T36 l0_2 (ji19)).f0))), (wrap64 (a8 + ((rd_T36 l0_2 (ji19)).f1))), (wrap64 (a9 + ((rd_T36 l0_2 (ji19)).f2))), (wrap64 (b0 + ((rd_T36 l0_2 (ji19)).f3))), (by first | rfl | (simp; done) | (simp [*]; done)), (by first | rfl | (simp; done) | (simp [*]; done)), H', ⟨by have := HK1.out; have := HK2.out; omega⟩, ⟨by (with_reducible repeat (first | refine yab ?_ _ | refine yad ?_ | refine yac ?_ _)); refine yaj ?_ b4.out _; (with_reducible repeat (first | refine yab ?_ _ | refine yad ?_ | refine yac ?_ _)); refine yaj ?_ b4.out _; (with_reducible repeat (first | refine yab ?_ _ | refine yad ?_ | refine yac ?_ _)); refine yaj ?_ b4.out _; (with_reducible repeat (first | refine yab ?_ _ | refine yad ?_ | refine yac ?_ _)); refine yaj ?_ b4.out _; (with_reducible repeat (first | refine yab ?_ _ | refine yad ?_ | refine yac ?_ _)); refine yaj ?_ d1.out _; (with_reducible repeat (first | refine yab ?_ _ | refine yad ?_ | refine yac ?_ _)); refine yaj ?_ d1.out _; (with_reducible repeat (first | refine yab ?_ _ | refine yad ?_ | refine yac ?_ _)); refine yaj ?_ d1.out _; (with_reducible repeat (first | refine yab ?_ _ | refine yad ?_ | refine yac ?_ _)); refine yaj ?_ d1.out _; exact upB a6.out⟩, ⟨by (with_reducible repeat (first | refine yab ?_ _ | refine yad ?_ | refine yac ?_ _)); refine yaj ?_ b3.out _; (with_reducible repeat (first | refine yab ?_ _ | refine yad ?_ | refine yac ?_ _)); refine yaj ?_ b3.out _; (with_reducible repeat (first | refine yab ?_ _ | refine yad ?_ | refine yac ?_ _)); refine yaj ?_ b3.out _; (with_reducible repeat (first | refine yab ?_ _ | refine yad ?_ | refine yac ?_ _)); refine yaj ?_ b3.out _; (with_reducible repeat (first | refine yab ?_ _ | refine yad ?_ | refine yac ?_ _)); refine yaj ?_ d2.out _; (with_reducible repeat (first | refine yab ?_ _ | refine yad ?_ | refine yac ?_ _)); refine yaj ?_ d2.out _; (with_reducible repeat (first | refine yab ?_ _ | refine yad ?_ | refine yac ?_ _)); refine yaj ?_ d2.out _; (with_reducible repeat (first | refine yab ?_ _ | refine yad ?_ | refine yac ?_ _)); refine yaj ?_ d2.out _; exact upB b7.out⟩, ⟨by (with_reducible repeat (first | refine yab ?_ _ | refine yad ?_ | refine yac ?_ _)); refine blk_put (cs := #[.int .i64 (wrap64 (a7 + ((rd_T36 l0_2 (ji19)).f0))), .int .i64 (wrap64 (a8 + ((rd_T36 l0_2 (ji19)).f1))), .int .i64 (wrap64 (a9 + ((rd_T36 l0_2 (ji19)).f2))), .int .i64 b0]) ?_ 3 _ rfl; (with_reducible repeat (first | refine yab ?_ _ | refine yad ?_ | refine yac ?_ _)); refine blk_put (cs := #[.int .i64 (wrap64 (a7 + ((rd_T36 l0_2 (ji19)).f0))), .int .i64 (wrap64 (a8 + ((rd_T36 l0_2 (ji19)).f1))), .int .i64 a9, .int .i64 b0]) ?_ 2 _ rfl; (with_reducible repeat (first | refine yab ?_ _ | refine yad ?_ | refine yac ?_ _)); refine blk_put (cs := #[.int .i64 (wrap64 (a7 + ((rd_T36 l0_2 (ji19)).f0))), .int .i64 a8, .int .i64 a9, .int .i64 b0]) ?_ 1 _ rfl; (with_reducible repeat (first | refine yab ?_ _ | refine yad ?_ | refine yac ?_ _)); refine blk_put (cs := #[.int .i64 a7, .int .i64 a8, .int .i64 a9, .int .i64 b0]) ?_ 0 _ rfl; (with_reducible repeat (first | refine yab ?_ _ | refine yad ?_ | refine yac ?_ _)); refine yaj ?_ d3.out _; (with_reducible repeat (first | refine yab ?_ _ | refine yad ?_ | refine yac ?_ _)); refine yaj ?_ d3.out _; (with_reducible repeat (first | refine yab ?_ _ | refine yad ?_ | refine yac ?_ _)); refine yaj ?_ d3.out _; (with_reducible repeat (first | refine yab ?_ _ | refine yad ?_ | refine yac ?_ _)); refine yaj ?_ d3.out _; exact upB b2.out⟩, ⟨by repeat (first | (with_reducible first | exact HB.out | apply yai | apply yaf | apply yah | refine below_set ?_ (Aside0.out ‹_›)) | exact HB.out)⟩⟩
        ·
         rw [if_neg c21] at H
         exact absurd H (by simp)
       ·
        rw [if_neg c20] at H
        exact absurd H (by simp)
      ·
       rw [if_neg c18] at H
       have g3 : decide (c5 ≤ (ji17)) = false := decide_eq_false c18
       clear c18
       have H' := yaa H
       clear H
       have o8 := c3.out
       have o9 := c4.out
       have p0 := b4.out
       have p1 := d0.out
       have i9 : wr.cell? ⟨b5, 0, none⟩ = some (.int .i64 a0_0) := (yag a6.out 0).trans rfl
       have j0 : wr.cell? ⟨b5, 1, none⟩ = some (.int .i64 a0_1) := (yag a6.out 1).trans rfl
       have j1 : wr.cell? ⟨b5, 2, none⟩ = some (.slice A0_2 l0_2.length c0_2) := (yag a6.out 2).trans rfl
       have j2 := yae a6.out 0
       have j3 := yae a6.out 1
       have j4 := yae a6.out 2
       go_wp2
       go_roundg k2
       case measure => have := HK1.out; have := HK2.out; omega
       case rel => exact ⟨(e0), (wrap64 (c7 + 1)), (a7), (a8), (a9), (b0), (by first | rfl | (simp; done) | (simp [*]; done)), (by first | rfl | (simp; done) | (simp [*]; done)), H', ⟨by have := HK1.out; have := HK2.out; omega⟩, ⟨by exact upB a6.out⟩, ⟨by exact upB b7.out⟩, ⟨by exact upB b2.out⟩, ⟨by repeat (first | (with_reducible first | exact HB.out | apply yai | apply yaf | apply yah | refine below_set ?_ (Aside0.out ‹_›)) | exact HB.out)⟩⟩
   ·
    rw [if_neg c12] at H
    have g2 : decide (c7 ≤ (ji11)) = false := decide_eq_false c12
    clear c12
    by_cases c35 : c6 = 0
    ·
     rw [if_pos c35] at H
     exact absurd H (by simp)
    ·
     rw [if_neg c35] at H
     have p3 : (c6 == 0) = false := beq_eq_false_iff_ne.mpr c35
     have p4 : (c6 != 0) = true := bne_iff_ne.mpr c35
     simp only [Option.some.injEq, Prod.mk.injEq] at H
     obtain ⟨rfl, rfl, rfl, rfl⟩ := H
     have p5 := c3.out
     have p7 := c4.out
     have p8 := b4.out
     have p9 := d0.out
     have j5 : wr.cell? ⟨b5, 0, none⟩ = some (.int .i64 a0_0) := (yag a6.out 0).trans rfl
     have j6 : wr.cell? ⟨b5, 1, none⟩ = some (.int .i64 a0_1) := (yag a6.out 1).trans rfl
     have j7 : wr.cell? ⟨b5, 2, none⟩ = some (.slice A0_2 l0_2.length c0_2) := (yag a6.out 2).trans rfl
     have j8 := yae a6.out 0
     have j9 := yae a6.out 1
     have k0 := yae a6.out 2
     try go_wp2
     have n0_ := yaa (yad a6.out)
     have n1_ := yaa (yad b7.out)
     have n2_ := yaa (yad b2.out)
     have n3_ := yaa (yah HB.out)
     clear a6 b7 b2 HB
     have a6 := n0_
     have b7 := n1_
     have b2 := n2_
     have HB := n3_
     clear n0_ n1_ n2_ n3_
     refine start_ (n := 18) (S := fun w' => w'.cell? ⟨b9, 0, none⟩ = some (.int .i64 b6) ∧ w'.cell? ⟨b9, 1, none⟩ = some (.int .i64 b8) ∧ w'.cell? ⟨b9, 2, none⟩ = some (.int .i64 c0) ∧ w'.cell? ⟨b9, 3, none⟩ = some (.int .i64 c2)) (ds := []) q95_0 (by kernel_rfl) rfl rfl ⟨(yag b2.out 0).trans rfl, (yag b2.out 1).trans rfl, (yag b2.out 2).trans rfl, (yag b2.out 3).trans rfl⟩ (fun hHeld => ?_); refine with_tabW spec_l6Mean.tab12 spec_l6Mean.bits12 (fun HT_ HW_ => ?_)
     generalize wr.drew = w39 at a6 b7 b2 HB hHeld ⊢
     refine pz_ 0 72 q95_1 HT_ (by kernel_rfl) ?_
     refine pz_ 2 74 q95_2 HT_ (by kernel_rfl) ?_
     refine pz_ 4 76 q95_3 HT_ (by kernel_rfl) ?_
     refine pz_ 6 78 q95_4 HT_ (by kernel_rfl) ?_
     refine pz_ 8 80 q95_5 HT_ (by kernel_rfl) ?_
     refine pz_ 10 82 q95_6 HT_ (by kernel_rfl) ?_
     refine pz_ 12 84 q95_7 HT_ (by kernel_rfl) ?_
     refine pz_ 14 86 q95_8 HT_ (by kernel_rfl) ?_
     refine tz_ 1 73 q95_9 HT_ HW_ (by kernel_rfl) hHeld ?_
     refine pz_ 3 75 q95_10 HT_ (by kernel_rfl) ?_
     refine tz_ 5 77 q95_11 HT_ HW_ (by kernel_rfl) hHeld ?_
     refine pz_ 7 79 q95_12 HT_ (by kernel_rfl) ?_
     refine tz_ 9 81 q95_13 HT_ HW_ (by kernel_rfl) hHeld ?_
     refine pz_ 11 83 q95_14 HT_ (by kernel_rfl) ?_
     refine tz_ 13 85 q95_15 HT_ HW_ (by kernel_rfl) hHeld ?_
     refine pz_ 15 87 q95_16 HT_ (by kernel_rfl) ?_
     refine pz_ 16 88 q95_17 HT_ (by kernel_rfl) ?_
     refine one_ (i := 17) (N := none) q95_18 rfl rfl (one_of HT_.out (by kernel_rfl)) (by decide) (fun K hK => ?_)
     have q8 : w39.cell? ⟨b1, 0, none⟩ = some (.int .i64 0) := (yag b7.out 0).trans rfl
     have q0 := yae b7.out 0
     have k3 := c3.out
     have k4 := a5.out
     have k5 := c4.out
     have k6 := b3.out
     have q9 : w39.cell? ⟨b1, 1, none⟩ = some (.int .i64 0) := (yag b7.out 1).trans rfl
     have q1 := yae b7.out 1
     have k7 := c3.out
     have k8 := a5.out
     have k9 := c4.out
     have l2 := b3.out
     have r0 : w39.cell? ⟨b1, 2, none⟩ = some (.int .i64 0) := (yag b7.out 2).trans rfl
     have q2 := yae b7.out 2
     have l3 := c3.out
     have l4 := a5.out
     have l5 := c4.out
     have l6 := b3.out
     have r5 : w39.cell? ⟨b1, 3, none⟩ = some (.int .i64 0) := (yag b7.out 3).trans rfl
     have q3 := yae b7.out 3
     have l7 := c3.out
     have l8 := a5.out
     have l9 := c4.out
     have m0 := b3.out
     refine skip_ (w1 := ?_) (by rfl) rfl ?_ ?_
     rotate_left
     ·
      go_simp
      rfl
     refine hK.out _ _ ⟨((cell_far (p := ⟨b1, _, none⟩) a5.out _).trans (((cell_far (p := ⟨b1, _, none⟩) a5.out _).trans (((cell_far (p := ⟨b1, _, none⟩) a5.out _).trans (((cell_far (p := ⟨b1, _, none⟩) a5.out _).trans (hHeld.1)))))))), ((cell_far (p := ⟨b1, _, none⟩) a5.out _).trans (((cell_far (p := ⟨b1, _, none⟩) a5.out _).trans (((cell_far (p := ⟨b1, _, none⟩) a5.out _).trans (((cell_far (p := ⟨b1, _, none⟩) a5.out _).trans (hHeld.2.1)))))))), ((cell_far (p := ⟨b1, _, none⟩) a5.out _).trans (((cell_far (p := ⟨b1, _, none⟩) a5.out _).trans (((cell_far (p := ⟨b1, _, none⟩) a5.out _).trans (((cell_far (p := ⟨b1, _, none⟩) a5.out _).trans (hHeld.2.2.1)))))))), ((cell_far (p := ⟨b1, _, none⟩) a5.out _).trans (((cell_far (p := ⟨b1, _, none⟩) a5.out _).trans (((cell_far (p := ⟨b1, _, none⟩) a5.out _).trans (((cell_far (p := ⟨b1, _, none⟩) a5.out _).trans (hHeld.2.2.2))))))))⟩ (fun hHeld => ?_)
     clear hK K
     refine done_ (done_of HT_.out (by kernel_rfl)) ?_
     try go_wp2
     refine bodyPost_ret (results_cell_row rfl _ _ b1 36 #[.int .i64 (wrap64 (Int.tdiv b6 c6)), .int .i64 (wrap64 (Int.tdiv b8 c6)), .int .i64 (wrap64 (Int.tdiv c0 c6)), .int .i64 (wrap64 (Int.tdiv c2 c6))] (0, 0) _ rfl (by (with_reducible repeat (first | refine yab ?_ _ | refine yad ?_ | refine yac ?_ _)); refine blk_put (cs := #[.int .i64 (wrap64 (Int.tdiv b6 c6)), .int .i64 (wrap64 (Int.tdiv b8 c6)), .int .i64 (wrap64 (Int.tdiv c0 c6)), .int .i64 0]) ?_ 3 _ rfl; (with_reducible repeat (first | refine yab ?_ _ | refine yad ?_ | refine yac ?_ _)); refine blk_put (cs := #[.int .i64 (wrap64 (Int.tdiv b6 c6)), .int .i64 (wrap64 (Int.tdiv b8 c6)), .int .i64 0, .int .i64 0]) ?_ 2 _ rfl; (with_reducible repeat (first | refine yab ?_ _ | refine yad ?_ | refine yac ?_ _)); refine blk_put (cs := #[.int .i64 (wrap64 (Int.tdiv b6 c6)), .int .i64 0, .int .i64 0, .int .i64 0]) ?_ 1 _ rfl; (with_reducible repeat (first | refine yab ?_ _ | refine yad ?_ | refine yac ?_ _)); refine blk_put (cs := #[.int .i64 0, .int .i64 0, .int .i64 0, .int .i64 0]) ?_ 0 _ rfl; exact upB b7.out) Try.underlying36 rfl (by kernel_rfl)) rfl ?_
     exact ⟨by first | rfl | (simp [errW_none, errW_some] <;> rfl) | (simp only [← hji4, ← hji11]; first | rfl | (simp [errW_none, errW_some] <;> rfl)) | (simp [*, errW_none, errW_some] <;> rfl), by repeat (first | (with_reducible first | exact HB.out | apply yai | apply yaf | apply yah | refine below_set ?_ (Aside0.out ‹_›)) | exact HB.out)⟩

end Go.Proofs.Ytoifpgkfpdeglaa.X

namespace Go.Proofs.Ytoifpgkfpdeglaa.X
open Go.RowKit Go.Proofs.YtoifpgkfpdeglaaW.PrintWords Go.Proofs.YtoifpgkfpdeglaaW.PrintLast Go.Proofs.YtoifpgkfpdeglaaW.PrintMore
attribute [local go_sem] max2_int min2_int max_two min_two max_three min_three max_four min_four
set_option linter.unusedVariables false
set_option linter.unusedSimpArgs false

open Go.Proofs.YtoifpgkfpdeglaaW.PrintWords.Aside0 renaming mk → yaa
open Go.Proofs.YtoifpgkfpdeglaaW.PrintWords renaming pw_below_drewN → yab

/-! ### spec_l6Flat: function 96 -/
def spec_l6Flat.f (a0_0 : Int) (a0_1 : Int) (a0_2 : Int) (a0_3 : Int) (a1_0 : Int) (a1_1 : Int) (a1_2 : Int) (a1_3 : Int) (a1_4 : Int) : Option (Int × Int × Int × Int) := some (wrap64 (Int.tdiv (wrap64 ((wrap64 (a0_0 * a0_3)) + (wrap64 (a1_1 * (wrap64 (255 - a0_3)))))) 255), wrap64 (Int.tdiv (wrap64 ((wrap64 (a0_1 * a0_3)) + (wrap64 (a1_2 * (wrap64 (255 - a0_3)))))) 255), wrap64 (Int.tdiv (wrap64 ((wrap64 (a0_2 * a0_3)) + (wrap64 (a1_3 * (wrap64 (255 - a0_3)))))) 255), 255)
set_option maxHeartbeats 8000000 in
set_option maxRecDepth 100000 in
theorem spec_l6Flat.calls (a0_0 : Int) (a0_1 : Int) (a0_2 : Int) (a0_3 : Int) (a1_0 : Int) (a1_1 : Int) (a1_2 : Int) (a1_3 : Int) (a1_4 : Int) (r1 : Int) (r2 : Int) (r3 : Int) (r4 : Int) (w : World) (h : spec_l6Flat.f a0_0 a0_1 a0_2 a0_3 a1_0 a1_1 a1_2 a1_3 a1_4 = some (r1, r2, r3, r4)) :
  Calls Try.prog 96 #[.agg #[.int .i64 a0_0, .int .i64 a0_1, .int .i64 a0_2, .int .i64 a0_3], .agg #[.int .i64 a1_0, .int .i64 a1_1, .int .i64 a1_2, .int .i64 a1_3, .int .i64 a1_4]] w fun e w' => e = .returned (.agg #[.int .i64 r1, .int .i64 r2, .int .i64 r3, .int .i64 r4]) ∧ Below w.heap.size w w' := by
 have hu36 := Try.underlying36
 have hu27 := Try.underlying27
 have HB := yaa (Below.refl w.heap.size w)
 have H : (some (wrap64 (Int.tdiv (wrap64 ((wrap64 (a0_0 * a0_3)) + (wrap64 (a1_1 * (wrap64 (255 - a0_3)))))) 255), wrap64 (Int.tdiv (wrap64 ((wrap64 (a0_1 * a0_3)) + (wrap64 (a1_2 * (wrap64 (255 - a0_3)))))) 255), wrap64 (Int.tdiv (wrap64 ((wrap64 (a0_2 * a0_3)) + (wrap64 (a1_3 * (wrap64 (255 - a0_3)))))) 255), 255)) = some (r1, r2, r3, r4) := h
 clear h
 simp only [Option.some.injEq, Prod.mk.injEq] at H
 obtain ⟨rfl, rfl, rfl, rfl⟩ := H
 go_enter Try.func96, Try.ntmps96
 go_wp2_with (first | ((with_reducible refine gate_dst (N := 2) rfl ?_); refine box_event ?hg (N := 2) ?hd (cs := #[.int .i64 a0_0, .int .i64 a0_1, .int .i64 a0_2, .int .i64 a0_3]) (t := 36) ?hr ?_; (case hd => rfl); (case hg => rfl); (case hr => first | (go_simp; done) | (go_simp; rfl)); intro a1 hg w3 hbox hb; have n0_ := yaa (below_step (by repeat (first | (with_reducible first | exact HB.out | apply below_alloc | apply yab | apply below_drew1) | exact HB.out)) hb); have n1_ := yaa (hbox); have n2_ := yaa ((by rw [hg]; exact (below_size (by repeat (first | (with_reducible first | exact HB.out | apply below_alloc | apply yab | apply below_drew1) | exact HB.out))) : w.heap.size ≤ a1)); have n3_ := yaa ((by rw [hg]; exact (below_size (by repeat (first | (with_reducible first | exact HB.out | apply below_alloc | apply yab | apply below_drew1) | exact HB.out))) : w.heap.size ≤ a1)); clear HB; have HB := n0_; have a0 := n1_; have d8 := n2_; have d9 := n3_; clear n0_ n1_ n2_ n3_; clear hb hbox hg) | ((with_reducible refine gate_dst (N := 3) rfl ?_); refine box_event ?hg (N := 3) ?hd (cs := #[.int .i64 a1_0, .int .i64 a1_1, .int .i64 a1_2, .int .i64 a1_3, .int .i64 a1_4]) (t := 27) ?hr ?_; (case hd => rfl); (case hg => rfl); (case hr => first | (go_simp; done) | (go_simp; rfl)); intro a3 hg w4 hbox hb; have n0_ := yaa (blk_below (g := a1) (o := .cells #[.int .i64 a0_0, .int .i64 a0_1, .int .i64 a0_2, .int .i64 a0_3] 36 (0, 0)) (upB a0.out) hb); have n1_ := yaa (below_step (by repeat (first | (with_reducible first | exact HB.out | apply below_alloc | apply yab | apply below_drew1 | refine below_set ?_ (Aside0.out ‹_›)) | exact HB.out)) hb); have n2_ := yaa (hbox); have n3_ := yaa ((by rw [hg]; exact (below_size (by repeat (first | (with_reducible first | exact HB.out | apply below_alloc | apply yab | apply below_drew1 | refine below_set ?_ (Aside0.out ‹_›)) | exact HB.out))) : w.heap.size ≤ a3)); have n4_ := yaa ((by rw [hg]; exact (below_size (by repeat (first | (with_reducible first | exact HB.out | apply below_alloc | apply yab | apply below_drew1 | refine below_set ?_ (Aside0.out ‹_›)) | exact HB.out))) : w.heap.size ≤ a3)); have n5_ := yaa ((by rw [hg]; exact Nat.ne_of_lt (blk_lt (g := a1) (o := .cells #[.int .i64 a0_0, .int .i64 a0_1, .int .i64 a0_2, .int .i64 a0_3] 36 (0, 0)) (upB a0.out)) : a1 ≠ a3)); have n6_ := yaa ((by rw [hg]; exact Nat.ne_of_gt (blk_lt (g := a1) (o := .cells #[.int .i64 a0_0, .int .i64 a0_1, .int .i64 a0_2, .int .i64 a0_3] 36 (0, 0)) (upB a0.out)) : a3 ≠ a1)); clear a0; clear HB; have a0 := n0_; have HB := n1_; have a2 := n2_; have e0 := n3_; have e1 := n4_; have a6 := n5_; have a7 := n6_; clear n0_ n1_ n2_ n3_ n4_ n5_ n6_; clear hb hbox hg) | ((with_reducible refine gate_dst (N := 4) rfl ?_); refine box_event ?hg (N := 4) ?hd (cs := #[.int .i64 0, .int .i64 0, .int .i64 0, .int .i64 0]) (t := 36) ?hr ?_; (case hd => rfl); (case hg => rfl); (case hr => first | (go_simp; done) | (go_simp; rfl)); intro a4 hg w5 hbox hb; have n0_ := yaa (blk_below (g := a1) (o := .cells #[.int .i64 a0_0, .int .i64 a0_1, .int .i64 a0_2, .int .i64 a0_3] 36 (0, 0)) (upB a0.out) hb); have n1_ := yaa (blk_below (g := a3) (o := .cells #[.int .i64 a1_0, .int .i64 a1_1, .int .i64 a1_2, .int .i64 a1_3, .int .i64 a1_4] 27 (0, 0)) (upB a2.out) hb); have n2_ := yaa (below_step (by repeat (first | (with_reducible first | exact HB.out | apply below_alloc | apply yab | apply below_drew1 | refine below_set ?_ (Aside0.out ‹_›)) | exact HB.out)) hb); have n3_ := yaa (hbox); have n4_ := yaa ((by rw [hg]; exact (below_size (by repeat (first | (with_reducible first | exact HB.out | apply below_alloc | apply yab | apply below_drew1 | refine below_set ?_ (Aside0.out ‹_›)) | exact HB.out))) : w.heap.size ≤ a4)); have n5_ := yaa ((by rw [hg]; exact (below_size (by repeat (first | (with_reducible first | exact HB.out | apply below_alloc | apply yab | apply below_drew1 | refine below_set ?_ (Aside0.out ‹_›)) | exact HB.out))) : w.heap.size ≤ a4)); have n6_ := yaa ((by rw [hg]; exact Nat.ne_of_lt (blk_lt (g := a1) (o := .cells #[.int .i64 a0_0, .int .i64 a0_1, .int .i64 a0_2, .int .i64 a0_3] 36 (0, 0)) (upB a0.out)) : a1 ≠ a4)); have n7_ := yaa ((by rw [hg]; exact Nat.ne_of_gt (blk_lt (g := a1) (o := .cells #[.int .i64 a0_0, .int .i64 a0_1, .int .i64 a0_2, .int .i64 a0_3] 36 (0, 0)) (upB a0.out)) : a4 ≠ a1)); have n8_ := yaa ((by rw [hg]; exact Nat.ne_of_lt (blk_lt (g := a3) (o := .cells #[.int .i64 a1_0, .int .i64 a1_1, .int .i64 a1_2, .int .i64 a1_3, .int .i64 a1_4] 27 (0, 0)) (upB a2.out)) : a3 ≠ a4)); have n9_ := yaa ((by rw [hg]; exact Nat.ne_of_gt (blk_lt (g := a3) (o := .cells #[.int .i64 a1_0, .int .i64 a1_1, .int .i64 a1_2, .int .i64 a1_3, .int .i64 a1_4] 27 (0, 0)) (upB a2.out)) : a4 ≠ a3)); clear a0; clear a2; clear HB; have a0 := n0_; have a2 := n1_; have HB := n2_; have a5 := n3_; have e2 := n4_; have e3 := n5_; have a8 := n6_; have a9 := n7_; have b0 := n8_; have b1 := n9_; clear n0_ n1_ n2_ n3_ n4_ n5_ n6_ n7_ n8_ n9_; clear hb hbox hg; have e4 := a6.out; have e5 := a7.out; have e6 := a8.out; have e7 := a9.out; have d0 : w5.cell? ⟨a1, 0, none⟩ = some (.int .i64 a0_0) := (blk_cell a0.out 0).trans rfl; have d1 : w5.cell? ⟨a1, 1, none⟩ = some (.int .i64 a0_1) := (blk_cell a0.out 1).trans rfl; have d2 : w5.cell? ⟨a1, 2, none⟩ = some (.int .i64 a0_2) := (blk_cell a0.out 2).trans rfl; have d3 : w5.cell? ⟨a1, 3, none⟩ = some (.int .i64 a0_3) := (blk_cell a0.out 3).trans rfl; have d4 := blk_frozen a0.out 0; have d5 := blk_frozen a0.out 1; have d6 := blk_frozen a0.out 2; have d7 := blk_frozen a0.out 3; have e8 := b0.out; have e9 := b1.out; have b2 : w5.cell? ⟨a3, 0, none⟩ = some (.int .i64 a1_0) := (blk_cell a2.out 0).trans rfl; have b3 : w5.cell? ⟨a3, 1, none⟩ = some (.int .i64 a1_1) := (blk_cell a2.out 1).trans rfl; have b4 : w5.cell? ⟨a3, 2, none⟩ = some (.int .i64 a1_2) := (blk_cell a2.out 2).trans rfl; have b5 : w5.cell? ⟨a3, 3, none⟩ = some (.int .i64 a1_3) := (blk_cell a2.out 3).trans rfl; have b6 : w5.cell? ⟨a3, 4, none⟩ = some (.int .i64 a1_4) := (blk_cell a2.out 4).trans rfl; have b7 := blk_frozen a2.out 0; have b8 := blk_frozen a2.out 1; have b9 := blk_frozen a2.out 2; have c0 := blk_frozen a2.out 3; have c1 := blk_frozen a2.out 4; have c2 : w5.cell? ⟨a4, 0, none⟩ = some (.int .i64 0) := (blk_cell a5.out 0).trans rfl; have c3 : w5.cell? ⟨a4, 1, none⟩ = some (.int .i64 0) := (blk_cell a5.out 1).trans rfl; have c4 : w5.cell? ⟨a4, 2, none⟩ = some (.int .i64 0) := (blk_cell a5.out 2).trans rfl; have c5 : w5.cell? ⟨a4, 3, none⟩ = some (.int .i64 0) := (blk_cell a5.out 3).trans rfl; have c6 := blk_frozen a5.out 0; have c7 := blk_frozen a5.out 1; have c8 := blk_frozen a5.out 2; have c9 := blk_frozen a5.out 3))
 refine bodyPost_ret (results_cell_row rfl _ _ a4 36 #[.int .i64 (wrap64 (Int.tdiv (wrap64 ((wrap64 (a0_0 * a0_3)) + (wrap64 (a1_1 * (wrap64 (255 - a0_3)))))) 255)), .int .i64 (wrap64 (Int.tdiv (wrap64 ((wrap64 (a0_1 * a0_3)) + (wrap64 (a1_2 * (wrap64 (255 - a0_3)))))) 255)), .int .i64 (wrap64 (Int.tdiv (wrap64 ((wrap64 (a0_2 * a0_3)) + (wrap64 (a1_3 * (wrap64 (255 - a0_3)))))) 255)), .int .i64 255] (0, 0) _ rfl (by (with_reducible repeat (first | refine blk_drewN ?_ _ | refine blk_drew ?_ | refine blk_alloc ?_ _)); refine blk_put (cs := #[.int .i64 (wrap64 (Int.tdiv (wrap64 ((wrap64 (a0_0 * a0_3)) + (wrap64 (a1_1 * (wrap64 (255 - a0_3)))))) 255)), .int .i64 (wrap64 (Int.tdiv (wrap64 ((wrap64 (a0_1 * a0_3)) + (wrap64 (a1_2 * (wrap64 (255 - a0_3)))))) 255)), .int .i64 (wrap64 (Int.tdiv (wrap64 ((wrap64 (a0_2 * a0_3)) + (wrap64 (a1_3 * (wrap64 (255 - a0_3)))))) 255)), .int .i64 0]) ?_ 3 _ rfl; (with_reducible repeat (first | refine blk_drewN ?_ _ | refine blk_drew ?_ | refine blk_alloc ?_ _)); refine blk_put (cs := #[.int .i64 (wrap64 (Int.tdiv (wrap64 ((wrap64 (a0_0 * a0_3)) + (wrap64 (a1_1 * (wrap64 (255 - a0_3)))))) 255)), .int .i64 (wrap64 (Int.tdiv (wrap64 ((wrap64 (a0_1 * a0_3)) + (wrap64 (a1_2 * (wrap64 (255 - a0_3)))))) 255)), .int .i64 0, .int .i64 0]) ?_ 2 _ rfl; (with_reducible repeat (first | refine blk_drewN ?_ _ | refine blk_drew ?_ | refine blk_alloc ?_ _)); refine blk_put (cs := #[.int .i64 (wrap64 (Int.tdiv (wrap64 ((wrap64 (a0_0 * a0_3)) + (wrap64 (a1_1 * (wrap64 (255 - a0_3)))))) 255)), .int .i64 0, .int .i64 0, .int .i64 0]) ?_ 1 _ rfl; (with_reducible repeat (first | refine blk_drewN ?_ _ | refine blk_drew ?_ | refine blk_alloc ?_ _)); refine blk_put (cs := #[.int .i64 0, .int .i64 0, .int .i64 0, .int .i64 0]) ?_ 0 _ rfl; exact upB a5.out) Try.underlying36 rfl (by kernel_rfl)) rfl ?_
 exact ⟨by first | rfl | (simp [errW_none, errW_some] <;> rfl) | (simp [*, errW_none, errW_some] <;> rfl), by repeat (first | (with_reducible first | exact HB.out | apply below_alloc | apply yab | apply below_drew1 | refine below_set ?_ (Aside0.out ‹_›)) | exact HB.out)⟩

end Go.Proofs.Ytoifpgkfpdeglaa.X

namespace Go.Proofs.Ytoifpgkfpdeglaa.X
open Go.RowKit Go.Proofs.YtoifpgkfpdeglaaW.PrintWords Go.Proofs.YtoifpgkfpdeglaaW.PrintLast Go.Proofs.YtoifpgkfpdeglaaW.PrintMore
attribute [local go_sem] max2_int min2_int max_two min_two max_three min_three max_four min_four
set_option linter.unusedVariables false
set_option linter.unusedSimpArgs false

open Go.Proofs.YtoifpgkfpdeglaaW.PrintWords renaming blk_cell → yaa, blk_alloc → yac, blk_frozen → yad, pw_below_drewN → yae, below_drew1 → yaf, below_alloc → yag, blk_drew → yah, blk_drewN → yai, below_set → yaj, blk_below → yak
open Go.Proofs.YtoifpgkfpdeglaaW.PrintWords.Aside0 renaming mk → yab

/-! ### spec_l6Each: function 78 -/
abbrev q78_0 : Array Bool := #[false, false, false, false, false, false, false, false, false, false, false, false]
abbrev q78_1 : Array Bool := #[true, false, false, false, false, false, false, false, false, false, false, false]
abbrev q78_2 : Array Bool := #[true, false, true, false, false, false, false, false, false, false, false, false]
abbrev q78_3 : Array Bool := #[true, false, true, false, true, false, false, false, false, false, false, false]
abbrev q78_4 : Array Bool := #[true, true, true, false, true, false, false, false, false, false, false, false]
abbrev q78_5 : Array Bool := #[true, true, true, true, true, false, false, false, false, false, false, false]
abbrev q78_6 : Array Bool := #[true, true, true, true, true, true, false, false, false, false, false, false]
abbrev q78_7 : Array Bool := #[true, true, true, true, true, true, true, false, false, false, false, false]
abbrev q78_8 : Array Bool := #[true, true, true, true, true, true, true, true, false, false, false, false]
abbrev q78_9 : Array Bool := #[true, true, true, true, true, true, true, true, true, false, false, false]
abbrev q78_10 : Array Bool := #[true, true, true, true, true, true, true, true, true, true, false, false]
abbrev q78_11 : Array Bool := #[true, true, true, true, true, true, true, true, true, true, true, false]
abbrev q78_12 : Array Bool := #[true, true, true, true, true, true, true, true, true, true, true, true]
abbrev q78_13 : Array Bool := #[false, false, false, false, false, false, false, false, false, false, false, false, false, false, false, false]
abbrev q78_14 : Array Bool := #[true, false, false, false, false, false, false, false, false, false, false, false, false, false, false, false]
abbrev q78_15 : Array Bool := #[true, false, false, true, false, false, false, false, false, false, false, false, false, false, false, false]
abbrev q78_16 : Array Bool := #[true, false, false, true, true, false, false, false, false, false, false, false, false, false, false, false]
abbrev q78_17 : Array Bool := #[true, false, false, true, true, false, false, true, false, false, false, false, false, false, false, false]
abbrev q78_18 : Array Bool := #[true, false, false, true, true, false, false, true, true, false, false, false, false, false, false, false]
abbrev q78_19 : Array Bool := #[true, true, false, true, true, false, false, true, true, false, false, false, false, false, false, false]
abbrev q78_20 : Array Bool := #[true, true, true, true, true, false, false, true, true, false, false, false, false, false, false, false]
abbrev q78_21 : Array Bool := #[true, true, true, true, true, true, false, true, true, false, false, false, false, false, false, false]
abbrev q78_22 : Array Bool := #[true, true, true, true, true, true, true, true, true, false, false, false, false, false, false, false]
abbrev q78_23 : Array Bool := #[true, true, true, true, true, true, true, true, true, true, false, false, false, false, false, false]
abbrev q78_24 : Array Bool := #[true, true, true, true, true, true, true, true, true, true, true, false, false, false, false, false]
abbrev q78_25 : Array Bool := #[true, true, true, true, true, true, true, true, true, true, true, true, false, false, false, false]
abbrev q78_26 : Array Bool := #[true, true, true, true, true, true, true, true, true, true, true, true, true, false, false, false]
abbrev q78_27 : Array Bool := #[true, true, true, true, true, true, true, true, true, true, true, true, true, true, false, false]
abbrev q78_28 : Array Bool := #[true, true, true, true, true, true, true, true, true, true, true, true, true, true, true, false]
abbrev q78_29 : Array Bool := #[true, true, true, true, true, true, true, true, true, true, true, true, true, true, true, true]
abbrev q78_30 : Array Bool := #[false, false, false, false, false, false, false, false, false, false, false, false, false]
abbrev q78_31 : Array Bool := #[true, false, false, false, false, false, false, false, false, false, false, false, false]
abbrev q78_32 : Array Bool := #[true, false, true, false, false, false, false, false, false, false, false, false, false]
abbrev q78_33 : Array Bool := #[true, false, true, false, true, false, false, false, false, false, false, false, false]
abbrev q78_34 : Array Bool := #[true, true, true, false, true, false, false, false, false, false, false, false, false]
abbrev q78_35 : Array Bool := #[true, true, true, true, true, false, false, false, false, false, false, false, false]
abbrev q78_36 : Array Bool := #[true, true, true, true, true, true, false, false, false, false, false, false, false]
abbrev q78_37 : Array Bool := #[true, true, true, true, true, true, true, false, false, false, false, false, false]
abbrev q78_38 : Array Bool := #[true, true, true, true, true, true, true, true, false, false, false, false, false]
abbrev q78_39 : Array Bool := #[true, true, true, true, true, true, true, true, true, false, false, false, false]
abbrev q78_40 : Array Bool := #[true, true, true, true, true, true, true, true, true, true, false, false, false]
abbrev q78_41 : Array Bool := #[true, true, true, true, true, true, true, true, true, true, true, false, false]
abbrev q78_42 : Array Bool := #[true, true, true, true, true, true, true, true, true, true, true, true, false]
abbrev q78_43 : Array Bool := #[true, true, true, true, true, true, true, true, true, true, true, true, true]
def spec_l6Each.l0 : Nat → Int → Int → Int → List (S36) → Int → Int → Int → Int → Int → Int → Int → List (S36) → Option (Int × Int × (List (S36)))
 | 0, _, _, _, _, _, _, _, _, _, _, _, _ => none
 | k + 1, x6, x102000, x102001, x102002, x103000, x103001, x103002, x103003, x103004, x105000, x105001, x105002 => if x6 < (x102002.length : Int) then (if x103000 = 5 then (if 0 ≤ x6 then ((spec_l6Gray.f ((rd_T36 x102002 x6).f0) ((rd_T36 x102002 x6).f1) ((rd_T36 x102002 x6).f2) ((rd_T36 x102002 x6).f3)).bind fun bt106 => (if x105002.length < 4398046511104 then (spec_l6Each.l0 k (wrap64 (x6 + 1)) x102000 x102001 x102002 x103000 x103001 x103002 x103003 x103004 x105000 x105001 (x105002 ++ [(⟨bt106.1, bt106.2.1, bt106.2.2.1, bt106.2.2.2⟩ : S36)])) else (none))) else (none)) else (if x103000 = 6 then (if x102000 = 0 then (none) else ((spec_l6Mean.f k x102000 x102001 x102002 (Int.tmod x6 x102000) (wrap64 (Int.tdiv x6 x102000))).bind fun bt113 => (if x105002.length < 4398046511104 then (spec_l6Each.l0 k (wrap64 (x6 + 1)) x102000 x102001 x102002 x103000 x103001 x103002 x103003 x103004 x105000 x105001 (x105002 ++ [(⟨bt113.1, bt113.2.1, bt113.2.2.1, bt113.2.2.2⟩ : S36)])) else (none)))) else (if 0 ≤ x6 then ((spec_l6Flat.f ((rd_T36 x102002 x6).f0) ((rd_T36 x102002 x6).f1) ((rd_T36 x102002 x6).f2) ((rd_T36 x102002 x6).f3) x103000 x103001 x103002 x103003 x103004).bind fun bt121 => (if x105002.length < 4398046511104 then (spec_l6Each.l0 k (wrap64 (x6 + 1)) x102000 x102001 x102002 x103000 x103001 x103002 x103003 x103004 x105000 x105001 (x105002 ++ [(⟨bt121.1, bt121.2.1, bt121.2.2.1, bt121.2.2.2⟩ : S36)])) else (none))) else (none)))) else (some (x105000, x105001, x105002))
def spec_l6Each.f (k : Nat) (a0_0 : Int) (a0_1 : Int) (l0_2 : List (S36)) (a1_0 : Int) (a1_1 : Int) (a1_2 : Int) (a1_3 : Int) (a1_4 : Int) : Option (Int × Int × (List (S36))) := spec_l6Each.l0 k 0 a0_0 a0_1 l0_2 a1_0 a1_1 a1_2 a1_3 a1_4 a0_0 a0_1 ([] : List (S36))
def spec_l6Each.T6 : Bool × List (List Nat × List Nat) := (true, [([], []), ([0], [0]), ([], []), ([2], [2]), ([], []), ([3, 4], [3, 4]), ([5], [5]), ([], []), ([6, 7], [6, 7]), ([8], [8]), ([1, 9, 8], [1, 9]), ([0, 1, 2, 3, 4, 5, 6, 7, 8, 9, 10], []), ([11, 10, 10, 0, 1, 2, 3, 4, 5, 6, 7, 8, 9, 10], [10, 11])])
def spec_l6Each.B6 : List Nat := [0, 1, 0, 4, 0, 28, 60, 0, 252, 508, 1023, 2047, 4095]
theorem spec_l6Each.tab6 : rtab .any (opsOf Try.f78 6) = spec_l6Each.T6 := by kernel_rfl
theorem spec_l6Each.bits6 : waitsOk spec_l6Each.T6.2 spec_l6Each.B6 = true := by kernel_rfl
def spec_l6Each.T8 : Bool × List (List Nat × List Nat) := (true, [([], []), ([0], [0]), ([], []), ([2], [2]), ([], []), ([3, 4], [3, 4]), ([5], [5]), ([6], [6]), ([7], [7]), ([1, 8, 7], [1, 8]), ([0, 1, 2, 3, 4, 5, 6, 7, 8, 9], []), ([10, 9, 9, 0, 1, 2, 3, 4, 5, 6, 7, 8, 9], [9, 10])])
def spec_l6Each.B8 : List Nat := [0, 1, 0, 4, 0, 28, 60, 124, 252, 511, 1023, 2047]
theorem spec_l6Each.tab8 : rtab .any (opsOf Try.f78 8) = spec_l6Each.T8 := by kernel_rfl
theorem spec_l6Each.bits8 : waitsOk spec_l6Each.T8.2 spec_l6Each.B8 = true := by kernel_rfl
def spec_l6Each.T10 : Bool × List (List Nat × List Nat) := (true, [([], []), ([0], [0]), ([], []), ([], []), ([], []), ([4], [4]), ([3, 5], [3, 5]), ([], []), ([], []), ([8], [8]), ([7, 9], [7, 9]), ([2, 6, 10], [2, 6, 10]), ([11], [11]), ([1, 12, 11], [1, 12]), ([0, 1, 2, 3, 4, 5, 6, 7, 8, 9, 10, 11, 12, 13], []), ([14, 13, 13, 0, 1, 2, 3, 4, 5, 6, 7, 8, 9, 10, 11, 12, 13], [13, 14])])
def spec_l6Each.B10 : List Nat := [0, 1, 0, 0, 0, 16, 56, 0, 0, 256, 896, 2044, 4092, 8191, 16383, 32767]
theorem spec_l6Each.tab10 : rtab .any (opsOf Try.f78 10) = spec_l6Each.T10 := by kernel_rfl
theorem spec_l6Each.bits10 : waitsOk spec_l6Each.T10.2 spec_l6Each.B10 = true := by kernel_rfl
set_option maxHeartbeats 8000000 in
set_option maxRecDepth 100000 in
theorem spec_l6Each.calls (k : Nat) (a0_0 : Int) (a0_1 : Int) (A0_2 : Option Addr) (c0_2 : Nat) (l0_2 : List (S36)) (a1_0 : Int) (a1_1 : Int) (a1_2 : Int) (a1_3 : Int) (a1_4 : Int) (r1 : Int) (r2 : Int) (r3 : List (S36)) (w : World) (hr0_2 : Kd.C k36 w A0_2 l0_2.length l0_2) (hc0_2 : l0_2.length ≤ c0_2) (h : spec_l6Each.f k a0_0 a0_1 l0_2 a1_0 a1_1 a1_2 a1_3 a1_4 = some (r1, r2, r3)) :
  Calls Try.prog 78 #[.agg #[.int .i64 a0_0, .int .i64 a0_1, .slice A0_2 l0_2.length c0_2], .agg #[.int .i64 a1_0, .int .i64 a1_1, .int .i64 a1_2, .int .i64 a1_3, .int .i64 a1_4]] w fun e w' => ∃ v2_ : Value, e = .returned (.agg #[.int .i64 r1, .int .i64 r2, v2_]) ∧ Kd.R k36 36 w' w.heap.size (fun _ => True) v2_ r3 ∧ Below w.heap.size w w' := by
 have hu25 := Try.underlying25
 have hu27 := Try.underlying27
 have hu36 := Try.underlying36
 have HR0_2 := yab hr0_2
 have HC0_2 := yab hc0_2
 clear hr0_2 hc0_2
 have HB := yab (Below.refl w.heap.size w)
 have H : (spec_l6Each.l0 k 0 a0_0 a0_1 l0_2 a1_0 a1_1 a1_2 a1_3 a1_4 a0_0 a0_1 ([] : List (S36))) = some (r1, r2, r3) := h
 clear h
 have H' := yab H
 clear H
 go_enter Try.func78, Try.ntmps78
 go_wp2_with (first | ((with_reducible refine gate_dst (N := 2) rfl ?_); refine box_event ?hg (N := 2) ?hd (cs := #[.int .i64 a0_0, .int .i64 a0_1, .slice A0_2 l0_2.length c0_2]) (t := 25) ?hr ?_; (case hd => rfl); (case hg => rfl); (case hr => first | (go_simp; done) | (go_simp; rfl)); intro b3 hg w3 hbox hb; have n0_ := yab (below_step (by repeat (first | (with_reducible first | exact HB.out | apply yag | apply yae | apply yaf) | exact HB.out)) hb); have n1_ := yab (hbox); have n2_ := yab ((by rw [hg]; exact (below_size (by repeat (first | (with_reducible first | exact HB.out | apply yag | apply yae | apply yaf) | exact HB.out))) : w.heap.size ≤ b3)); have n3_ := yab ((by rw [hg]; exact (below_size (by repeat (first | (with_reducible first | exact HB.out | apply yag | apply yae | apply yaf) | exact HB.out))) : w.heap.size ≤ b3)); clear HB; have HB := n0_; have a8 := n1_; have t6 := n2_; have t7 := n3_; clear n0_ n1_ n2_ n3_; clear hb hbox hg) | ((with_reducible refine gate_dst (N := 3) rfl ?_); refine box_event ?hg (N := 3) ?hd (cs := #[.int .i64 a1_0, .int .i64 a1_1, .int .i64 a1_2, .int .i64 a1_3, .int .i64 a1_4]) (t := 27) ?hr ?_; (case hd => rfl); (case hg => rfl); (case hr => first | (go_simp; done) | (go_simp; rfl)); intro b6 hg w4 hbox hb; have n0_ := yab (yak (g := b3) (o := .cells #[.int .i64 a0_0, .int .i64 a0_1, .slice A0_2 l0_2.length c0_2] 25 (0, 0)) (upB a8.out) hb); have n1_ := yab (below_step (by repeat (first | (with_reducible first | exact HB.out | apply yag | apply yae | apply yaf | refine yaj ?_ (Aside0.out ‹_›)) | exact HB.out)) hb); have n2_ := yab (hbox); have n3_ := yab ((by rw [hg]; exact (below_size (by repeat (first | (with_reducible first | exact HB.out | apply yag | apply yae | apply yaf | refine yaj ?_ (Aside0.out ‹_›)) | exact HB.out))) : w.heap.size ≤ b6)); have n4_ := yab ((by rw [hg]; exact (below_size (by repeat (first | (with_reducible first | exact HB.out | apply yag | apply yae | apply yaf | refine yaj ?_ (Aside0.out ‹_›)) | exact HB.out))) : w.heap.size ≤ b6)); have n5_ := yab ((by rw [hg]; exact Nat.ne_of_lt (blk_lt (g := b3) (o := .cells #[.int .i64 a0_0, .int .i64 a0_1, .slice A0_2 l0_2.length c0_2] 25 (0, 0)) (upB a8.out)) : b3 ≠ b6)); have n6_ := yab ((by rw [hg]; exact Nat.ne_of_gt (blk_lt (g := b3) (o := .cells #[.int .i64 a0_0, .int .i64 a0_1, .slice A0_2 l0_2.length c0_2] 25 (0, 0)) (upB a8.out)) : b6 ≠ b3)); clear a8; clear HB; have a8 := n0_; have HB := n1_; have a9 := n2_; have t8 := n3_; have t9 := n4_; have d5 := n5_; have d6 := n6_; clear n0_ n1_ n2_ n3_ n4_ n5_ n6_; clear hb hbox hg) | ((with_reducible refine gate_dst (N := 4) rfl ?_); refine box_event ?hg (N := 4) ?hd (cs := #[.int .i64 0, .int .i64 0, .slice none 0 0]) (t := 25) ?hr ?_; (case hd => rfl); (case hg => rfl); (case hr => first | (go_simp; done) | (go_simp; rfl)); intro c2 hg w5 hbox hb; have n0_ := yab (yak (g := b3) (o := .cells #[.int .i64 a0_0, .int .i64 a0_1, .slice A0_2 l0_2.length c0_2] 25 (0, 0)) (upB a8.out) hb); have n1_ := yab (yak (g := b6) (o := .cells #[.int .i64 a1_0, .int .i64 a1_1, .int .i64 a1_2, .int .i64 a1_3, .int .i64 a1_4] 27 (0, 0)) (upB a9.out) hb); have n2_ := yab (below_step (by repeat (first | (with_reducible first | exact HB.out | apply yag | apply yae | apply yaf | refine yaj ?_ (Aside0.out ‹_›)) | exact HB.out)) hb); have n3_ := yab (hbox); have n4_ := yab ((by rw [hg]; exact (below_size (by repeat (first | (with_reducible first | exact HB.out | apply yag | apply yae | apply yaf | refine yaj ?_ (Aside0.out ‹_›)) | exact HB.out))) : w.heap.size ≤ c2)); have n5_ := yab ((by rw [hg]; exact (below_size (by repeat (first | (with_reducible first | exact HB.out | apply yag | apply yae | apply yaf | refine yaj ?_ (Aside0.out ‹_›)) | exact HB.out))) : w.heap.size ≤ c2)); have n6_ := yab ((by rw [hg]; exact Nat.ne_of_lt (blk_lt (g := b3) (o := .cells #[.int .i64 a0_0, .int .i64 a0_1, .slice A0_2 l0_2.length c0_2] 25 (0, 0)) (upB a8.out)) : b3 ≠ c2)); have n7_ := yab ((by rw [hg]; exact Nat.ne_of_gt (blk_lt (g := b3) (o := .cells #[.int .i64 a0_0, .int .i64 a0_1, .slice A0_2 l0_2.length c0_2] 25 (0, 0)) (upB a8.out)) : c2 ≠ b3)); have n8_ := yab ((by rw [hg]; exact Nat.ne_of_lt (blk_lt (g := b6) (o := .cells #[.int .i64 a1_0, .int .i64 a1_1, .int .i64 a1_2, .int .i64 a1_3, .int .i64 a1_4] 27 (0, 0)) (upB a9.out)) : b6 ≠ c2)); have n9_ := yab ((by rw [hg]; exact Nat.ne_of_gt (blk_lt (g := b6) (o := .cells #[.int .i64 a1_0, .int .i64 a1_1, .int .i64 a1_2, .int .i64 a1_3, .int .i64 a1_4] 27 (0, 0)) (upB a9.out)) : c2 ≠ b6)); clear a8; clear a9; clear HB; have a8 := n0_; have a9 := n1_; have HB := n2_; have b2 := n3_; have u0 := n4_; have u1 := n5_; have d7 := n6_; have d8 := n7_; have e0 := n8_; have e1 := n9_; clear n0_ n1_ n2_ n3_ n4_ n5_ n6_ n7_ n8_ n9_; clear hb hbox hg; have B9 := d5.out; have C0 := d6.out; have C1 := d7.out; have C2 := d8.out; have h5 : w5.cell? ⟨b3, 0, none⟩ = some (.int .i64 a0_0) := (yaa a8.out 0).trans rfl; have h6 : w5.cell? ⟨b3, 1, none⟩ = some (.int .i64 a0_1) := (yaa a8.out 1).trans rfl; have h7 : w5.cell? ⟨b3, 2, none⟩ = some (.slice A0_2 l0_2.length c0_2) := (yaa a8.out 2).trans rfl; have h8 := yad a8.out 0; have h9 := yad a8.out 1; have i0 := yad a8.out 2) | ((with_reducible refine gate_dst (N := 5) rfl ?_); refine box_event ?hg (N := 5) ?hd (cs := #[.int .i64 0, .int .i64 0, .slice none 0 0]) (t := 25) ?hr ?_; (case hd => rfl); (case hg => rfl); (case hr => first | (go_simp; done) | (go_simp; rfl)); intro b7 hg w9 hbox hb; have n0_ := yab (yak (g := b3) (o := .cells #[.int .i64 a0_0, .int .i64 a0_1, .slice A0_2 l0_2.length c0_2] 25 (0, 0)) (upB a8.out) hb); have n1_ := yab (yak (g := b6) (o := .cells #[.int .i64 a1_0, .int .i64 a1_1, .int .i64 a1_2, .int .i64 a1_3, .int .i64 a1_4] 27 (0, 0)) (upB a9.out) hb); have n2_ := yab (yak (g := c2) (o := .cells #[.int .i64 0, .int .i64 0, .slice none 0 0] 25 (0, 0)) (upB b2.out) hb); have n3_ := yab (below_step (by repeat (first | (with_reducible first | exact HB.out | apply yag | apply yae | apply yaf | refine yaj ?_ (Aside0.out ‹_›)) | exact HB.out)) hb); have n4_ := yab (hbox); have n5_ := yab ((by rw [hg]; exact (below_size (by repeat (first | (with_reducible first | exact HB.out | apply yag | apply yae | apply yaf | refine yaj ?_ (Aside0.out ‹_›)) | exact HB.out))) : w.heap.size ≤ b7)); have n6_ := yab ((by rw [hg]; exact (below_size (by repeat (first | (with_reducible first | exact HB.out | apply yag | apply yae | apply yaf | refine yaj ?_ (Aside0.out ‹_›)) | exact HB.out))) : w.heap.size ≤ b7)); have n7_ := yab ((by rw [hg]; exact Nat.ne_of_lt (blk_lt (g := b3) (o := .cells #[.int .i64 a0_0, .int .i64 a0_1, .slice A0_2 l0_2.length c0_2] 25 (0, 0)) (upB a8.out)) : b3 ≠ b7)); have n8_ := yab ((by rw [hg]; exact Nat.ne_of_gt (blk_lt (g := b3) (o := .cells #[.int .i64 a0_0, .int .i64 a0_1, .slice A0_2 l0_2.length c0_2] 25 (0, 0)) (upB a8.out)) : b7 ≠ b3)); have n9_ := yab ((by rw [hg]; exact Nat.ne_of_lt (blk_lt (g := b6) (o := .cells #[.int .i64 a1_0, .int .i64 a1_1, .int .i64 a1_2, .int .i64 a1_3, .int .i64 a1_4] 27 (0, 0)) (upB a9.out)) : b6 ≠ b7)); have i1 := yab ((by rw [hg]; exact Nat.ne_of_gt (blk_lt (g := b6) (o := .cells #[.int .i64 a1_0, .int .i64 a1_1, .int .i64 a1_2, .int .i64 a1_3, .int .i64 a1_4] 27 (0, 0)) (upB a9.out)) : b7 ≠ b6)); have i2 := yab ((by rw [hg]; exact Nat.ne_of_lt (blk_lt (g := c2) (o := .cells #[.int .i64 0, .int .i64 0, .slice none 0 0] 25 (0, 0)) (upB b2.out)) : c2 ≠ b7)); have i3 := yab ((by rw [hg]; exact Nat.ne_of_gt (blk_lt (g := c2) (o := .cells #[.int .i64 0, .int .i64 0, .slice none 0 0] 25 (0, 0)) (upB b2.out)) : b7 ≠ c2)); clear a8; clear a9; clear b2; clear HB; have a8 := n0_; have a9 := n1_; have b2 := n2_; have HB := n3_; have b1 := n4_; have u2 := n5_; have u3 := n6_; have b8 := n7_; have c3 := n8_; have b9 := n9_; have c4 := i1; have c0 := i2; have d9 := i3; clear n0_ n1_ n2_ n3_ n4_ n5_ n6_ n7_ n8_ n9_ i1 i2 i3; clear hb hbox hg; have u4 := c3.out; have u5 := b8.out; have u6 := c4.out; have u7 := b9.out; have u8 := d9.out; have u9 := c0.out; have g6 : w9.cell? ⟨b7, 0, none⟩ = some (.int .i64 0) := (yaa b1.out 0).trans rfl; have g7 : w9.cell? ⟨b7, 1, none⟩ = some (.int .i64 0) := (yaa b1.out 1).trans rfl; have g8 : w9.cell? ⟨b7, 2, none⟩ = some (.slice none 0 0) := (yaa b1.out 2).trans rfl; have g9 := yad b1.out 0; have h0 := yad b1.out 1; have h1 := yad b1.out 2))
 (try simp only [Act.put, List.setIfInBounds_toArray, List.set_cons_zero, List.set_cons_succ])
 go_loopg [6] k (fun kq v6 w' => ∃ (b5 : Int) (b4 : List (S36)) (u105002 : Value), v6 = .int .i64 b5 ∧ Aside0 (spec_l6Each.l0 kq b5 a0_0 a0_1 l0_2 a1_0 a1_1 a1_2 a1_3 a1_4 a0_0 a0_1 b4 = some (r1, r2, r3)) ∧ Aside0 (kq ≤ k) ∧ Aside0 (Kd.R k36 36 w' w.heap.size (fun _ => True) u105002 b4) ∧ Aside0 (w'.heap[b3]? = some (.cells #[.int .i64 a0_0, .int .i64 a0_1, (.slice A0_2 l0_2.length c0_2)] 25 (0, 0))) ∧ Aside0 (w'.heap[b6]? = some (.cells #[.int .i64 a1_0, .int .i64 a1_1, .int .i64 a1_2, .int .i64 a1_3, .int .i64 a1_4] 27 (0, 0))) ∧ Aside0 (w'.heap[c2]? = some (.cells #[.int .i64 0, .int .i64 0, (.slice none 0 0)] 25 (0, 0))) ∧ Aside0 (w'.heap[b7]? = some (.cells #[.int .i64 a0_0, .int .i64 a0_1, u105002] 25 (0, 0))) ∧ Aside0 (Below w.heap.size w w'))
 case atStart => exact ⟨(0), (([] : List (S36))), (.slice none 0 0), (by first | rfl | (simp; done) | (simp [*]; done)), H', ⟨Nat.le_refl _⟩, ⟨by first | exact Kd.R_nil _ _ _ _ _ | exact Kd.N_nil _ _ _ _ _ | exact Kd.V_nil _ _ _ _ _ | exact Kd.Q_nil _ _ _ _ _ | exact Kd.S_nil _ _ _ _ _⟩, ⟨by (with_reducible repeat (first | refine yai ?_ _ | refine yah ?_ | refine yac ?_ _)); refine blk_far ?_ b8.out _; (with_reducible repeat (first | refine yai ?_ _ | refine yah ?_ | refine yac ?_ _)); refine blk_far ?_ b8.out _; (with_reducible repeat (first | refine yai ?_ _ | refine yah ?_ | refine yac ?_ _)); refine blk_far ?_ b8.out _; exact upB a8.out⟩, ⟨by (with_reducible repeat (first | refine yai ?_ _ | refine yah ?_ | refine yac ?_ _)); refine blk_far ?_ b9.out _; (with_reducible repeat (first | refine yai ?_ _ | refine yah ?_ | refine yac ?_ _)); refine blk_far ?_ b9.out _; (with_reducible repeat (first | refine yai ?_ _ | refine yah ?_ | refine yac ?_ _)); refine blk_far ?_ b9.out _; exact upB a9.out⟩, ⟨by (with_reducible repeat (first | refine yai ?_ _ | refine yah ?_ | refine yac ?_ _)); refine blk_far ?_ c0.out _; (with_reducible repeat (first | refine yai ?_ _ | refine yah ?_ | refine yac ?_ _)); refine blk_far ?_ c0.out _; (with_reducible repeat (first | refine yai ?_ _ | refine yah ?_ | refine yac ?_ _)); refine blk_far ?_ c0.out _; exact upB b2.out⟩, ⟨by (with_reducible repeat (first | refine yai ?_ _ | refine yah ?_ | refine yac ?_ _)); refine blk_put (cs := #[.int .i64 a0_0, .int .i64 a0_1, .slice none 0 0]) ?_ 2 _ rfl; (with_reducible repeat (first | refine yai ?_ _ | refine yah ?_ | refine yac ?_ _)); refine blk_put (cs := #[.int .i64 a0_0, .int .i64 0, .slice none 0 0]) ?_ 1 _ rfl; (with_reducible repeat (first | refine yai ?_ _ | refine yah ?_ | refine yac ?_ _)); refine blk_put (cs := #[.int .i64 0, .int .i64 0, .slice none 0 0]) ?_ 0 _ rfl; exact upB b1.out⟩, ⟨by repeat (first | (with_reducible first | exact HB.out | apply yag | apply yae | apply yaf | refine yaj ?_ (Aside0.out ‹_›)) | exact HB.out)⟩⟩
 case round =>
  clear H'
  try clear c1
  try clear p2
  try clear c6
  try clear c7
  try clear c10
  try clear c11
  try clear c12
  try clear g6
  try clear g7
  try clear g8
  try clear h5
  try clear h6
  try clear h7
  try clear g9
  try clear h0
  try clear h1
  try clear h8
  try clear h9
  try clear i0
  obtain ⟨b5, b4, u105002, rfl, HA, HK1, b0, a8, a9, b2, b1, HB⟩ := hrel
  cases gk with
  | zero => exact absurd HA.out (by simp [spec_l6Each.l0])
  | succ k1 =>
   have H := HA.out
   clear HA
   simp only [spec_l6Each.l0] at H
   by_cases c14 : b5 < (l0_2.length : Int)
   ·
    rw [if_pos c14] at H
    have i4 : decide (b5 < (l0_2.length : Int)) = true := decide_eq_true c14
    clear c14
    by_cases c15 : a1_0 = 5
    ·
     rw [if_pos c15] at H
     have i5 : (a1_0 == 5) = true := beq_iff_eq.mpr c15
     have i6 : (a1_0 != 5) = false := bne_eq_false_iff_eq.mpr c15
     clear c15
     by_cases c16 : 0 ≤ b5
     ·
      rw [if_pos c16] at H
      have v0 : decide (0 ≤ b5) = true := decide_eq_true c16
      clear c16
      replace H := Option.bind_eq_some_iff.mp H
      obtain ⟨⟨f4, f5, f6, f7⟩, i7, H⟩ := H
      replace H : (if b4.length < 4398046511104 then (spec_l6Each.l0 k1 (wrap64 (b5 + 1)) a0_0 a0_1 l0_2 a1_0 a1_1 a1_2 a1_3 a1_4 a0_0 a0_1 (b4 ++ [(⟨f4, f5, f6, f7⟩ : S36)])) else (none)) = some (r1, r2, r3) := H
      have A17 := yab i7
      clear i7
      by_cases c18 : b4.length < 4398046511104
      ·
       rw [if_pos c18] at H
       have LMc18 := yab c18
       clear c18
       obtain ⟨y110, hy110⟩ : ∃ y_ : List (S36), y_ = (b4 ++ [(⟨f4, f5, f6, f7⟩ : S36)]) := ⟨_, rfl⟩
       replace H : (spec_l6Each.l0 k1 (wrap64 (b5 + 1)) a0_0 a0_1 l0_2 a1_0 a1_1 a1_2 a1_3 a1_4 a0_0 a0_1 y110) = some (r1, r2, r3) := by first | (rw [hy110]; with_reducible exact H) | (have H2_ := (Option.bind_some _ _).symm.trans H; rw [hy110]; with_reducible exact H2_) | (have H2_ := (Option.bind_some _ _).symm.trans H; with_reducible exact H2_) | with_reducible exact H | (rw [hy110]; exact H) | exact H
       have Ny110 := yab hy110
       clear hy110
       have H' := yab H
       clear H
       have v1 := d5.out
       have v2 := d6.out
       have v3 := d7.out
       have v4 := d8.out
       have v5 := b8.out
       have v7 := c3.out
       have k4 : wr.cell? ⟨b3, 0, none⟩ = some (.int .i64 a0_0) := (yaa a8.out 0).trans rfl
       have k5 : wr.cell? ⟨b3, 1, none⟩ = some (.int .i64 a0_1) := (yaa a8.out 1).trans rfl
       have k6 : wr.cell? ⟨b3, 2, none⟩ = some (.slice A0_2 l0_2.length c0_2) := (yaa a8.out 2).trans rfl
       have k7 := yad a8.out 0
       have k8 := yad a8.out 1
       have k9 := yad a8.out 2
       have v8 := e0.out
       have v9 := e1.out
       have w2 := b9.out
       have w6 := c4.out
       have l1 : wr.cell? ⟨b6, 0, none⟩ = some (.int .i64 a1_0) := (yaa a9.out 0).trans rfl
       have l2 : wr.cell? ⟨b6, 1, none⟩ = some (.int .i64 a1_1) := (yaa a9.out 1).trans rfl
       have l3 : wr.cell? ⟨b6, 2, none⟩ = some (.int .i64 a1_2) := (yaa a9.out 2).trans rfl
       have l4 : wr.cell? ⟨b6, 3, none⟩ = some (.int .i64 a1_3) := (yaa a9.out 3).trans rfl
       have l5 : wr.cell? ⟨b6, 4, none⟩ = some (.int .i64 a1_4) := (yaa a9.out 4).trans rfl
       have l6 := yad a9.out 0
       have l7 := yad a9.out 1
       have l8 := yad a9.out 2
       have l9 := yad a9.out 3
       have m0 := yad a9.out 4
       try go_wp2
       have n0_ := yab (Kd.R_drew b0.out)
       have n1_ := yab (yah a8.out)
       have n2_ := yab (yah a9.out)
       have n3_ := yab (yah b2.out)
       have n4_ := yab (yah b1.out)
       have n5_ := yab (yaf HB.out)
       clear b0 a8 a9 b2 b1 HB
       have b0 := n0_
       have a8 := n1_
       have a9 := n2_
       have b2 := n3_
       have b1 := n4_
       have HB := n5_
       clear n0_ n1_ n2_ n3_ n4_ n5_
       have p105 : 0 ≤ (b5 : Int) := of_decide_eq_true (by first | (with_reducible assumption) | assumption)
       have q105 : b5 < (l0_2.length : Int) := of_decide_eq_true (by first | (with_reducible assumption) | assumption)
       obtain ⟨ad105, t3, e2, e3, e4, e5⟩ := at_T36 HR0_2.out b5 p105 q105
       have c5 := e5
       have c8 := e4
       have c9 := e3
       have d0 := e2
       cases t3
       replace e2 := (HB.out.cell (World.block_lt_of_cell? w _ e2)).trans e2
       replace e3 := (HB.out.cell (World.block_lt_of_cell? w _ e3)).trans e3
       replace e4 := (HB.out.cell (World.block_lt_of_cell? w _ e4)).trans e4
       replace e5 := (HB.out.cell (World.block_lt_of_cell? w _ e5)).trans e5
       replace p105 := eq_true p105
       replace q105 := eq_true q105
       refine start_ (n := 12) (S := fun w' => w'.cell? ⟨b7, 0, none⟩ = some (.int .i64 a0_0) ∧ w'.cell? ⟨b7, 1, none⟩ = some (.int .i64 a0_1) ∧ w'.cell? ⟨b7, 2, none⟩ = some (u105002) ∧ w'.cell? ⟨b3, 0, none⟩ = some (.int .i64 a0_0) ∧ w'.cell? ⟨b3, 1, none⟩ = some (.int .i64 a0_1) ∧ w'.cell? ⟨b3, 2, none⟩ = some (.slice (some ad105) l0_2.length c0_2) ∧ w'.cell? (ad105.add ((b5).toNat * 4)) = some (.int .i64 ((rd_T36 l0_2 b5).f0)) ∧ w'.cell? ⟨(ad105.add ((b5).toNat * 4)).block, (ad105.add ((b5).toNat * 4)).off + 1, none⟩ = some (.int .i64 ((rd_T36 l0_2 b5).f1)) ∧ w'.cell? ⟨(ad105.add ((b5).toNat * 4)).block, (ad105.add ((b5).toNat * 4)).off + 2, none⟩ = some (.int .i64 ((rd_T36 l0_2 b5).f2)) ∧ w'.cell? ⟨(ad105.add ((b5).toNat * 4)).block, (ad105.add ((b5).toNat * 4)).off + 3, none⟩ = some (.int .i64 ((rd_T36 l0_2 b5).f3))) (ds := [11]) q78_0 (by kernel_rfl) rfl rfl ⟨(yaa b1.out 0).trans rfl, (yaa b1.out 1).trans rfl, (yaa b1.out 2).trans rfl, (yaa a8.out 0).trans rfl, (yaa a8.out 1).trans rfl, (yaa a8.out 2).trans rfl, ((HB.out.cell (World.block_lt_of_cell? w _ d0)).trans d0), ((HB.out.cell (World.block_lt_of_cell? w _ c9)).trans c9), ((HB.out.cell (World.block_lt_of_cell? w _ c8)).trans c8), ((HB.out.cell (World.block_lt_of_cell? w _ c5)).trans c5)⟩ (fun hHeld => ?_); refine with_tabW spec_l6Each.tab8 spec_l6Each.bits8 (fun HT_ HW_ => ?_)
       generalize wr.drew = w26 at b0 a8 a9 b2 b1 HB e2 e3 e4 e5 hHeld ⊢
       refine pz_ 0 35 q78_1 HT_ (by kernel_rfl) ?_
       refine pz_ 2 37 q78_2 HT_ (by kernel_rfl) ?_
       refine pz_ 4 39 q78_3 HT_ (by kernel_rfl) ?_
       refine tz_ 1 36 q78_4 HT_ HW_ (by kernel_rfl) hHeld ?_
       refine tz_ 3 38 q78_5 HT_ HW_ (by kernel_rfl) hHeld ?_
       refine pz_ 5 40 q78_6 HT_ (by kernel_rfl) ?_
       refine tz_ 6 41 q78_7 HT_ HW_ (by kernel_rfl) hHeld ?_
       refine one_ (i := 7) (N := some 42) q78_8 rfl rfl (one_of HT_.out (by kernel_rfl)) (by decide) (fun K hK => ?_)
       refine goes_ Try.func94 (by kernel_rfl) rfl #[.agg #[.int .i64 ((rd_T36 l0_2 b5).f0), .int .i64 ((rd_T36 l0_2 b5).f1), .int .i64 ((rd_T36 l0_2 b5).f2), .int .i64 ((rd_T36 l0_2 b5).f3)]] (by rfl) rfl rfl (by (try simp only [List.map_toArray, List.map_cons, List.map_nil]); first | done | rfl | (simp only [List.length_drop, List.length_take]; rfl)) ?_
       with_reducible refine (spec_l6Gray.calls ((rd_T36 l0_2 b5).f0) ((rd_T36 l0_2 b5).f1) ((rd_T36 l0_2 b5).f2) ((rd_T36 l0_2 b5).f3) f4 f5 f6 f7 _ A17.out).mono ?_
       rintro e w27 ⟨rfl, hb⟩
       refine ⟨_, rfl, ?_⟩
       have n0_ := yab (Kd.R_below (upR b0.out) hb)
       have n1_ := yab (yak (g := b3) (o := .cells #[.int .i64 a0_0, .int .i64 a0_1, .slice (some ad105) l0_2.length c0_2] 25 (0, 0)) (upB a8.out) hb)
       have n2_ := yab (yak (g := b6) (o := .cells #[.int .i64 a1_0, .int .i64 a1_1, .int .i64 a1_2, .int .i64 a1_3, .int .i64 a1_4] 27 (0, 0)) (upB a9.out) hb)
       have n3_ := yab (yak (g := c2) (o := .cells #[.int .i64 0, .int .i64 0, .slice none 0 0] 25 (0, 0)) (upB b2.out) hb)
       have n4_ := yab (yak (g := b7) (o := .cells #[.int .i64 a0_0, .int .i64 a0_1, u105002] 25 (0, 0)) (upB b1.out) hb)
       have n5_ := yab (below_step (by repeat (first | (with_reducible first | exact HB.out | apply yag | apply yae | apply yaf | refine yaj ?_ (Aside0.out ‹_›)) | exact HB.out)) hb)
       clear b0 a8 a9 b2 b1 HB
       have b0 := n0_
       have a8 := n1_
       have a9 := n2_
       have b2 := n3_
       have b1 := n4_
       have HB := n5_
       clear n0_ n1_ n2_ n3_ n4_ n5_
       (try clear hb)
       (try clear hb2)
       (try clear hk)
       (try clear hi)
       refine hK.out _ _ ⟨(yaa b1.out 0).trans rfl, (yaa b1.out 1).trans rfl, (yaa b1.out 2).trans rfl, (yaa a8.out 0).trans rfl, (yaa a8.out 1).trans rfl, (yaa a8.out 2).trans rfl, ((HB.out.cell (World.block_lt_of_cell? w _ d0)).trans d0), ((HB.out.cell (World.block_lt_of_cell? w _ c9)).trans c9), ((HB.out.cell (World.block_lt_of_cell? w _ c8)).trans c8), ((HB.out.cell (World.block_lt_of_cell? w _ c5)).trans c5)⟩ (fun hHeld => ?_)
       clear hK K
       refine norm_ (a' := ?_) ?_ ?_
       rotate_left
       ·
        show Act.put _ (some 42) _ = _
        simp only [Act.put, List.setIfInBounds_toArray, List.set_cons_zero, List.set_cons_succ, i64_w, i32_w]
        rfl
       refine one_ (i := 8) (N := some 43) q78_9 rfl rfl (one_of HT_.out (by kernel_rfl)) (by decide) (fun K hK => ?_)
       refine value_ (w1 := ?_) (v := ?_) (by rfl) rfl ?_ ?_
       rotate_left 2
       ·
        go_simp
        constructor
        ·
         rfl
        ·
         rfl
       refine hK.out _ _ ⟨(yaa (yac b1.out _) 0).trans rfl, (yaa (yac b1.out _) 1).trans rfl, (yaa (yac b1.out _) 2).trans rfl, (yaa (yac a8.out _) 0).trans rfl, (yaa (yac a8.out _) 1).trans rfl, (yaa (yac a8.out _) 2).trans rfl, (World.cell?_alloc_lt _ _ _ (World.block_lt_of_cell? _ _ (((HB.out.cell (World.block_lt_of_cell? w _ d0)).trans d0)))).trans (((HB.out.cell (World.block_lt_of_cell? w _ d0)).trans d0)), (World.cell?_alloc_lt _ _ _ (World.block_lt_of_cell? _ _ (((HB.out.cell (World.block_lt_of_cell? w _ c9)).trans c9)))).trans (((HB.out.cell (World.block_lt_of_cell? w _ c9)).trans c9)), (World.cell?_alloc_lt _ _ _ (World.block_lt_of_cell? _ _ (((HB.out.cell (World.block_lt_of_cell? w _ c8)).trans c8)))).trans (((HB.out.cell (World.block_lt_of_cell? w _ c8)).trans c8)), (World.cell?_alloc_lt _ _ _ (World.block_lt_of_cell? _ _ (((HB.out.cell (World.block_lt_of_cell? w _ c5)).trans c5)))).trans (((HB.out.cell (World.block_lt_of_cell? w _ c5)).trans c5))⟩ (fun hHeld => ?_)
       clear hK K
       refine norm_ (a' := ?_) ?_ ?_
       rotate_left
       ·
        show Act.put _ (some 43) _ = _
        simp only [Act.put, List.setIfInBounds_toArray, List.set_cons_zero, List.set_cons_succ, i64_w, i32_w]
        rfl
       refine one_ (i := 9) (N := some 44) q78_10 rfl rfl (one_of HT_.out (by kernel_rfl)) (by decide) (fun K hK => ?_)
       refine Kd.R_append_step k36 (w0 := w) w.heap.size (by rfl) (.tmp 36) (.tmp 43) 23 36 (.agg #[(.int .i64 0), (.int .i64 0), (.int .i64 0), (.int .i64 0)]) 32 rfl Try.underlying23 info36 rfl (by decide) (by omega) u105002 b4 (⟨f4, f5, f6, f7⟩ : S36) [.int .i64 f4, .int .i64 f5, .int .i64 f6, .int .i64 f7] (fun _ => True) (fun _ => False) rfl rfl ?aP (fun _ hk => hk.elim) ?aF ?aO ?aB ?aS ?aL ?_
       (case aP => exact k36_mkM _ _ _ (⟨f4, f5, f6, f7⟩ : S36))
       (case aB => exact (by repeat (first | (with_reducible first | exact HB.out | apply yag | apply yae | apply yaf | refine yaj ?_ (Aside0.out ‹_›)) | exact HB.out)))
       (case aF => exact (fun _ _ => trivial))
       (case aO => exact (upR b0.out))
       (case aS => exact (below_size (by repeat (first | (with_reducible first | exact HB.out | apply yag | apply yae | apply yaf | refine yaj ?_ (Aside0.out ‹_›)) | exact HB.out))))
       (case aL => have := LMc18.out; omega)
       intro C3 w28 ho hb hg hat
       rw [← Ny110.out] at ho
       have n0_ := yab (blk_grown (g := b3) (o := .cells #[.int .i64 a0_0, .int .i64 a0_1, .slice (some ad105) l0_2.length c0_2] 25 (0, 0)) (upB a8.out) hg (Kd.R_ne b0.out a8.out (by decide)))
       have n1_ := yab (blk_grown (g := b6) (o := .cells #[.int .i64 a1_0, .int .i64 a1_1, .int .i64 a1_2, .int .i64 a1_3, .int .i64 a1_4] 27 (0, 0)) (upB a9.out) hg (Kd.R_ne b0.out a9.out (by decide)))
       have n2_ := yab (blk_grown (g := c2) (o := .cells #[.int .i64 0, .int .i64 0, .slice none 0 0] 25 (0, 0)) (upB b2.out) hg (Kd.R_ne b0.out b2.out (by decide)))
       have n3_ := yab (blk_grown (g := b7) (o := .cells #[.int .i64 a0_0, .int .i64 a0_1, u105002] 25 (0, 0)) (upB b1.out) hg (Kd.R_ne b0.out b1.out (by decide)))
       have n4_ := yab (hb)
       have n5_ := yab (ho)
       clear a8 a9 b2 b1 HB b0
       have a8 := n0_
       have a9 := n1_
       have b2 := n2_
       have b1 := n3_
       have HB := n4_
       have h2 := n5_
       clear n0_ n1_ n2_ n3_ n4_ n5_ ho hb hg hat
       obtain ⟨i8, i9, j0⟩ := Kd.R_slice h2.out
       (first | subst j0 | (injection j0 with f1_ f2_ f3_; have f4_ := f1_.symm; have f5_ := f3_.symm; clear f1_ f2_ f3_; subst f4_; subst f5_))
       refine hK.out _ _ ⟨(yaa b1.out 0).trans rfl, (yaa b1.out 1).trans rfl, (yaa b1.out 2).trans rfl, (yaa a8.out 0).trans rfl, (yaa a8.out 1).trans rfl, (yaa a8.out 2).trans rfl, ((HB.out.cell (World.block_lt_of_cell? w _ d0)).trans d0), ((HB.out.cell (World.block_lt_of_cell? w _ c9)).trans c9), ((HB.out.cell (World.block_lt_of_cell? w _ c8)).trans c8), ((HB.out.cell (World.block_lt_of_cell? w _ c5)).trans c5)⟩ (fun hHeld => ?_)
       clear hK K
       refine norm_ (a' := ?_) ?_ ?_
       rotate_left
       ·
        show Act.put _ (some 44) _ = _
        simp only [Act.put, List.setIfInBounds_toArray, List.set_cons_zero, List.set_cons_succ, i64_w, i32_w]
        rfl
       refine pz_ 10 45 q78_11 HT_ (by kernel_rfl) ?_
       refine last_ (i := 11) (N := none) q78_12 rfl rfl (one_of HT_.out (by kernel_rfl)) (by decide) (fun K hK => ?_)
       have C4 : w28.cell? ⟨b7, 2, none⟩ = some (u105002) := (yaa b1.out 2).trans rfl
       have w7 := yad b1.out 2
       have m1 := b8.out
       have m2 := b9.out
       have m3 := c0.out
       have m4 := c3.out
       have m5 := c4.out
       have m6 := d9.out
       refine skip_ (w1 := ?_) (by rfl) rfl ?_ ?_
       rotate_left
       ·
        go_simp
        rfl
       refine hK.out _ _ ?_
       clear hK K
       refine done_ (done_of HT_.out (by kernel_rfl)) ?_
       try go_wp2
       go_roundg k1
       case measure => have := HK1.out; omega
       case rel => exact ⟨(wrap64 (b5 + 1)), (y110), (.slice i8 y110.length i9), (by first | rfl | (simp; done) | (simp [*]; done)), H', ⟨by have := HK1.out; omega⟩, ⟨by (with_reducible repeat (first | apply Kd.R_alloc | apply Kd.R_drewN | apply Kd.R_drew)); exact Kd.R_mono (Kd.R_far (p := ⟨b7, 2, none⟩) (Kd.R_types h2.out b1.out (by decide)) (fun _ hk => hk.2) (.slice i8 y110.length i9)) (fun _ hk => trivial)⟩, ⟨by (with_reducible repeat (first | refine yai ?_ _ | refine yah ?_ | refine yac ?_ _)); refine blk_far ?_ b8.out _; exact upB a8.out⟩, ⟨by (with_reducible repeat (first | refine yai ?_ _ | refine yah ?_ | refine yac ?_ _)); refine blk_far ?_ b9.out _; exact upB a9.out⟩, ⟨by (with_reducible repeat (first | refine yai ?_ _ | refine yah ?_ | refine yac ?_ _)); refine blk_far ?_ c0.out _; exact upB b2.out⟩, ⟨by (with_reducible repeat (first | refine yai ?_ _ | refine yah ?_ | refine yac ?_ _)); refine blk_put (cs := #[.int .i64 a0_0, .int .i64 a0_1, u105002]) ?_ 2 _ rfl; exact upB b1.out⟩, ⟨by repeat (first | (with_reducible first | exact HB.out | apply yag | apply yae | apply yaf | refine yaj ?_ (Aside0.out ‹_›)) | exact HB.out)⟩⟩
      ·
       rw [if_neg c18] at H
       exact absurd H (by simp)
     ·
      rw [if_neg c16] at H
      exact absurd H (by simp)
    ·
     rw [if_neg c15] at H
     have i5 : (a1_0 == 5) = false := beq_eq_false_iff_ne.mpr c15
     have i6 : (a1_0 != 5) = true := bne_iff_ne.mpr c15
     by_cases c31 : a1_0 = 6
     ·
      rw [if_pos c31] at H
      have j1 : (a1_0 == 6) = true := beq_iff_eq.mpr c31
      have j2 : (a1_0 != 6) = false := bne_eq_false_iff_eq.mpr c31
      clear c31
      by_cases c32 : a0_0 = 0
      ·
       rw [if_pos c32] at H
       exact absurd H (by simp)
      ·
       rw [if_neg c32] at H
       have w8 : (a0_0 == 0) = false := beq_eq_false_iff_ne.mpr c32
       have x0 : (a0_0 != 0) = true := bne_iff_ne.mpr c32
       replace H := Option.bind_eq_some_iff.mp H
       obtain ⟨⟨f8, f9, g0, g1⟩, j3, H⟩ := H
       replace H : (if b4.length < 4398046511104 then (spec_l6Each.l0 k1 (wrap64 (b5 + 1)) a0_0 a0_1 l0_2 a1_0 a1_1 a1_2 a1_3 a1_4 a0_0 a0_1 (b4 ++ [(⟨f8, f9, g0, g1⟩ : S36)])) else (none)) = some (r1, r2, r3) := H
       have A33 := yab j3
       clear j3
       by_cases c34 : b4.length < 4398046511104
       ·
        rw [if_pos c34] at H
        have LMc34 := yab c34
        clear c34
        obtain ⟨y117, hy117⟩ : ∃ y_ : List (S36), y_ = (b4 ++ [(⟨f8, f9, g0, g1⟩ : S36)]) := ⟨_, rfl⟩
        replace H : (spec_l6Each.l0 k1 (wrap64 (b5 + 1)) a0_0 a0_1 l0_2 a1_0 a1_1 a1_2 a1_3 a1_4 a0_0 a0_1 y117) = some (r1, r2, r3) := by first | (rw [hy117]; with_reducible exact H) | (have H2_ := (Option.bind_some _ _).symm.trans H; rw [hy117]; with_reducible exact H2_) | (have H2_ := (Option.bind_some _ _).symm.trans H; with_reducible exact H2_) | with_reducible exact H | (rw [hy117]; exact H) | exact H
        have Ny117 := yab hy117
        clear hy117
        have H' := yab H
        clear H
        have x1 := d5.out
        have x2 := d6.out
        have x3 := d7.out
        have x4 := d8.out
        have x5 := b8.out
        have x7 := c3.out
        have m7 : wr.cell? ⟨b3, 0, none⟩ = some (.int .i64 a0_0) := (yaa a8.out 0).trans rfl
        have m8 : wr.cell? ⟨b3, 1, none⟩ = some (.int .i64 a0_1) := (yaa a8.out 1).trans rfl
        have m9 : wr.cell? ⟨b3, 2, none⟩ = some (.slice A0_2 l0_2.length c0_2) := (yaa a8.out 2).trans rfl
        have n0 := yad a8.out 0
        have n1 := yad a8.out 1
        have n2 := yad a8.out 2
        have x8 := e0.out
        have x9 := e1.out
        have z0 := b9.out
        have z1 := c4.out
        have n3 : wr.cell? ⟨b6, 0, none⟩ = some (.int .i64 a1_0) := (yaa a9.out 0).trans rfl
        have n4 : wr.cell? ⟨b6, 1, none⟩ = some (.int .i64 a1_1) := (yaa a9.out 1).trans rfl
        have n5 : wr.cell? ⟨b6, 2, none⟩ = some (.int .i64 a1_2) := (yaa a9.out 2).trans rfl
        have n6 : wr.cell? ⟨b6, 3, none⟩ = some (.int .i64 a1_3) := (yaa a9.out 3).trans rfl
        have n7 : wr.cell? ⟨b6, 4, none⟩ = some (.int .i64 a1_4) := (yaa a9.out 4).trans rfl
        have n8 := yad a9.out 0
        have n9 := yad a9.out 1
        have o0 := yad a9.out 2
        have o1 := yad a9.out 3
        have o2 := yad a9.out 4
        try go_wp2
        have n0_ := yab (Kd.R_drew b0.out)
        have n1_ := yab (yah a8.out)
        have n2_ := yab (yah a9.out)
        have n3_ := yab (yah b2.out)
        have n4_ := yab (yah b1.out)
        have n5_ := yab (yaf HB.out)
        clear b0 a8 a9 b2 b1 HB
        have b0 := n0_
        have a8 := n1_
        have a9 := n2_
        have b2 := n3_
        have b1 := n4_
        have HB := n5_
        clear n0_ n1_ n2_ n3_ n4_ n5_
        refine start_ (n := 16) (S := fun w' => w'.cell? ⟨b7, 0, none⟩ = some (.int .i64 a0_0) ∧ w'.cell? ⟨b7, 1, none⟩ = some (.int .i64 a0_1) ∧ w'.cell? ⟨b7, 2, none⟩ = some (u105002) ∧ w'.cell? ⟨b3, 0, none⟩ = some (.int .i64 a0_0) ∧ w'.cell? ⟨b3, 1, none⟩ = some (.int .i64 a0_1) ∧ w'.cell? ⟨b3, 2, none⟩ = some (.slice A0_2 l0_2.length c0_2)) (ds := [15]) q78_13 (by kernel_rfl) rfl rfl ⟨(yaa b1.out 0).trans rfl, (yaa b1.out 1).trans rfl, (yaa b1.out 2).trans rfl, (yaa a8.out 0).trans rfl, (yaa a8.out 1).trans rfl, (yaa a8.out 2).trans rfl⟩ (fun hHeld => ?_); refine with_tabW spec_l6Each.tab10 spec_l6Each.bits10 (fun HT_ HW_ => ?_)
        generalize wr.drew = w42 at b0 a8 a9 b2 b1 HB hHeld ⊢
        refine pz_ 0 48 q78_14 HT_ (by kernel_rfl) ?_
        refine pz_ 3 51 q78_15 HT_ (by kernel_rfl) ?_
        refine pz_ 4 52 q78_16 HT_ (by kernel_rfl) ?_
        refine pz_ 7 55 q78_17 HT_ (by kernel_rfl) ?_
        refine pz_ 8 56 q78_18 HT_ (by kernel_rfl) ?_
        refine tz_ 1 49 q78_19 HT_ HW_ (by kernel_rfl) hHeld ?_
        refine tz_ 2 50 q78_20 HT_ HW_ (by kernel_rfl) hHeld ?_
        refine tz_ 5 53 q78_21 HT_ HW_ (by kernel_rfl) hHeld ?_
        refine pz_ 6 54 q78_22 HT_ (by kernel_rfl) ?_
        refine tz_ 9 57 q78_23 HT_ HW_ (by kernel_rfl) hHeld ?_
        refine pz_ 10 58 q78_24 HT_ (by kernel_rfl) ?_
        refine one_ (i := 11) (N := some 59) q78_25 rfl rfl (one_of HT_.out (by kernel_rfl)) (by decide) (fun K hK => ?_)
        refine goes_ Try.func95 (by kernel_rfl) rfl #[.agg #[.int .i64 a0_0, .int .i64 a0_1, .slice A0_2 l0_2.length c0_2], .int .i64 (Int.tmod b5 a0_0), .int .i64 (wrap64 (Int.tdiv b5 a0_0))] (by rfl) rfl rfl (by (try simp only [List.map_toArray, List.map_cons, List.map_nil]); first | done | rfl | (simp only [List.length_drop, List.length_take]; rfl)) ?_
        with_reducible refine (spec_l6Mean.calls k1 a0_0 a0_1 _ _ l0_2 (Int.tmod b5 a0_0) (wrap64 (Int.tdiv b5 a0_0)) f8 f9 g0 g1 _ ?side1 ?side2 A33.out).mono ?_
        (case side1 => repeat (first | exact (Kd.C_below HR0_2.out HB.out) | (with_reducible refine Kd.C_alloc ?_ _) | (with_reducible refine Kd.C_drewN ?_ _) | (with_reducible refine Kd.C_drew ?_)))
        (case side2 => exact HC0_2.out)
        rintro e w43 ⟨rfl, hb⟩
        refine ⟨_, rfl, ?_⟩
        have n0_ := yab (Kd.R_below (upR b0.out) hb)
        have n1_ := yab (yak (g := b3) (o := .cells #[.int .i64 a0_0, .int .i64 a0_1, .slice A0_2 l0_2.length c0_2] 25 (0, 0)) (upB a8.out) hb)
        have n2_ := yab (yak (g := b6) (o := .cells #[.int .i64 a1_0, .int .i64 a1_1, .int .i64 a1_2, .int .i64 a1_3, .int .i64 a1_4] 27 (0, 0)) (upB a9.out) hb)
        have n3_ := yab (yak (g := c2) (o := .cells #[.int .i64 0, .int .i64 0, .slice none 0 0] 25 (0, 0)) (upB b2.out) hb)
        have n4_ := yab (yak (g := b7) (o := .cells #[.int .i64 a0_0, .int .i64 a0_1, u105002] 25 (0, 0)) (upB b1.out) hb)
        have n5_ := yab (below_step (by repeat (first | (with_reducible first | exact HB.out | apply yag | apply yae | apply yaf | refine yaj ?_ (Aside0.out ‹_›)) | exact HB.out)) hb)
        clear b0 a8 a9 b2 b1 HB
        have b0 := n0_
        have a8 := n1_
        have a9 := n2_
        have b2 := n3_
        have b1 := n4_
        have HB := n5_
        clear n0_ n1_ n2_ n3_ n4_ n5_
        (try clear hb)
        (try clear hb2)
        (try clear hk)
        (try clear hi)
        refine hK.out _ _ ⟨(yaa b1.out 0).trans rfl, (yaa b1.out 1).trans rfl, (yaa b1.out 2).trans rfl, (yaa a8.out 0).trans rfl, (yaa a8.out 1).trans rfl, (yaa a8.out 2).trans rfl⟩ (fun hHeld => ?_)
        clear hK K
        refine norm_ (a' := ?_) ?_ ?_
        rotate_left
        ·
         show Act.put _ (some 59) _ = _
         simp only [Act.put, List.setIfInBounds_toArray, List.set_cons_zero, List.set_cons_succ, i64_w, i32_w]
         rfl
        refine one_ (i := 12) (N := some 60) q78_26 rfl rfl (one_of HT_.out (by kernel_rfl)) (by decide) (fun K hK => ?_)
        refine value_ (w1 := ?_) (v := ?_) (by rfl) rfl ?_ ?_
        rotate_left 2
        ·
         go_simp
         constructor
         ·
          rfl
         ·
          rfl
        refine hK.out _ _ ⟨(yaa (yac b1.out _) 0).trans rfl, (yaa (yac b1.out _) 1).trans rfl, (yaa (yac b1.out _) 2).trans rfl, (yaa (yac a8.out _) 0).trans rfl, (yaa (yac a8.out _) 1).trans rfl, (yaa (yac a8.out _) 2).trans rfl⟩ (fun hHeld => ?_)
        clear hK K
        refine norm_ (a' := ?_) ?_ ?_
        rotate_left
        ·
         show Act.put _ (some 60) _ = _
         simp only [Act.put, List.setIfInBounds_toArray, List.set_cons_zero, List.set_cons_succ, i64_w, i32_w]
         rfl
        refine one_ (i := 13) (N := some 61) q78_27 rfl rfl (one_of HT_.out (by kernel_rfl)) (by decide) (fun K hK => ?_)
        refine Kd.R_append_step k36 (w0 := w) w.heap.size (by rfl) (.tmp 49) (.tmp 60) 23 36 (.agg #[(.int .i64 0), (.int .i64 0), (.int .i64 0), (.int .i64 0)]) 32 rfl Try.underlying23 info36 rfl (by decide) (by omega) u105002 b4 (⟨f8, f9, g0, g1⟩ : S36) [.int .i64 f8, .int .i64 f9, .int .i64 g0, .int .i64 g1] (fun _ => True) (fun _ => False) rfl rfl ?aP (fun _ hk => hk.elim) ?aF ?aO ?aB ?aS ?aL ?_
        (case aP => exact k36_mkM _ _ _ (⟨f8, f9, g0, g1⟩ : S36))
        (case aB => exact (by repeat (first | (with_reducible first | exact HB.out | apply yag | apply yae | apply yaf | refine yaj ?_ (Aside0.out ‹_›)) | exact HB.out)))
        (case aF => exact (fun _ _ => trivial))
        (case aO => exact (upR b0.out))
        (case aS => exact (below_size (by repeat (first | (with_reducible first | exact HB.out | apply yag | apply yae | apply yaf | refine yaj ?_ (Aside0.out ‹_›)) | exact HB.out))))
        (case aL => have := LMc34.out; omega)
        intro C5 w44 ho hb hg hat
        rw [← Ny117.out] at ho
        have n0_ := yab (blk_grown (g := b3) (o := .cells #[.int .i64 a0_0, .int .i64 a0_1, .slice A0_2 l0_2.length c0_2] 25 (0, 0)) (upB a8.out) hg (Kd.R_ne b0.out a8.out (by decide)))
        have n1_ := yab (blk_grown (g := b6) (o := .cells #[.int .i64 a1_0, .int .i64 a1_1, .int .i64 a1_2, .int .i64 a1_3, .int .i64 a1_4] 27 (0, 0)) (upB a9.out) hg (Kd.R_ne b0.out a9.out (by decide)))
        have n2_ := yab (blk_grown (g := c2) (o := .cells #[.int .i64 0, .int .i64 0, .slice none 0 0] 25 (0, 0)) (upB b2.out) hg (Kd.R_ne b0.out b2.out (by decide)))
        have n3_ := yab (blk_grown (g := b7) (o := .cells #[.int .i64 a0_0, .int .i64 a0_1, u105002] 25 (0, 0)) (upB b1.out) hg (Kd.R_ne b0.out b1.out (by decide)))
        have n4_ := yab (hb)
        have n5_ := yab (ho)
        clear a8 a9 b2 b1 HB b0
        have a8 := n0_
        have a9 := n1_
        have b2 := n2_
        have b1 := n3_
        have HB := n4_
        have h3 := n5_
        clear n0_ n1_ n2_ n3_ n4_ n5_ ho hb hg hat
        obtain ⟨j4, j5, j6⟩ := Kd.R_slice h3.out
        (first | subst j6 | (injection j6 with f1_ f2_ f3_; have f4_ := f1_.symm; have f5_ := f3_.symm; clear f1_ f2_ f3_; subst f4_; subst f5_))
        refine hK.out _ _ ⟨(yaa b1.out 0).trans rfl, (yaa b1.out 1).trans rfl, (yaa b1.out 2).trans rfl, (yaa a8.out 0).trans rfl, (yaa a8.out 1).trans rfl, (yaa a8.out 2).trans rfl⟩ (fun hHeld => ?_)
        clear hK K
        refine norm_ (a' := ?_) ?_ ?_
        rotate_left
        ·
         show Act.put _ (some 61) _ = _
         simp only [Act.put, List.setIfInBounds_toArray, List.set_cons_zero, List.set_cons_succ, i64_w, i32_w]
         rfl
        refine pz_ 14 62 q78_28 HT_ (by kernel_rfl) ?_
        refine last_ (i := 15) (N := none) q78_29 rfl rfl (one_of HT_.out (by kernel_rfl)) (by decide) (fun K hK => ?_)
        have C6 : w44.cell? ⟨b7, 2, none⟩ = some (u105002) := (yaa b1.out 2).trans rfl
        have z2 := yad b1.out 2
        have o3 := b8.out
        have o4 := b9.out
        have o5 := c0.out
        have o6 := c3.out
        have o7 := c4.out
        have o8 := d9.out
        refine skip_ (w1 := ?_) (by rfl) rfl ?_ ?_
        rotate_left
        ·
         go_simp
         rfl
        refine hK.out _ _ ?_
        clear hK K
        refine done_ (done_of HT_.out (by kernel_rfl)) ?_
        try go_wp2
        go_roundg k1
        case measure => have := HK1.out; omega
        case rel => exact ⟨(wrap64 (b5 + 1)), (y117), (.slice j4 y117.length j5), (by first | rfl | (simp; done) | (simp [*]; done)), H', ⟨by have := HK1.out; omega⟩, ⟨by (with_reducible repeat (first | apply Kd.R_alloc | apply Kd.R_drewN | apply Kd.R_drew)); exact Kd.R_mono (Kd.R_far (p := ⟨b7, 2, none⟩) (Kd.R_types h3.out b1.out (by decide)) (fun _ hk => hk.2) (.slice j4 y117.length j5)) (fun _ hk => trivial)⟩, ⟨by (with_reducible repeat (first | refine yai ?_ _ | refine yah ?_ | refine yac ?_ _)); refine blk_far ?_ b8.out _; exact upB a8.out⟩, ⟨by (with_reducible repeat (first | refine yai ?_ _ | refine yah ?_ | refine yac ?_ _)); refine blk_far ?_ b9.out _; exact upB a9.out⟩, ⟨by (with_reducible repeat (first | refine yai ?_ _ | refine yah ?_ | refine yac ?_ _)); refine blk_far ?_ c0.out _; exact upB b2.out⟩, ⟨by (with_reducible repeat (first | refine yai ?_ _ | refine yah ?_ | refine yac ?_ _)); refine blk_put (cs := #[.int .i64 a0_0, .int .i64 a0_1, u105002]) ?_ 2 _ rfl; exact upB b1.out⟩, ⟨by repeat (first | (with_reducible first | exact HB.out | apply yag | apply yae | apply yaf | refine yaj ?_ (Aside0.out ‹_›)) | exact HB.out)⟩⟩
       ·
        rw [if_neg c34] at H
        exact absurd H (by simp)
     ·
      rw [if_neg c31] at H
      have j1 : (a1_0 == 6) = false := beq_eq_false_iff_ne.mpr c31
      have j2 : (a1_0 != 6) = true := bne_iff_ne.mpr c31
      by_cases c47 : 0 ≤ b5
      ·
       rw [if_pos c47] at H
       have z3 : decide (0 ≤ b5) = true := decide_eq_true c47
       clear c47
       replace H := Option.bind_eq_some_iff.mp H
       obtain ⟨⟨g2, g3, g4, g5⟩, j7, H⟩ := H
       replace H : (if b4.length < 4398046511104 then (spec_l6Each.l0 k1 (wrap64 (b5 + 1)) a0_0 a0_1 l0_2 a1_0 a1_1 a1_2 a1_3 a1_4 a0_0 a0_1 (b4 ++ [(⟨g2, g3, g4, g5⟩ : S36)])) else (none)) = some (r1, r2, r3) := H
       have A48 := yab j7
       clear j7
       by_cases c49 : b4.length < 4398046511104
       ·
        rw [if_pos c49] at H
        have LMc49 := yab c49
        clear c49
        obtain ⟨y125, hy125⟩ : ∃ y_ : List (S36), y_ = (b4 ++ [(⟨g2, g3, g4, g5⟩ : S36)]) := ⟨_, rfl⟩
        replace H : (spec_l6Each.l0 k1 (wrap64 (b5 + 1)) a0_0 a0_1 l0_2 a1_0 a1_1 a1_2 a1_3 a1_4 a0_0 a0_1 y125) = some (r1, r2, r3) := by first | (rw [hy125]; with_reducible exact H) | (have H2_ := (Option.bind_some _ _).symm.trans H; rw [hy125]; with_reducible exact H2_) | (have H2_ := (Option.bind_some _ _).symm.trans H; with_reducible exact H2_) | with_reducible exact H | (rw [hy125]; exact H) | exact H
        have Ny125 := yab hy125
        clear hy125
        have H' := yab H
        clear H
        have z4 := d5.out
        have z5 := d6.out
        have z6 := d7.out
        have z7 := d8.out
        have z8 := b8.out
        have z9 := c3.out
        have o9 : wr.cell? ⟨b3, 0, none⟩ = some (.int .i64 a0_0) := (yaa a8.out 0).trans rfl
        have p0 : wr.cell? ⟨b3, 1, none⟩ = some (.int .i64 a0_1) := (yaa a8.out 1).trans rfl
        have p1 : wr.cell? ⟨b3, 2, none⟩ = some (.slice A0_2 l0_2.length c0_2) := (yaa a8.out 2).trans rfl
        have p3 := yad a8.out 0
        have p4 := yad a8.out 1
        have p5 := yad a8.out 2
        have A0 := e0.out
        have A1 := e1.out
        have A2 := b9.out
        have A3 := c4.out
        have p6 : wr.cell? ⟨b6, 0, none⟩ = some (.int .i64 a1_0) := (yaa a9.out 0).trans rfl
        have p7 : wr.cell? ⟨b6, 1, none⟩ = some (.int .i64 a1_1) := (yaa a9.out 1).trans rfl
        have p8 : wr.cell? ⟨b6, 2, none⟩ = some (.int .i64 a1_2) := (yaa a9.out 2).trans rfl
        have p9 : wr.cell? ⟨b6, 3, none⟩ = some (.int .i64 a1_3) := (yaa a9.out 3).trans rfl
        have q0 : wr.cell? ⟨b6, 4, none⟩ = some (.int .i64 a1_4) := (yaa a9.out 4).trans rfl
        have q1 := yad a9.out 0
        have q2 := yad a9.out 1
        have q3 := yad a9.out 2
        have q4 := yad a9.out 3
        have q5 := yad a9.out 4
        try go_wp2
        have n0_ := yab (Kd.R_drew b0.out)
        have n1_ := yab (yah a8.out)
        have n2_ := yab (yah a9.out)
        have n3_ := yab (yah b2.out)
        have n4_ := yab (yah b1.out)
        have n5_ := yab (yaf HB.out)
        clear b0 a8 a9 b2 b1 HB
        have b0 := n0_
        have a8 := n1_
        have a9 := n2_
        have b2 := n3_
        have b1 := n4_
        have HB := n5_
        clear n0_ n1_ n2_ n3_ n4_ n5_
        have p120 : 0 ≤ (b5 : Int) := of_decide_eq_true (by first | (with_reducible assumption) | assumption)
        have q120 : b5 < (l0_2.length : Int) := of_decide_eq_true (by first | (with_reducible assumption) | assumption)
        obtain ⟨ad120, t4, e6, e7, e8, e9⟩ := at_T36 HR0_2.out b5 p120 q120
        have d1 := e9
        have d2 := e8
        have d3 := e7
        have d4 := e6
        cases t4
        replace e6 := (HB.out.cell (World.block_lt_of_cell? w _ e6)).trans e6
        replace e7 := (HB.out.cell (World.block_lt_of_cell? w _ e7)).trans e7
        replace e8 := (HB.out.cell (World.block_lt_of_cell? w _ e8)).trans e8
        replace e9 := (HB.out.cell (World.block_lt_of_cell? w _ e9)).trans e9
        replace p120 := eq_true p120
        replace q120 := eq_true q120
        refine start_ (n := 13) (S := fun w' => w'.cell? ⟨b7, 0, none⟩ = some (.int .i64 a0_0) ∧ w'.cell? ⟨b7, 1, none⟩ = some (.int .i64 a0_1) ∧ w'.cell? ⟨b7, 2, none⟩ = some (u105002) ∧ w'.cell? ⟨b3, 0, none⟩ = some (.int .i64 a0_0) ∧ w'.cell? ⟨b3, 1, none⟩ = some (.int .i64 a0_1) ∧ w'.cell? ⟨b3, 2, none⟩ = some (.slice (some ad120) l0_2.length c0_2) ∧ w'.cell? ⟨b6, 0, none⟩ = some (.int .i64 a1_0) ∧ w'.cell? ⟨b6, 1, none⟩ = some (.int .i64 a1_1) ∧ w'.cell? ⟨b6, 2, none⟩ = some (.int .i64 a1_2) ∧ w'.cell? ⟨b6, 3, none⟩ = some (.int .i64 a1_3) ∧ w'.cell? ⟨b6, 4, none⟩ = some (.int .i64 a1_4) ∧ w'.cell? (ad120.add ((b5).toNat * 4)) = some (.int .i64 ((rd_T36 l0_2 b5).f0)) ∧ w'.cell? ⟨(ad120.add ((b5).toNat * 4)).block, (ad120.add ((b5).toNat * 4)).off + 1, none⟩ = some (.int .i64 ((rd_T36 l0_2 b5).f1)) ∧ w'.cell? ⟨(ad120.add ((b5).toNat * 4)).block, (ad120.add ((b5).toNat * 4)).off + 2, none⟩ = some (.int .i64 ((rd_T36 l0_2 b5).f2)) ∧ w'.cell? ⟨(ad120.add ((b5).toNat * 4)).block, (ad120.add ((b5).toNat * 4)).off + 3, none⟩ = some (.int .i64 ((rd_T36 l0_2 b5).f3))) (ds := [12]) q78_30 (by kernel_rfl) rfl rfl ⟨(yaa b1.out 0).trans rfl, (yaa b1.out 1).trans rfl, (yaa b1.out 2).trans rfl, (yaa a8.out 0).trans rfl, (yaa a8.out 1).trans rfl, (yaa a8.out 2).trans rfl, (yaa a9.out 0).trans rfl, (yaa a9.out 1).trans rfl, (yaa a9.out 2).trans rfl, (yaa a9.out 3).trans rfl, (yaa a9.out 4).trans rfl, ((HB.out.cell (World.block_lt_of_cell? w _ d4)).trans d4), ((HB.out.cell (World.block_lt_of_cell? w _ d3)).trans d3), ((HB.out.cell (World.block_lt_of_cell? w _ d2)).trans d2), ((HB.out.cell (World.block_lt_of_cell? w _ d1)).trans d1)⟩ (fun hHeld => ?_); refine with_tabW spec_l6Each.tab6 spec_l6Each.bits6 (fun HT_ HW_ => ?_)
        generalize wr.drew = w57 at b0 a8 a9 b2 b1 HB e6 e7 e8 e9 hHeld ⊢
        refine pz_ 0 21 q78_31 HT_ (by kernel_rfl) ?_
        refine pz_ 2 23 q78_32 HT_ (by kernel_rfl) ?_
        refine pz_ 4 25 q78_33 HT_ (by kernel_rfl) ?_
        refine tz_ 1 22 q78_34 HT_ HW_ (by kernel_rfl) hHeld ?_
        refine tz_ 3 24 q78_35 HT_ HW_ (by kernel_rfl) hHeld ?_
        refine pz_ 5 26 q78_36 HT_ (by kernel_rfl) ?_
        refine tz_ 6 27 q78_37 HT_ HW_ (by kernel_rfl) hHeld ?_
        refine tz_ 7 28 q78_38 HT_ HW_ (by kernel_rfl) hHeld ?_
        refine one_ (i := 8) (N := some 29) q78_39 rfl rfl (one_of HT_.out (by kernel_rfl)) (by decide) (fun K hK => ?_)
        refine goes_ Try.func96 (by kernel_rfl) rfl #[.agg #[.int .i64 ((rd_T36 l0_2 b5).f0), .int .i64 ((rd_T36 l0_2 b5).f1), .int .i64 ((rd_T36 l0_2 b5).f2), .int .i64 ((rd_T36 l0_2 b5).f3)], .agg #[.int .i64 a1_0, .int .i64 a1_1, .int .i64 a1_2, .int .i64 a1_3, .int .i64 a1_4]] (by rfl) rfl rfl (by (try simp only [List.map_toArray, List.map_cons, List.map_nil]); first | done | rfl | (simp only [List.length_drop, List.length_take]; rfl)) ?_
        with_reducible refine (spec_l6Flat.calls ((rd_T36 l0_2 b5).f0) ((rd_T36 l0_2 b5).f1) ((rd_T36 l0_2 b5).f2) ((rd_T36 l0_2 b5).f3) a1_0 a1_1 a1_2 a1_3 a1_4 g2 g3 g4 g5 _ A48.out).mono ?_
        rintro e w58 ⟨rfl, hb⟩
        refine ⟨_, rfl, ?_⟩
        have n0_ := yab (Kd.R_below (upR b0.out) hb)
        have n1_ := yab (yak (g := b3) (o := .cells #[.int .i64 a0_0, .int .i64 a0_1, .slice (some ad120) l0_2.length c0_2] 25 (0, 0)) (upB a8.out) hb)
        have n2_ := yab (yak (g := b6) (o := .cells #[.int .i64 a1_0, .int .i64 a1_1, .int .i64 a1_2, .int .i64 a1_3, .int .i64 a1_4] 27 (0, 0)) (upB a9.out) hb)
        have n3_ := yab (yak (g := c2) (o := .cells #[.int .i64 0, .int .i64 0, .slice none 0 0] 25 (0, 0)) (upB b2.out) hb)
        have n4_ := yab (yak (g := b7) (o := .cells #[.int .i64 a0_0, .int .i64 a0_1, u105002] 25 (0, 0)) (upB b1.out) hb)
        have n5_ := yab (below_step (by repeat (first | (with_reducible first | exact HB.out | apply yag | apply yae | apply yaf | refine yaj ?_ (Aside0.out ‹_›)) | exact HB.out)) hb)
        clear b0 a8 a9 b2 b1 HB
        have b0 := n0_
        have a8 := n1_
        have a9 := n2_
        have b2 := n3_
        have b1 := n4_
        have HB := n5_
        clear n0_ n1_ n2_ n3_ n4_ n5_
        (try clear hb)
        (try clear hb2)
        (try clear hk)
        (try clear hi)
        refine hK.out _ _ ⟨(yaa b1.out 0).trans rfl, (yaa b1.out 1).trans rfl, (yaa b1.out 2).trans rfl, (yaa a8.out 0).trans rfl, (yaa a8.out 1).trans rfl, (yaa a8.out 2).trans rfl, (yaa a9.out 0).trans rfl, (yaa a9.out 1).trans rfl, (yaa a9.out 2).trans rfl, (yaa a9.out 3).trans rfl, (yaa a9.out 4).trans rfl, ((HB.out.cell (World.block_lt_of_cell? w _ d4)).trans d4), ((HB.out.cell (World.block_lt_of_cell? w _ d3)).trans d3), ((HB.out.cell (World.block_lt_of_cell? w _ d2)).trans d2), ((HB.out.cell (World.block_lt_of_cell? w _ d1)).trans d1)⟩ (fun hHeld => ?_)
        clear hK K
        refine norm_ (a' := ?_) ?_ ?_
        rotate_left
        ·
         show Act.put _ (some 29) _ = _
         simp only [Act.put, List.setIfInBounds_toArray, List.set_cons_zero, List.set_cons_succ, i64_w, i32_w]
         rfl
        refine one_ (i := 9) (N := some 30) q78_40 rfl rfl (one_of HT_.out (by kernel_rfl)) (by decide) (fun K hK => ?_)
        refine value_ (w1 := ?_) (v := ?_) (by rfl) rfl ?_ ?_
        rotate_left 2
        ·
         go_simp
         constructor
         ·
          rfl
         ·
          rfl
        refine hK.out _ _ ⟨(yaa (yac b1.out _) 0).trans rfl, (yaa (yac b1.out _) 1).trans rfl, (yaa (yac b1.out _) 2).trans rfl, (yaa (yac a8.out _) 0).trans rfl, (yaa (yac a8.out _) 1).trans rfl, (yaa (yac a8.out _) 2).trans rfl, (yaa (yac a9.out _) 0).trans rfl, (yaa (yac a9.out _) 1).trans rfl, (yaa (yac a9.out _) 2).trans rfl, (yaa (yac a9.out _) 3).trans rfl, (yaa (yac a9.out _) 4).trans rfl, (World.cell?_alloc_lt _ _ _ (World.block_lt_of_cell? _ _ (((HB.out.cell (World.block_lt_of_cell? w _ d4)).trans d4)))).trans (((HB.out.cell (World.block_lt_of_cell? w _ d4)).trans d4)), (World.cell?_alloc_lt _ _ _ (World.block_lt_of_cell? _ _ (((HB.out.cell (World.block_lt_of_cell? w _ d3)).trans d3)))).trans (((HB.out.cell (World.block_lt_of_cell? w _ d3)).trans d3)), (World.cell?_alloc_lt _ _ _ (World.block_lt_of_cell? _ _ (((HB.out.cell (World.block_lt_of_cell? w _ d2)).trans d2)))).trans (((HB.out.cell (World.block_lt_of_cell? w _ d2)).trans d2)), (World.cell?_alloc_lt _ _ _ (World.block_lt_of_cell? _ _ (((HB.out.cell (World.block_lt_of_cell? w _ d1)).trans d1)))).trans (((HB.out.cell (World.block_lt_of_cell? w _ d1)).trans d1))⟩ (fun hHeld => ?_)
        clear hK K
        refine norm_ (a' := ?_) ?_ ?_
        rotate_left
        ·
         show Act.put _ (some 30) _ = _
         simp only [Act.put, List.setIfInBounds_toArray, List.set_cons_zero, List.set_cons_succ, i64_w, i32_w]
         rfl
        refine one_ (i := 10) (N := some 31) q78_41 rfl rfl (one_of HT_.out (by kernel_rfl)) (by decide) (fun K hK => ?_)
        refine Kd.R_append_step k36 (w0 := w) w.heap.size (by rfl) (.tmp 22) (.tmp 30) 23 36 (.agg #[(.int .i64 0), (.int .i64 0), (.int .i64 0), (.int .i64 0)]) 32 rfl Try.underlying23 info36 rfl (by decide) (by omega) u105002 b4 (⟨g2, g3, g4, g5⟩ : S36) [.int .i64 g2, .int .i64 g3, .int .i64 g4, .int .i64 g5] (fun _ => True) (fun _ => False) rfl rfl ?aP (fun _ hk => hk.elim) ?aF ?aO ?aB ?aS ?aL ?_
        (case aP => exact k36_mkM _ _ _ (⟨g2, g3, g4, g5⟩ : S36))
        (case aB => exact (by repeat (first | (with_reducible first | exact HB.out | apply yag | apply yae | apply yaf | refine yaj ?_ (Aside0.out ‹_›)) | exact HB.out)))
        (case aF => exact (fun _ _ => trivial))
        (case aO => exact (upR b0.out))
        (case aS => exact (below_size (by repeat (first | (with_reducible first | exact HB.out | apply yag | apply yae | apply yaf | refine yaj ?_ (Aside0.out ‹_›)) | exact HB.out))))
        (case aL => have := LMc49.out; omega)
        intro C7 w59 ho hb hg hat
        rw [← Ny125.out] at ho
        have n0_ := yab (blk_grown (g := b3) (o := .cells #[.int .i64 a0_0, .int .i64 a0_1, .slice (some ad120) l0_2.length c0_2] 25 (0, 0)) (upB a8.out) hg (Kd.R_ne b0.out a8.out (by decide)))
        have n1_ := yab (blk_grown (g := b6) (o := .cells #[.int .i64 a1_0, .int .i64 a1_1, .int .i64 a1_2, .int .i64 a1_3, .int .i64 a1_4] 27 (0, 0)) (upB a9.out) hg (Kd.R_ne b0.out a9.out (by decide)))
        have n2_ := yab (blk_grown (g := c2) (o := .cells #[.int .i64 0, .int .i64 0, .slice none 0 0] 25 (0, 0)) (upB b2.out) hg (Kd.R_ne b0.out b2.out (by decide)))
        have n3_ := yab (blk_grown (g := b7) (o := .cells #[.int .i64 a0_0, .int .i64 a0_1, u105002] 25 (0, 0)) (upB b1.out) hg (Kd.R_ne b0.out b1.out (by decide)))
        have n4_ := yab (hb)
        have n5_ := yab (ho)
        clear a8 a9 b2 b1 HB b0
        have a8 := n0_
        have a9 := n1_
        have b2 := n2_
        have b1 := n3_
        have HB := n4_
        have h4 := n5_
        clear n0_ n1_ n2_ n3_ n4_ n5_ ho hb hg hat
        obtain ⟨j8, j9, k0⟩ := Kd.R_slice h4.out
        (first | subst k0 | (injection k0 with f1_ f2_ f3_; have f4_ := f1_.symm; have f5_ := f3_.symm; clear f1_ f2_ f3_; subst f4_; subst f5_))
        refine hK.out _ _ ⟨(yaa b1.out 0).trans rfl, (yaa b1.out 1).trans rfl, (yaa b1.out 2).trans rfl, (yaa a8.out 0).trans rfl, (yaa a8.out 1).trans rfl, (yaa a8.out 2).trans rfl, (yaa a9.out 0).trans rfl, (yaa a9.out 1).trans rfl, (yaa a9.out 2).trans rfl, (yaa a9.out 3).trans rfl, (yaa a9.out 4).trans rfl, ((HB.out.cell (World.block_lt_of_cell? w _ d4)).trans d4), ((HB.out.cell (World.block_lt_of_cell? w _ d3)).trans d3), ((HB.out.cell (World.block_lt_of_cell? w _ d2)).trans d2), ((HB.out.cell (World.block_lt_of_cell? w _ d1)).trans d1)⟩ (fun hHeld => ?_)
        clear hK K
        refine norm_ (a' := ?_) ?_ ?_
        rotate_left
        ·
         show Act.put _ (some 31) _ = _
         simp only [Act.put, List.setIfInBounds_toArray, List.set_cons_zero, List.set_cons_succ, i64_w, i32_w]
         rfl
        refine pz_ 11 32 q78_42 HT_ (by kernel_rfl) ?_
        refine last_ (i := 12) (N := none) q78_43 rfl rfl (one_of HT_.out (by kernel_rfl)) (by decide) (fun K hK => ?_)
        have C8 : w59.cell? ⟨b7, 2, none⟩ = some (u105002) := (yaa b1.out 2).trans rfl
        have A4 := yad b1.out 2
        have q6 := b8.out
        have q7 := b9.out
        have q8 := c0.out
        have q9 := c3.out
        have r0 := c4.out
        have r4 := d9.out
        refine skip_ (w1 := ?_) (by rfl) rfl ?_ ?_
        rotate_left
        ·
         go_simp
         rfl
        refine hK.out _ _ ?_
        clear hK K
        refine done_ (done_of HT_.out (by kernel_rfl)) ?_
        try go_wp2
        go_roundg k1
        case measure => have := HK1.out; omega
        case rel => exact ⟨(wrap64 (b5 + 1)), (y125), (.slice j8 y125.length j9), (by first | rfl | (simp; done) | (simp [*]; done)), H', ⟨by have := HK1.out; omega⟩, ⟨by (with_reducible repeat (first | apply Kd.R_alloc | apply Kd.R_drewN | apply Kd.R_drew)); exact Kd.R_mono (Kd.R_far (p := ⟨b7, 2, none⟩) (Kd.R_types h4.out b1.out (by decide)) (fun _ hk => hk.2) (.slice j8 y125.length j9)) (fun _ hk => trivial)⟩, ⟨by (with_reducible repeat (first | refine yai ?_ _ | refine yah ?_ | refine yac ?_ _)); refine blk_far ?_ b8.out _; exact upB a8.out⟩, ⟨by (with_reducible repeat (first | refine yai ?_ _ | refine yah ?_ | refine yac ?_ _)); refine blk_far ?_ b9.out _; exact upB a9.out⟩, ⟨by (with_reducible repeat (first | refine yai ?_ _ | refine yah ?_ | refine yac ?_ _)); refine blk_far ?_ c0.out _; exact upB b2.out⟩, ⟨by (with_reducible repeat (first | refine yai ?_ _ | refine yah ?_ | refine yac ?_ _)); refine blk_put (cs := #[.int .i64 a0_0, .int .i64 a0_1, u105002]) ?_ 2 _ rfl; exact upB b1.out⟩, ⟨by repeat (first | (with_reducible first | exact HB.out | apply yag | apply yae | apply yaf | refine yaj ?_ (Aside0.out ‹_›)) | exact HB.out)⟩⟩
       ·
        rw [if_neg c49] at H
        exact absurd H (by simp)
      ·
       rw [if_neg c47] at H
       exact absurd H (by simp)
   ·
    rw [if_neg c14] at H
    have i4 : decide (b5 < (l0_2.length : Int)) = false := decide_eq_false c14
    clear c14
    simp only [Option.some.injEq, Prod.mk.injEq] at H
    obtain ⟨rfl, rfl, rfl⟩ := H
    have A5 := d5.out
    have A6 := d6.out
    have A7 := d7.out
    have A8 := d8.out
    have A9 := b8.out
    have B0 := c3.out
    have r5 : wr.cell? ⟨b3, 0, none⟩ = some (.int .i64 a0_0) := (yaa a8.out 0).trans rfl
    have r6 : wr.cell? ⟨b3, 1, none⟩ = some (.int .i64 a0_1) := (yaa a8.out 1).trans rfl
    have r7 : wr.cell? ⟨b3, 2, none⟩ = some (.slice A0_2 l0_2.length c0_2) := (yaa a8.out 2).trans rfl
    have r8 := yad a8.out 0
    have r9 := yad a8.out 1
    have s0 := yad a8.out 2
    have B1 := c4.out
    have B2 := b9.out
    have B3 := d9.out
    have B4 := c0.out
    have s1 : wr.cell? ⟨b7, 0, none⟩ = some (.int .i64 a0_0) := (yaa b1.out 0).trans rfl
    have s2 : wr.cell? ⟨b7, 1, none⟩ = some (.int .i64 a0_1) := (yaa b1.out 1).trans rfl
    have s3 : wr.cell? ⟨b7, 2, none⟩ = some (u105002) := (yaa b1.out 2).trans rfl
    have s4 := yad b1.out 0
    have s5 := yad b1.out 1
    have s6 := yad b1.out 2
    have B5 := e1.out
    have B7 := e0.out
    have s7 : wr.cell? ⟨c2, 0, none⟩ = some (.int .i64 0) := (yaa b2.out 0).trans rfl
    have s8 : wr.cell? ⟨c2, 1, none⟩ = some (.int .i64 0) := (yaa b2.out 1).trans rfl
    have s9 : wr.cell? ⟨c2, 2, none⟩ = some (.slice none 0 0) := (yaa b2.out 2).trans rfl
    have t0 := yad b2.out 0
    have t1 := yad b2.out 1
    have t2 := yad b2.out 2
    obtain ⟨k2, k3, t5⟩ := Kd.R_slice b0.out
    subst t5
    go_wp2
    refine bodyPost_ret (results_cell_row rfl _ _ c2 25 #[.int .i64 a0_0, .int .i64 a0_1, .slice k2 b4.length k3] (0, 0) _ rfl (by (with_reducible repeat (first | refine yai ?_ _ | refine yah ?_ | refine yac ?_ _)); refine blk_put (cs := #[.int .i64 a0_0, .int .i64 a0_1, .slice none 0 0]) ?_ 2 _ rfl; (with_reducible repeat (first | refine yai ?_ _ | refine yah ?_ | refine yac ?_ _)); refine blk_put (cs := #[.int .i64 a0_0, .int .i64 0, .slice none 0 0]) ?_ 1 _ rfl; (with_reducible repeat (first | refine yai ?_ _ | refine yah ?_ | refine yac ?_ _)); refine blk_put (cs := #[.int .i64 0, .int .i64 0, .slice none 0 0]) ?_ 0 _ rfl; exact upB b2.out) Try.underlying25 rfl (by kernel_rfl)) rfl ?_
    exact ⟨_, by first | rfl | (simp [errW_none, errW_some] <;> rfl) | (simp [*, errW_none, errW_some] <;> rfl), by (with_reducible repeat (first | apply Kd.R_alloc | apply Kd.R_drewN | apply Kd.R_drew)); exact Kd.R_mono (Kd.R_far (p := ⟨c2, 2, none⟩) (Kd.R_far (p := ⟨c2, 1, none⟩) (Kd.R_far (p := ⟨c2, 0, none⟩) (Kd.R_types b0.out b2.out (by decide)) (fun _ hk => hk.2) (.int .i64 a0_0)) (fun _ hk => hk.2) (.int .i64 a0_1)) (fun _ hk => hk.2) (.slice k2 b4.length k3)) (fun _ hk => trivial), by repeat (first | (with_reducible first | exact HB.out | apply yag | apply yae | apply yaf | refine yaj ?_ (Aside0.out ‹_›)) | exact HB.out)⟩

end Go.Proofs.Ytoifpgkfpdeglaa.X
