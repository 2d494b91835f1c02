/- Lemmas and contracts for the law FnExactOpsDo, part 4: of the program's functions, and over data alone. No condition. -/
import Derived.Test.YtoifpgkfpdeglaaMFnExactOpsDo2
import Derived.Test.YtoifpgkfpdeglaaMFnExactOpsDo3
import Derived.Test.YtoifpgkfpdeglaaMFnExactOpsDo1
import Derived.ChangeArms
import Derived.WideShapes
import Derived.DataElems
import Derived.DataReads
import Derived.KernelRfl
namespace Go.Proofs.Ytoifpgkfpdeglaa.X
open Go.RowKit Go.Proofs.YtoifpgkfpdeglaaW.PrintWords Go.Proofs.YtoifpgkfpdeglaaW.PrintLast Go.Proofs.YtoifpgkfpdeglaaW.PrintMore
attribute [local go_sem] max2_int min2_int max_two min_two max_three min_three max_four min_four
set_option linter.unusedVariables false
set_option linter.unusedSimpArgs false

open Go.Proofs.YtoifpgkfpdeglaaW.PrintWords.Aside0 renaming mk → yaa
open Go.Proofs.YtoifpgkfpdeglaaW.PrintWords renaming pw_below_drewN → yab, below_alloc → yac, below_drew1 → yad, below_set → yae, blk_below → yaf, below_size → yag, below_step → yah

/-! ### spec_l6Do: function 39 -/
def spec_l6Do.j0 : Nat → Bool → Int → Int → List (S36) → Int → Int → Int → Int → Int → Option (Int × Int × (List (S36)) × Bool)
 | 0, _, _, _, _, _, _, _, _, _ => none
 | k + 1, x27, x102000, x102001, x102002, x103000, x103001, x103002, x103003, x103004 => if x27 = true then (some (0, 0, ([] : List (S36)), false)) else ((spec_l6Crop.f k x102000 x102001 x102002 x103000 x103001 x103002 x103003 x103004).bind fun bt104 => (some (bt104.1, bt104.2.1, bt104.2.2, true)))
def spec_l6Do.f (k : Nat) (a0_0 : Int) (a0_1 : Int) (l0_2 : List (S36)) (a1_0 : Int) (a1_1 : Int) (a1_2 : Int) (a1_3 : Int) (a1_4 : Int) : Option (Int × Int × (List (S36)) × Bool) := if a1_0 = 1 then (if (wrap64 (a1_1 + a1_3)) > a0_0 then (spec_l6Do.j0 k true a0_0 a0_1 l0_2 a1_0 a1_1 a1_2 a1_3 a1_4) else (spec_l6Do.j0 k (decide ((wrap64 (a1_2 + a1_4)) > a0_1)) a0_0 a0_1 l0_2 a1_0 a1_1 a1_2 a1_3 a1_4)) else (if a1_0 = 2 then ((spec_l6FlipX.f k a0_0 a0_1 l0_2).bind fun bt109 => (some (bt109.1, bt109.2.1, bt109.2.2, true))) else (if a1_0 = 3 then ((spec_l5Flip.f k a0_0 a0_1 l0_2).bind fun bt114 => (some (bt114.1, bt114.2.1, bt114.2.2, true))) else (if a1_0 = 4 then ((spec_l6Turn.f k a0_0 a0_1 l0_2).bind fun bt119 => (some (bt119.1, bt119.2.1, bt119.2.2, true))) else (if a1_0 = 7 then ((spec_l6Size.f k a0_0 a0_1 l0_2 a1_0 a1_1 a1_2 a1_3 a1_4).bind fun bt124 => (some (bt124.1, bt124.2.1, bt124.2.2, true))) else ((spec_l6Each.f k a0_0 a0_1 l0_2 a1_0 a1_1 a1_2 a1_3 a1_4).bind fun bt129 => (some (bt129.1, bt129.2.1, bt129.2.2, true)))))))
set_option maxHeartbeats 8000000 in
set_option maxRecDepth 100000 in
theorem spec_l6Do.calls (k : Nat) (a0_0 : Int) (a0_1 : Int) (A0_2 : Option Addr) (c0_2 : Nat) (l0_2 : List (S36)) (a1_0 : Int) (a1_1 : Int) (a1_2 : Int) (a1_3 : Int) (a1_4 : Int) (r1 : Int) (r2 : Int) (r3 : List (S36)) (r4 : Bool) (w : World) (hr0_2 : Kd.C k36 w A0_2 l0_2.length l0_2) (hc0_2 : l0_2.length ≤ c0_2) (h : spec_l6Do.f k a0_0 a0_1 l0_2 a1_0 a1_1 a1_2 a1_3 a1_4 = some (r1, r2, r3, r4)) :
  Calls Try.prog 39 #[.agg #[.int .i64 a0_0, .int .i64 a0_1, .slice A0_2 l0_2.length c0_2], .agg #[.int .i64 a1_0, .int .i64 a1_1, .int .i64 a1_2, .int .i64 a1_3, .int .i64 a1_4]] w fun e w' => ∃ v2_ : Value, e = .returned (.tuple #[.agg #[.int .i64 r1, .int .i64 r2, v2_], .bool r4]) ∧ Kd.R k36 36 w' w.heap.size (fun _ => True) v2_ r3 ∧ Below w.heap.size w w' := by
 have hu25 := Try.underlying25; have hu27 := Try.underlying27; have HR0_2 := yaa hr0_2; have HC0_2 := yaa hc0_2; clear hr0_2 hc0_2; have HB := yaa (Below.refl w.heap.size w); have H : (if a1_0 = 1 then (if (wrap64 (a1_1 + a1_3)) > a0_0 then (spec_l6Do.j0 k true a0_0 a0_1 l0_2 a1_0 a1_1 a1_2 a1_3 a1_4) else (spec_l6Do.j0 k (decide ((wrap64 (a1_2 + a1_4)) > a0_1)) a0_0 a0_1 l0_2 a1_0 a1_1 a1_2 a1_3 a1_4)) else (if a1_0 = 2 then ((spec_l6FlipX.f k a0_0 a0_1 l0_2).bind fun d7 => (some (d7.1, d7.2.1, d7.2.2, true))) else (if a1_0 = 3 then ((spec_l5Flip.f k a0_0 a0_1 l0_2).bind fun d8 => (some (d8.1, d8.2.1, d8.2.2, true))) else (if a1_0 = 4 then ((spec_l6Turn.f k a0_0 a0_1 l0_2).bind fun d9 => (some (d9.1, d9.2.1, d9.2.2, true))) else (if a1_0 = 7 then ((spec_l6Size.f k a0_0 a0_1 l0_2 a1_0 a1_1 a1_2 a1_3 a1_4).bind fun e0 => (some (e0.1, e0.2.1, e0.2.2, true))) else ((spec_l6Each.f k a0_0 a0_1 l0_2 a1_0 a1_1 a1_2 a1_3 a1_4).bind fun e1 => (some (e1.1, e1.2.1, e1.2.2, true)))))))) = some (r1, r2, r3, r4) := h; clear h
 by_cases c3 : a1_0 = 1
 ·
  rw [if_pos c3] at H
  have l0 : (a1_0 == 1) = true := beq_iff_eq.mpr c3; have l1 : (a1_0 != 1) = false := bne_eq_false_iff_eq.mpr c3; clear c3; have HC4 := yaa H; clear H
  go_enter Try.func39, Try.ntmps39
  go_upto_region 3 with (first | ((with_reducible refine gate_dst (N := 2) rfl ?_); refine bx_ 2 #[.int .i64 a0_0, .int .i64 a0_1, .slice A0_2 l0_2.length c0_2] 25 ?_; intro b8 hg w5 hbox hb; have a8 := yaa (hbox); have c0 := yaa ((by rw [hg]; exact (yag (upH HB.out)) : w.heap.size ≤ b8)); replace HB := yaa (yah (upH HB.out) hb); have d1 := c0; clear hb hbox hg) | ((with_reducible refine gate_dst (N := 3) rfl ?_); refine bx_ 3 #[.int .i64 a1_0, .int .i64 a1_1, .int .i64 a1_2, .int .i64 a1_3, .int .i64 a1_4] 27 ?_; intro b9 hg w6 hbox hb; have a9 := yaa (hbox); have c4 := yaa ((by rw [hg]; exact (yag (by repeat (with_reducible first | exact HB.out | apply yac | apply yab | apply yad | refine yae ?_ (Aside0.out ‹_›)))) : w.heap.size ≤ b9)); replace HB := yaa (yah (by repeat (with_reducible first | exact HB.out | apply yac | apply yab | apply yad | refine yae ?_ (Aside0.out ‹_›))) hb); have d2 := c4; have b2 := yaa ((by rw [hg]; exact Nat.ne_of_lt (blk_lt (upB a8.out)) : b8 ≠ b9)); replace a8 := yaa (yaf (upB a8.out) hb); have b6 := yaa b2.out.symm; clear hb hbox hg) | ((with_reducible refine gate_dst (N := 4) rfl ?_); refine bx_ 4 #[.int .i64 0, .int .i64 0, .slice none 0 0] 25 ?_; intro b1 hg w7 hbox hb; have b4 := yaa (hbox); have c5 := yaa ((by rw [hg]; exact (yag (by repeat (with_reducible first | exact HB.out | apply yac | apply yab | apply yad | refine yae ?_ (Aside0.out ‹_›)))) : w.heap.size ≤ b1)); replace HB := yaa (yah (by repeat (with_reducible first | exact HB.out | apply yac | apply yab | apply yad | refine yae ?_ (Aside0.out ‹_›))) hb); have d3 := c5; have b3 := yaa ((by rw [hg]; exact Nat.ne_of_lt (blk_lt (upB a8.out)) : b8 ≠ b1)); replace a8 := yaa (yaf (upB a8.out) hb); have b7 := yaa b3.out.symm; have b0 := yaa ((by rw [hg]; exact Nat.ne_of_lt (blk_lt (upB a9.out)) : b9 ≠ b1)); replace a9 := yaa (yaf (upB a9.out) hb); have b5 := yaa b0.out.symm; clear hb hbox hg; have J2 := b6.out; have J3 := b2.out; have J4 := b0.out; have J5 := b5.out; obtain ⟨e8, e9, f0, f1, f2⟩ := cc5_ a9.out; obtain ⟨f3, f4, f5, f6⟩ := cf4_ a9.out; have f7 := blk_frozen a9.out 4))
  (try simp only [Act.put, List.setIfInBounds_toArray, List.set_cons_zero, List.set_cons_succ])
  go_cut [27] (fun v27 wc => ∃ (kq : Nat) (d6 : Bool), v27 = .bool d6 ∧ Aside0 (spec_l6Do.j0 kq d6 a0_0 a0_1 l0_2 a1_0 a1_1 a1_2 a1_3 a1_4 = some (r1, r2, r3, r4)) ∧ Aside0 (kq ≤ k) ∧ Aside0 (wc.heap[b8]? = some (.cells #[.int .i64 a0_0, .int .i64 a0_1, (.slice A0_2 l0_2.length c0_2)] 25 (0, 0))) ∧ Aside0 (wc.heap[b9]? = some (.cells #[.int .i64 a1_0, .int .i64 a1_1, .int .i64 a1_2, .int .i64 a1_3, .int .i64 a1_4] 27 (0, 0))) ∧ Aside0 (wc.heap[b1]? = some (.cells #[.int .i64 0, .int .i64 0, (.slice none 0 0)] 25 (0, 0))) ∧ Aside0 (Below w.heap.size w wc))
  case first =>
   have H := HC4.out; clear HC4
   by_cases c11 : (wrap64 (a1_1 + a1_3)) > a0_0
   ·
    rw [if_pos c11] at H
    have c7 : decide (a0_0 < (wrap64 (a1_1 + a1_3))) = true := decide_eq_true c11; clear c11
    (first | rw [c7] | (simp only [i64_w, i32_w]; rw [c7]) | skip)
    have H' := yaa H; clear H; have E0 := b6.out; have E1 := b2.out; have E2 := b0.out; have E3 := b5.out; obtain ⟨f8, f9, g0, g1, g2⟩ := cc5_ a9.out; obtain ⟨g3, g4, g5, g6, g7⟩ := cf5_ a9.out; have E4 := b3.out; have E5 := b7.out; obtain ⟨g8, g9, h0⟩ := cc3_ a8.out; obtain ⟨h1, h2, h3⟩ := cf3_ a8.out
    go_wp2
    go_meet
    case rel => exact ⟨_, (true), (by first | rfl | (simp; done) | (simp [*]; done)), H', ⟨by first | omega | exact Nat.le_refl _⟩, ⟨by exact upB a8.out⟩, ⟨by exact upB a9.out⟩, ⟨by exact upB b4.out⟩, ⟨by repeat (with_reducible first | exact HB.out | apply yac | apply yab | apply yad | refine yae ?_ (Aside0.out ‹_›))⟩⟩
   ·
    rw [if_neg c11] at H
    have c7 : decide (a0_0 < (wrap64 (a1_1 + a1_3))) = false := decide_eq_false c11; clear c11
    (first | rw [c7] | (simp only [i64_w, i32_w]; rw [c7]) | skip)
    have H' := yaa H; clear H; have E6 := b6.out; have E7 := b2.out; have E8 := b0.out; have E9 := b5.out; obtain ⟨h4, h5, h6, h7, h8⟩ := cc5_ a9.out; obtain ⟨h9, i0, i1, i2, i3⟩ := cf5_ a9.out; have F0 := b3.out; have F1 := b7.out; obtain ⟨i4, i5, i6⟩ := cc3_ a8.out; obtain ⟨i7, i8, i9⟩ := cf3_ a8.out
    go_wp2
    go_meet
    case rel => exact ⟨_, (decide ((wrap64 (a1_2 + a1_4)) > a0_1)), (by first | rfl | (simp; done) | (simp [*]; done)), H', ⟨by first | omega | exact Nat.le_refl _⟩, ⟨by exact upB a8.out⟩, ⟨by exact upB a9.out⟩, ⟨by exact upB b4.out⟩, ⟨by repeat (with_reducible first | exact HB.out | apply yac | apply yab | apply yad | refine yae ?_ (Aside0.out ‹_›))⟩⟩
  case rest =>
   clear HC4; (try clear c1); (try clear c2); (try clear p2); (try clear c3); (try clear l0); (try clear l1); (try clear p6); (try clear c8); (try clear c9); (try clear c11); (try clear c7); (try clear c12); (try clear c13); (try clear c15); (try clear c17); (try clear c18); (try clear c20); (try clear e8); (try clear e9); (try clear f0); (try clear f1); (try clear f2); (try clear f8); (try clear f9); (try clear g0); (try clear g1); (try clear g2); (try clear g8); (try clear g9); (try clear h0); (try clear h4); (try clear h5); (try clear h6); (try clear h7); (try clear h8); (try clear i4); (try clear i5); (try clear i6); (try clear f3); (try clear f4); (try clear f5); (try clear f6); (try clear f7); (try clear g3); (try clear g4); (try clear g5); (try clear g6); (try clear g7); (try clear h1); (try clear h2); (try clear h3); (try clear h9); (try clear i0); (try clear i1); (try clear i2); (try clear i3); (try clear i7); (try clear i8); (try clear i9); obtain ⟨kq, d6, rfl, HA, HJ3, a8, a9, b4, HB⟩ := hcut
   cases kq with
   | zero => exact absurd HA.out (by simp [spec_l6Do.j0])
   | succ kj3 =>
    have H := HA.out; clear HA
    simp only [spec_l6Do.j0] at H
    by_cases c22 : d6 = true
    ·
     subst c22
     rw [if_pos rfl] at H
     simp only [Option.some.injEq, Prod.mk.injEq] at H
     obtain ⟨rfl, rfl, rfl, rfl⟩ := H; have F2 := b7.out; have F3 := b3.out; have F4 := b5.out; have F5 := b0.out; obtain ⟨n8, n9, o0⟩ := cc3_ b4.out; obtain ⟨o1, o2, o3⟩ := cf3_ b4.out
     go_wp2
     refine bodyPost_ret (results_ct rfl _ _ b1 25 #[.int .i64 0, .int .i64 0, .slice none 0 0] (0, 0) _ rfl (by (repeat refine oneB ?_); refine blk_put (cs := #[.int .i64 0, .int .i64 0, .slice none 0 0]) ?_ 2 _ rfl; refine blk_put (cs := #[.int .i64 0, .int .i64 0, .slice none 0 0]) ?_ 1 _ rfl; refine blk_put (cs := #[.int .i64 0, .int .i64 0, .slice none 0 0]) ?_ 0 _ rfl; exact upB b4.out) Try.underlying25 rfl (by kernel_rfl)) rfl ?_
     exact ⟨_, by first | rfl | (simp [*, errW_none, errW_some] <;> rfl), by first | exact Kd.R_nil _ _ _ _ _ | exact Kd.N_nil _ _ _ _ _ | exact Kd.V_nil _ _ _ _ _ | exact Kd.Q_nil _ _ _ _ _ | exact Kd.S_nil _ _ _ _ _, by repeat (with_reducible first | exact HB.out | apply yac | apply yab | apply yad | refine yae ?_ (Aside0.out ‹_›))⟩
    ·
     replace c22 := Bool.eq_false_iff.mpr c22
     subst c22
     rw [if_neg (show ¬ (false = true) by decide)] at H
     replace H := Option.bind_eq_some_iff.mp H; obtain ⟨⟨e2, j1, k4⟩, l2, H⟩ := H; (try dsimp only at H); have A26 := yaa l2; clear l2
     simp only [Option.some.injEq, Prod.mk.injEq] at H
     obtain ⟨rfl, rfl, rfl, rfl⟩ := H; have F6 := b2.out; have F7 := b6.out; have F8 := b3.out; have F9 := b7.out; obtain ⟨o4, o5, o6⟩ := cc3_ a8.out; obtain ⟨o7, o8, o9⟩ := cf3_ a8.out; have G0 := b0.out; have G1 := b5.out; obtain ⟨p0, p1, p3, p4, p5⟩ := cc5_ a9.out; obtain ⟨p7, p8, p9, q0, q1⟩ := cf5_ a9.out
     go_wp2_with (first | ((with_reducible refine gate_callee (f := 73) rfl ?_); refine gl_ (some 31) rfl Try.func73 #[.agg #[.int .i64 a0_0, .int .i64 a0_1, .slice A0_2 l0_2.length c0_2], .agg #[.int .i64 a1_0, .int .i64 a1_1, .int .i64 a1_2, .int .i64 a1_3, .int .i64 a1_4]] ?_; (with_reducible refine (spec_l6Crop.calls kj3 a0_0 a0_1 _ _ l0_2 a1_0 a1_1 a1_2 a1_3 a1_4 e2 j1 k4 _ ?side1 ?side2 A26.out).mono ?_); (case side1 => repeat (first | exact (Kd.C_below HR0_2.out HB.out) | (with_reducible refine Kd.C_alloc ?_ _) | (with_reducible refine Kd.C_drewN ?_ _) | (with_reducible refine Kd.C_drew ?_))); (case side2 => exact HC0_2.out); rintro e w32 ⟨J7, rfl, ho0, hb⟩; refine ⟨_, rfl, ?_⟩; have j8 := yaa (Kd.R_lower ho0 (yag (by repeat (with_reducible first | exact HB.out | apply yac | apply yab | apply yad | refine yae ?_ (Aside0.out ‹_›))))); replace a8 := yaa (yaf (upB a8.out) hb); replace a9 := yaa (yaf (upB a9.out) hb); replace b4 := yaa (yaf (upB b4.out) hb); replace HB := yaa (yah (by repeat (with_reducible first | exact HB.out | apply yac | apply yab | apply yad | refine yae ?_ (Aside0.out ‹_›))) hb); (try clear hb); (try clear hb2); (try clear hk); (try clear hi); (try clear ho0); obtain ⟨q2, q3, q4⟩ := cc3_ b4.out; obtain ⟨q5, q6, q7⟩ := cf3_ b4.out; obtain ⟨l3, l4, D4⟩ := Kd.R_slice j8.out; subst D4))
     refine bodyPost_ret (results_ct rfl _ _ b1 25 #[.int .i64 e2, .int .i64 j1, .slice l3 k4.length l4] (0, 0) _ rfl (by (repeat refine oneB ?_); refine blk_put (cs := #[.int .i64 e2, .int .i64 j1, .slice none 0 0]) ?_ 2 _ rfl; refine blk_put (cs := #[.int .i64 e2, .int .i64 0, .slice none 0 0]) ?_ 1 _ rfl; refine blk_put (cs := #[.int .i64 0, .int .i64 0, .slice none 0 0]) ?_ 0 _ rfl; exact upB b4.out) Try.underlying25 rfl (by kernel_rfl)) rfl ?_
     exact ⟨_, by first | rfl | (simp [*, errW_none, errW_some] <;> rfl), by (with_reducible repeat (first | apply Kd.R_alloc | apply Kd.R_drewN | apply Kd.R_drew)); exact Kd.R_mono (Kd.R_far (p := ⟨b1, 2, none⟩) (Kd.R_far (p := ⟨b1, 1, none⟩) (Kd.R_far (p := ⟨b1, 0, none⟩) (Kd.R_types j8.out b4.out (by decide)) (fun _ hk => hk.2) (.int .i64 e2)) (fun _ hk => hk.2) (.int .i64 j1)) (fun _ hk => hk.2) (.slice l3 k4.length l4)) (fun _ hk => trivial), by repeat (with_reducible first | exact HB.out | apply yac | apply yab | apply yad | refine yae ?_ (Aside0.out ‹_›))⟩
 ·
  rw [if_neg c3] at H
  have l0 : (a1_0 == 1) = false := beq_eq_false_iff_ne.mpr c3; have l1 : (a1_0 != 1) = true := bne_iff_ne.mpr c3
  by_cases c35 : a1_0 = 2
  ·
   rw [if_pos c35] at H
   have l5 : (a1_0 == 2) = true := beq_iff_eq.mpr c35; have l6 : (a1_0 != 2) = false := bne_eq_false_iff_eq.mpr c35; clear c35; replace H := Option.bind_eq_some_iff.mp H; obtain ⟨⟨e3, j2, k5⟩, l7, H⟩ := H; (try dsimp only at H); have A36 := yaa l7; clear l7
   simp only [Option.some.injEq, Prod.mk.injEq] at H
   obtain ⟨rfl, rfl, rfl, rfl⟩ := H
   go_enter Try.func39, Try.ntmps39
   go_wp2_with (first | ((with_reducible refine gate_dst (N := 2) rfl ?_); refine bx_ 2 #[.int .i64 a0_0, .int .i64 a0_1, .slice A0_2 l0_2.length c0_2] 25 ?_; intro b8 hg w37 hbox hb; have a8 := yaa (hbox); have c0 := yaa ((by rw [hg]; exact (yag (upH HB.out)) : w.heap.size ≤ b8)); replace HB := yaa (yah (upH HB.out) hb); have d1 := c0; clear hb hbox hg) | ((with_reducible refine gate_dst (N := 3) rfl ?_); refine bx_ 3 #[.int .i64 a1_0, .int .i64 a1_1, .int .i64 a1_2, .int .i64 a1_3, .int .i64 a1_4] 27 ?_; intro b9 hg w38 hbox hb; have a9 := yaa (hbox); have c4 := yaa ((by rw [hg]; exact (yag (by repeat (with_reducible first | exact HB.out | apply yac | apply yab | apply yad | refine yae ?_ (Aside0.out ‹_›)))) : w.heap.size ≤ b9)); replace HB := yaa (yah (by repeat (with_reducible first | exact HB.out | apply yac | apply yab | apply yad | refine yae ?_ (Aside0.out ‹_›))) hb); have d2 := c4; have b2 := yaa ((by rw [hg]; exact Nat.ne_of_lt (blk_lt (upB a8.out)) : b8 ≠ b9)); replace a8 := yaa (yaf (upB a8.out) hb); have b6 := yaa b2.out.symm; clear hb hbox hg) | ((with_reducible refine gate_dst (N := 4) rfl ?_); refine bx_ 4 #[.int .i64 0, .int .i64 0, .slice none 0 0] 25 ?_; intro b1 hg w39 hbox hb; have b4 := yaa (hbox); have c5 := yaa ((by rw [hg]; exact (yag (by repeat (with_reducible first | exact HB.out | apply yac | apply yab | apply yad | refine yae ?_ (Aside0.out ‹_›)))) : w.heap.size ≤ b1)); replace HB := yaa (yah (by repeat (with_reducible first | exact HB.out | apply yac | apply yab | apply yad | refine yae ?_ (Aside0.out ‹_›))) hb); have d3 := c5; have b3 := yaa ((by rw [hg]; exact Nat.ne_of_lt (blk_lt (upB a8.out)) : b8 ≠ b1)); replace a8 := yaa (yaf (upB a8.out) hb); have b7 := yaa b3.out.symm; have b0 := yaa ((by rw [hg]; exact Nat.ne_of_lt (blk_lt (upB a9.out)) : b9 ≠ b1)); replace a9 := yaa (yaf (upB a9.out) hb); have b5 := yaa b0.out.symm; clear hb hbox hg; have G2 := b6.out; have G3 := b2.out; have G4 := b0.out; have G5 := b5.out; obtain ⟨q8, q9, r0, r5, r6⟩ := cc5_ a9.out; obtain ⟨r7, r8, r9, s0, s1⟩ := cf5_ a9.out; have G6 := b3.out; have G7 := b7.out; obtain ⟨s2, s3, s4⟩ := cc3_ a8.out; obtain ⟨s5, s6⟩ := cf2_ a8.out; have s7 := blk_frozen a8.out 2) | ((with_reducible refine gate_callee (f := 74) rfl ?_); refine gl_ (some 35) rfl Try.func74 #[.agg #[.int .i64 a0_0, .int .i64 a0_1, .slice A0_2 l0_2.length c0_2]] ?_; (with_reducible refine (spec_l6FlipX.calls k a0_0 a0_1 _ _ l0_2 e3 j2 k5 _ ?side1 ?side2 A36.out).mono ?_); (case side1 => repeat (first | exact (Kd.C_below HR0_2.out HB.out) | (with_reducible refine Kd.C_alloc ?_ _) | (with_reducible refine Kd.C_drewN ?_ _) | (with_reducible refine Kd.C_drew ?_))); (case side2 => exact HC0_2.out); rintro e w45 ⟨J8, rfl, ho0, hb⟩; refine ⟨_, rfl, ?_⟩; have j9 := yaa (Kd.R_lower ho0 (yag (by repeat (with_reducible first | exact HB.out | apply yac | apply yab | apply yad | refine yae ?_ (Aside0.out ‹_›))))); replace a8 := yaa (yaf (upB a8.out) hb); replace a9 := yaa (yaf (upB a9.out) hb); replace b4 := yaa (yaf (upB b4.out) hb); replace HB := yaa (yah (by repeat (with_reducible first | exact HB.out | apply yac | apply yab | apply yad | refine yae ?_ (Aside0.out ‹_›))) hb); (try clear hb); (try clear hb2); (try clear hk); (try clear hi); (try clear ho0); obtain ⟨s8, s9, t0⟩ := cc3_ b4.out; obtain ⟨t1, t2, t3⟩ := cf3_ b4.out; obtain ⟨l8, l9, D5⟩ := Kd.R_slice j9.out; subst D5))
   refine bodyPost_ret (results_ct rfl _ _ b1 25 #[.int .i64 e3, .int .i64 j2, .slice l8 k5.length l9] (0, 0) _ rfl (by (repeat refine oneB ?_); refine blk_put (cs := #[.int .i64 e3, .int .i64 j2, .slice none 0 0]) ?_ 2 _ rfl; refine blk_put (cs := #[.int .i64 e3, .int .i64 0, .slice none 0 0]) ?_ 1 _ rfl; refine blk_put (cs := #[.int .i64 0, .int .i64 0, .slice none 0 0]) ?_ 0 _ rfl; exact upB b4.out) Try.underlying25 rfl (by kernel_rfl)) rfl ?_
   exact ⟨_, by first | rfl | (simp [*, errW_none, errW_some] <;> rfl), by (with_reducible repeat (first | apply Kd.R_alloc | apply Kd.R_drewN | apply Kd.R_drew)); exact Kd.R_mono (Kd.R_far (p := ⟨b1, 2, none⟩) (Kd.R_far (p := ⟨b1, 1, none⟩) (Kd.R_far (p := ⟨b1, 0, none⟩) (Kd.R_types j9.out b4.out (by decide)) (fun _ hk => hk.2) (.int .i64 e3)) (fun _ hk => hk.2) (.int .i64 j2)) (fun _ hk => hk.2) (.slice l8 k5.length l9)) (fun _ hk => trivial), by repeat (with_reducible first | exact HB.out | apply yac | apply yab | apply yad | refine yae ?_ (Aside0.out ‹_›))⟩
  ·
   rw [if_neg c35] at H
   have l5 : (a1_0 == 2) = false := beq_eq_false_iff_ne.mpr c35; have l6 : (a1_0 != 2) = true := bne_iff_ne.mpr c35
   by_cases c48 : a1_0 = 3
   ·
    rw [if_pos c48] at H
    have m0 : (a1_0 == 3) = true := beq_iff_eq.mpr c48; have m1 : (a1_0 != 3) = false := bne_eq_false_iff_eq.mpr c48; clear c48; replace H := Option.bind_eq_some_iff.mp H; obtain ⟨⟨e4, j4, k6⟩, m2, H⟩ := H; (try dsimp only at H); have A49 := yaa m2; clear m2
    simp only [Option.some.injEq, Prod.mk.injEq] at H
    obtain ⟨rfl, rfl, rfl, rfl⟩ := H
    go_enter Try.func39, Try.ntmps39
    go_wp2_with (first | ((with_reducible refine gate_dst (N := 2) rfl ?_); refine bx_ 2 #[.int .i64 a0_0, .int .i64 a0_1, .slice A0_2 l0_2.length c0_2] 25 ?_; intro b8 hg w50 hbox hb; have a8 := yaa (hbox); have c0 := yaa ((by rw [hg]; exact (yag (upH HB.out)) : w.heap.size ≤ b8)); replace HB := yaa (yah (upH HB.out) hb); have d1 := c0; clear hb hbox hg) | ((with_reducible refine gate_dst (N := 3) rfl ?_); refine bx_ 3 #[.int .i64 a1_0, .int .i64 a1_1, .int .i64 a1_2, .int .i64 a1_3, .int .i64 a1_4] 27 ?_; intro b9 hg w51 hbox hb; have a9 := yaa (hbox); have c4 := yaa ((by rw [hg]; exact (yag (by repeat (with_reducible first | exact HB.out | apply yac | apply yab | apply yad | refine yae ?_ (Aside0.out ‹_›)))) : w.heap.size ≤ b9)); replace HB := yaa (yah (by repeat (with_reducible first | exact HB.out | apply yac | apply yab | apply yad | refine yae ?_ (Aside0.out ‹_›))) hb); have d2 := c4; have b2 := yaa ((by rw [hg]; exact Nat.ne_of_lt (blk_lt (upB a8.out)) : b8 ≠ b9)); replace a8 := yaa (yaf (upB a8.out) hb); have b6 := yaa b2.out.symm; clear hb hbox hg) | ((with_reducible refine gate_dst (N := 4) rfl ?_); refine bx_ 4 #[.int .i64 0, .int .i64 0, .slice none 0 0] 25 ?_; intro b1 hg w52 hbox hb; have b4 := yaa (hbox); have c5 := yaa ((by rw [hg]; exact (yag (by repeat (with_reducible first | exact HB.out | apply yac | apply yab | apply yad | refine yae ?_ (Aside0.out ‹_›)))) : w.heap.size ≤ b1)); replace HB := yaa (yah (by repeat (with_reducible first | exact HB.out | apply yac | apply yab | apply yad | refine yae ?_ (Aside0.out ‹_›))) hb); have d3 := c5; have b3 := yaa ((by rw [hg]; exact Nat.ne_of_lt (blk_lt (upB a8.out)) : b8 ≠ b1)); replace a8 := yaa (yaf (upB a8.out) hb); have b7 := yaa b3.out.symm; have b0 := yaa ((by rw [hg]; exact Nat.ne_of_lt (blk_lt (upB a9.out)) : b9 ≠ b1)); replace a9 := yaa (yaf (upB a9.out) hb); have b5 := yaa b0.out.symm; clear hb hbox hg; have G8 := b6.out; have G9 := b2.out; have H0 := b0.out; have H1 := b5.out; obtain ⟨t4, t5, t6, t7, t8⟩ := cc5_ a9.out; obtain ⟨t9, u0, u1, u2, u3⟩ := cf5_ a9.out; have H2 := b3.out; have H3 := b7.out; obtain ⟨u4, u5, u6⟩ := cc3_ a8.out; obtain ⟨u7, u8⟩ := cf2_ a8.out; have u9 := blk_frozen a8.out 2) | ((with_reducible refine gate_callee (f := 75) rfl ?_); refine gl_ (some 39) rfl Try.func75 #[.agg #[.int .i64 a0_0, .int .i64 a0_1, .slice A0_2 l0_2.length c0_2]] ?_; (with_reducible refine (spec_l5Flip.calls k a0_0 a0_1 _ _ l0_2 e4 j4 k6 _ ?side1 ?side2 A49.out).mono ?_); (case side1 => repeat (first | exact (Kd.C_below HR0_2.out HB.out) | (with_reducible refine Kd.C_alloc ?_ _) | (with_reducible refine Kd.C_drewN ?_ _) | (with_reducible refine Kd.C_drew ?_))); (case side2 => exact HC0_2.out); rintro e w58 ⟨J9, rfl, ho0, hb⟩; refine ⟨_, rfl, ?_⟩; have k0 := yaa (Kd.R_lower ho0 (yag (by repeat (with_reducible first | exact HB.out | apply yac | apply yab | apply yad | refine yae ?_ (Aside0.out ‹_›))))); replace a8 := yaa (yaf (upB a8.out) hb); replace a9 := yaa (yaf (upB a9.out) hb); replace b4 := yaa (yaf (upB b4.out) hb); replace HB := yaa (yah (by repeat (with_reducible first | exact HB.out | apply yac | apply yab | apply yad | refine yae ?_ (Aside0.out ‹_›))) hb); (try clear hb); (try clear hb2); (try clear hk); (try clear hi); (try clear ho0); obtain ⟨v0, v1, v2⟩ := cc3_ b4.out; obtain ⟨v3, v4, v5⟩ := cf3_ b4.out; obtain ⟨m3, m4, D6⟩ := Kd.R_slice k0.out; subst D6))
    refine bodyPost_ret (results_ct rfl _ _ b1 25 #[.int .i64 e4, .int .i64 j4, .slice m3 k6.length m4] (0, 0) _ rfl (by (repeat refine oneB ?_); refine blk_put (cs := #[.int .i64 e4, .int .i64 j4, .slice none 0 0]) ?_ 2 _ rfl; refine blk_put (cs := #[.int .i64 e4, .int .i64 0, .slice none 0 0]) ?_ 1 _ rfl; refine blk_put (cs := #[.int .i64 0, .int .i64 0, .slice none 0 0]) ?_ 0 _ rfl; exact upB b4.out) Try.underlying25 rfl (by kernel_rfl)) rfl ?_
    exact ⟨_, by first | rfl | (simp [*, errW_none, errW_some] <;> rfl), by (with_reducible repeat (first | apply Kd.R_alloc | apply Kd.R_drewN | apply Kd.R_drew)); exact Kd.R_mono (Kd.R_far (p := ⟨b1, 2, none⟩) (Kd.R_far (p := ⟨b1, 1, none⟩) (Kd.R_far (p := ⟨b1, 0, none⟩) (Kd.R_types k0.out b4.out (by decide)) (fun _ hk => hk.2) (.int .i64 e4)) (fun _ hk => hk.2) (.int .i64 j4)) (fun _ hk => hk.2) (.slice m3 k6.length m4)) (fun _ hk => trivial), by repeat (with_reducible first | exact HB.out | apply yac | apply yab | apply yad | refine yae ?_ (Aside0.out ‹_›))⟩
   ·
    rw [if_neg c48] at H
    have m0 : (a1_0 == 3) = false := beq_eq_false_iff_ne.mpr c48; have m1 : (a1_0 != 3) = true := bne_iff_ne.mpr c48
    by_cases c61 : a1_0 = 4
    ·
     rw [if_pos c61] at H
     have m5 : (a1_0 == 4) = true := beq_iff_eq.mpr c61; have m6 : (a1_0 != 4) = false := bne_eq_false_iff_eq.mpr c61; clear c61; replace H := Option.bind_eq_some_iff.mp H; obtain ⟨⟨e5, j5, k7⟩, m7, H⟩ := H; (try dsimp only at H); have A62 := yaa m7; clear m7
     simp only [Option.some.injEq, Prod.mk.injEq] at H
     obtain ⟨rfl, rfl, rfl, rfl⟩ := H
     go_enter Try.func39, Try.ntmps39
     go_wp2_with (first | ((with_reducible refine gate_dst (N := 2) rfl ?_); refine bx_ 2 #[.int .i64 a0_0, .int .i64 a0_1, .slice A0_2 l0_2.length c0_2] 25 ?_; intro b8 hg w63 hbox hb; have a8 := yaa (hbox); have c0 := yaa ((by rw [hg]; exact (yag (upH HB.out)) : w.heap.size ≤ b8)); replace HB := yaa (yah (upH HB.out) hb); have d1 := c0; clear hb hbox hg) | ((with_reducible refine gate_dst (N := 3) rfl ?_); refine bx_ 3 #[.int .i64 a1_0, .int .i64 a1_1, .int .i64 a1_2, .int .i64 a1_3, .int .i64 a1_4] 27 ?_; intro b9 hg w64 hbox hb; have a9 := yaa (hbox); have c4 := yaa ((by rw [hg]; exact (yag (by repeat (with_reducible first | exact HB.out | apply yac | apply yab | apply yad | refine yae ?_ (Aside0.out ‹_›)))) : w.heap.size ≤ b9)); replace HB := yaa (yah (by repeat (with_reducible first | exact HB.out | apply yac | apply yab | apply yad | refine yae ?_ (Aside0.out ‹_›))) hb); have d2 := c4; have b2 := yaa ((by rw [hg]; exact Nat.ne_of_lt (blk_lt (upB a8.out)) : b8 ≠ b9)); replace a8 := yaa (yaf (upB a8.out) hb); have b6 := yaa b2.out.symm; clear hb hbox hg) | ((with_reducible refine gate_dst (N := 4) rfl ?_); refine bx_ 4 #[.int .i64 0, .int .i64 0, .slice none 0 0] 25 ?_; intro b1 hg w65 hbox hb; have b4 := yaa (hbox); have c5 := yaa ((by rw [hg]; exact (yag (by repeat (with_reducible first | exact HB.out | apply yac | apply yab | apply yad | refine yae ?_ (Aside0.out ‹_›)))) : w.heap.size ≤ b1)); replace HB := yaa (yah (by repeat (with_reducible first | exact HB.out | apply yac | apply yab | apply yad | refine yae ?_ (Aside0.out ‹_›))) hb); have d3 := c5; have b3 := yaa ((by rw [hg]; exact Nat.ne_of_lt (blk_lt (upB a8.out)) : b8 ≠ b1)); replace a8 := yaa (yaf (upB a8.out) hb); have b7 := yaa b3.out.symm; have b0 := yaa ((by rw [hg]; exact Nat.ne_of_lt (blk_lt (upB a9.out)) : b9 ≠ b1)); replace a9 := yaa (yaf (upB a9.out) hb); have b5 := yaa b0.out.symm; clear hb hbox hg; have H4 := b6.out; have H5 := b2.out; have H6 := b0.out; have H7 := b5.out; obtain ⟨v6, v7, v8, v9, w0⟩ := cc5_ a9.out; obtain ⟨w1, w2, w3, w4, w8⟩ := cf5_ a9.out; have H8 := b3.out; have H9 := b7.out; obtain ⟨w9, x0, x1⟩ := cc3_ a8.out; obtain ⟨x2, x3⟩ := cf2_ a8.out; have x4 := blk_frozen a8.out 2) | ((with_reducible refine gate_callee (f := 76) rfl ?_); refine gl_ (some 43) rfl Try.func76 #[.agg #[.int .i64 a0_0, .int .i64 a0_1, .slice A0_2 l0_2.length c0_2]] ?_; (with_reducible refine (spec_l6Turn.calls k a0_0 a0_1 _ _ l0_2 e5 j5 k7 _ ?side1 ?side2 A62.out).mono ?_); (case side1 => repeat (first | exact (Kd.C_below HR0_2.out HB.out) | (with_reducible refine Kd.C_alloc ?_ _) | (with_reducible refine Kd.C_drewN ?_ _) | (with_reducible refine Kd.C_drew ?_))); (case side2 => exact HC0_2.out); rintro e w71 ⟨K0, rfl, ho0, hb⟩; refine ⟨_, rfl, ?_⟩; have k1 := yaa (Kd.R_lower ho0 (yag (by repeat (with_reducible first | exact HB.out | apply yac | apply yab | apply yad | refine yae ?_ (Aside0.out ‹_›))))); replace a8 := yaa (yaf (upB a8.out) hb); replace a9 := yaa (yaf (upB a9.out) hb); replace b4 := yaa (yaf (upB b4.out) hb); replace HB := yaa (yah (by repeat (with_reducible first | exact HB.out | apply yac | apply yab | apply yad | refine yae ?_ (Aside0.out ‹_›))) hb); (try clear hb); (try clear hb2); (try clear hk); (try clear hi); (try clear ho0); obtain ⟨x5, x6, x7⟩ := cc3_ b4.out; obtain ⟨x8, x9, y9⟩ := cf3_ b4.out; obtain ⟨m8, m9, D7⟩ := Kd.R_slice k1.out; subst D7))
     refine bodyPost_ret (results_ct rfl _ _ b1 25 #[.int .i64 e5, .int .i64 j5, .slice m8 k7.length m9] (0, 0) _ rfl (by (repeat refine oneB ?_); refine blk_put (cs := #[.int .i64 e5, .int .i64 j5, .slice none 0 0]) ?_ 2 _ rfl; refine blk_put (cs := #[.int .i64 e5, .int .i64 0, .slice none 0 0]) ?_ 1 _ rfl; refine blk_put (cs := #[.int .i64 0, .int .i64 0, .slice none 0 0]) ?_ 0 _ rfl; exact upB b4.out) Try.underlying25 rfl (by kernel_rfl)) rfl ?_
     exact ⟨_, by first | rfl | (simp [*, errW_none, errW_some] <;> rfl), by (with_reducible repeat (first | apply Kd.R_alloc | apply Kd.R_drewN | apply Kd.R_drew)); exact Kd.R_mono (Kd.R_far (p := ⟨b1, 2, none⟩) (Kd.R_far (p := ⟨b1, 1, none⟩) (Kd.R_far (p := ⟨b1, 0, none⟩) (Kd.R_types k1.out b4.out (by decide)) (fun _ hk => hk.2) (.int .i64 e5)) (fun _ hk => hk.2) (.int .i64 j5)) (fun _ hk => hk.2) (.slice m8 k7.length m9)) (fun _ hk => trivial), by repeat (with_reducible first | exact HB.out | apply yac | apply yab | apply yad | refine yae ?_ (Aside0.out ‹_›))⟩
    ·
     rw [if_neg c61] at H
     have m5 : (a1_0 == 4) = false := beq_eq_false_iff_ne.mpr c61; have m6 : (a1_0 != 4) = true := bne_iff_ne.mpr c61
     by_cases c74 : a1_0 = 7
     ·
      rw [if_pos c74] at H
      have n0 : (a1_0 == 7) = true := beq_iff_eq.mpr c74; have n1 : (a1_0 != 7) = false := bne_eq_false_iff_eq.mpr c74; clear c74; replace H := Option.bind_eq_some_iff.mp H; obtain ⟨⟨e6, j6, k8⟩, n2, H⟩ := H; (try dsimp only at H); have A75 := yaa n2; clear n2
      simp only [Option.some.injEq, Prod.mk.injEq] at H
      obtain ⟨rfl, rfl, rfl, rfl⟩ := H
      go_enter Try.func39, Try.ntmps39
      go_wp2_with (first | ((with_reducible refine gate_dst (N := 2) rfl ?_); refine bx_ 2 #[.int .i64 a0_0, .int .i64 a0_1, .slice A0_2 l0_2.length c0_2] 25 ?_; intro b8 hg w76 hbox hb; have a8 := yaa (hbox); have c0 := yaa ((by rw [hg]; exact (yag (upH HB.out)) : w.heap.size ≤ b8)); replace HB := yaa (yah (upH HB.out) hb); have d1 := c0; clear hb hbox hg) | ((with_reducible refine gate_dst (N := 3) rfl ?_); refine bx_ 3 #[.int .i64 a1_0, .int .i64 a1_1, .int .i64 a1_2, .int .i64 a1_3, .int .i64 a1_4] 27 ?_; intro b9 hg w77 hbox hb; have a9 := yaa (hbox); have c4 := yaa ((by rw [hg]; exact (yag (by repeat (with_reducible first | exact HB.out | apply yac | apply yab | apply yad | refine yae ?_ (Aside0.out ‹_›)))) : w.heap.size ≤ b9)); replace HB := yaa (yah (by repeat (with_reducible first | exact HB.out | apply yac | apply yab | apply yad | refine yae ?_ (Aside0.out ‹_›))) hb); have d2 := c4; have b2 := yaa ((by rw [hg]; exact Nat.ne_of_lt (blk_lt (upB a8.out)) : b8 ≠ b9)); replace a8 := yaa (yaf (upB a8.out) hb); have b6 := yaa b2.out.symm; clear hb hbox hg) | ((with_reducible refine gate_dst (N := 4) rfl ?_); refine bx_ 4 #[.int .i64 0, .int .i64 0, .slice none 0 0] 25 ?_; intro b1 hg w78 hbox hb; have b4 := yaa (hbox); have c5 := yaa ((by rw [hg]; exact (yag (by repeat (with_reducible first | exact HB.out | apply yac | apply yab | apply yad | refine yae ?_ (Aside0.out ‹_›)))) : w.heap.size ≤ b1)); replace HB := yaa (yah (by repeat (with_reducible first | exact HB.out | apply yac | apply yab | apply yad | refine yae ?_ (Aside0.out ‹_›))) hb); have d3 := c5; have b3 := yaa ((by rw [hg]; exact Nat.ne_of_lt (blk_lt (upB a8.out)) : b8 ≠ b1)); replace a8 := yaa (yaf (upB a8.out) hb); have b7 := yaa b3.out.symm; have b0 := yaa ((by rw [hg]; exact Nat.ne_of_lt (blk_lt (upB a9.out)) : b9 ≠ b1)); replace a9 := yaa (yaf (upB a9.out) hb); have b5 := yaa b0.out.symm; clear hb hbox hg; have I0 := b6.out; have I1 := b2.out; have I2 := b0.out; have I3 := b5.out; obtain ⟨z0, z1, z2, z3, z4⟩ := cc5_ a9.out; obtain ⟨z5, z6, z7, z8, z9⟩ := cf5_ a9.out; have I4 := b3.out; have I5 := b7.out; obtain ⟨A0, A1, A2⟩ := cc3_ a8.out; obtain ⟨A3, A4⟩ := cf2_ a8.out; have A5 := blk_frozen a8.out 2) | ((with_reducible refine gate_callee (f := 77) rfl ?_); refine gl_ (some 48) rfl Try.func77 #[.agg #[.int .i64 a0_0, .int .i64 a0_1, .slice A0_2 l0_2.length c0_2], .agg #[.int .i64 a1_0, .int .i64 a1_1, .int .i64 a1_2, .int .i64 a1_3, .int .i64 a1_4]] ?_; (with_reducible refine (spec_l6Size.calls k a0_0 a0_1 _ _ l0_2 a1_0 a1_1 a1_2 a1_3 a1_4 e6 j6 k8 _ ?side1 ?side2 A75.out).mono ?_); (case side1 => repeat (first | exact (Kd.C_below HR0_2.out HB.out) | (with_reducible refine Kd.C_alloc ?_ _) | (with_reducible refine Kd.C_drewN ?_ _) | (with_reducible refine Kd.C_drew ?_))); (case side2 => exact HC0_2.out); rintro e w84 ⟨K1, rfl, ho0, hb⟩; refine ⟨_, rfl, ?_⟩; have k2 := yaa (Kd.R_lower ho0 (yag (by repeat (with_reducible first | exact HB.out | apply yac | apply yab | apply yad | refine yae ?_ (Aside0.out ‹_›))))); replace a8 := yaa (yaf (upB a8.out) hb); replace a9 := yaa (yaf (upB a9.out) hb); replace b4 := yaa (yaf (upB b4.out) hb); replace HB := yaa (yah (by repeat (with_reducible first | exact HB.out | apply yac | apply yab | apply yad | refine yae ?_ (Aside0.out ‹_›))) hb); (try clear hb); (try clear hb2); (try clear hk); (try clear hi); (try clear ho0); obtain ⟨A6, A7, A8⟩ := cc3_ b4.out; obtain ⟨A9, B0, B1⟩ := cf3_ b4.out; obtain ⟨n3, n4, D8⟩ := Kd.R_slice k2.out; subst D8))
      refine bodyPost_ret (results_ct rfl _ _ b1 25 #[.int .i64 e6, .int .i64 j6, .slice n3 k8.length n4] (0, 0) _ rfl (by (repeat refine oneB ?_); refine blk_put (cs := #[.int .i64 e6, .int .i64 j6, .slice none 0 0]) ?_ 2 _ rfl; refine blk_put (cs := #[.int .i64 e6, .int .i64 0, .slice none 0 0]) ?_ 1 _ rfl; refine blk_put (cs := #[.int .i64 0, .int .i64 0, .slice none 0 0]) ?_ 0 _ rfl; exact upB b4.out) Try.underlying25 rfl (by kernel_rfl)) rfl ?_
      exact ⟨_, by first | rfl | (simp [*, errW_none, errW_some] <;> rfl), by (with_reducible repeat (first | apply Kd.R_alloc | apply Kd.R_drewN | apply Kd.R_drew)); exact Kd.R_mono (Kd.R_far (p := ⟨b1, 2, none⟩) (Kd.R_far (p := ⟨b1, 1, none⟩) (Kd.R_far (p := ⟨b1, 0, none⟩) (Kd.R_types k2.out b4.out (by decide)) (fun _ hk => hk.2) (.int .i64 e6)) (fun _ hk => hk.2) (.int .i64 j6)) (fun _ hk => hk.2) (.slice n3 k8.length n4)) (fun _ hk => trivial), by repeat (with_reducible first | exact HB.out | apply yac | apply yab | apply yad | refine yae ?_ (Aside0.out ‹_›))⟩
     ·
      rw [if_neg c74] at H
      have n0 : (a1_0 == 7) = false := beq_eq_false_iff_ne.mpr c74; have n1 : (a1_0 != 7) = true := bne_iff_ne.mpr c74; replace H := Option.bind_eq_some_iff.mp H; obtain ⟨⟨e7, j7, k9⟩, n5, H⟩ := H; (try dsimp only at H); have A87 := yaa n5; clear n5
      simp only [Option.some.injEq, Prod.mk.injEq] at H
      obtain ⟨rfl, rfl, rfl, rfl⟩ := H
      go_enter Try.func39, Try.ntmps39
      go_wp2_with (first | ((with_reducible refine gate_dst (N := 2) rfl ?_); refine bx_ 2 #[.int .i64 a0_0, .int .i64 a0_1, .slice A0_2 l0_2.length c0_2] 25 ?_; intro b8 hg w88 hbox hb; have a8 := yaa (hbox); have c0 := yaa ((by rw [hg]; exact (yag (upH HB.out)) : w.heap.size ≤ b8)); replace HB := yaa (yah (upH HB.out) hb); have d1 := c0; clear hb hbox hg) | ((with_reducible refine gate_dst (N := 3) rfl ?_); refine bx_ 3 #[.int .i64 a1_0, .int .i64 a1_1, .int .i64 a1_2, .int .i64 a1_3, .int .i64 a1_4] 27 ?_; intro b9 hg w89 hbox hb; have a9 := yaa (hbox); have c4 := yaa ((by rw [hg]; exact (yag (by repeat (with_reducible first | exact HB.out | apply yac | apply yab | apply yad | refine yae ?_ (Aside0.out ‹_›)))) : w.heap.size ≤ b9)); replace HB := yaa (yah (by repeat (with_reducible first | exact HB.out | apply yac | apply yab | apply yad | refine yae ?_ (Aside0.out ‹_›))) hb); have d2 := c4; have b2 := yaa ((by rw [hg]; exact Nat.ne_of_lt (blk_lt (upB a8.out)) : b8 ≠ b9)); replace a8 := yaa (yaf (upB a8.out) hb); have b6 := yaa b2.out.symm; clear hb hbox hg) | ((with_reducible refine gate_dst (N := 4) rfl ?_); refine bx_ 4 #[.int .i64 0, .int .i64 0, .slice none 0 0] 25 ?_; intro b1 hg w90 hbox hb; have b4 := yaa (hbox); have c5 := yaa ((by rw [hg]; exact (yag (by repeat (with_reducible first | exact HB.out | apply yac | apply yab | apply yad | refine yae ?_ (Aside0.out ‹_›)))) : w.heap.size ≤ b1)); replace HB := yaa (yah (by repeat (with_reducible first | exact HB.out | apply yac | apply yab | apply yad | refine yae ?_ (Aside0.out ‹_›))) hb); have d3 := c5; have b3 := yaa ((by rw [hg]; exact Nat.ne_of_lt (blk_lt (upB a8.out)) : b8 ≠ b1)); replace a8 := yaa (yaf (upB a8.out) hb); have b7 := yaa b3.out.symm; have b0 := yaa ((by rw [hg]; exact Nat.ne_of_lt (blk_lt (upB a9.out)) : b9 ≠ b1)); replace a9 := yaa (yaf (upB a9.out) hb); have b5 := yaa b0.out.symm; clear hb hbox hg; have I6 := b6.out; have I7 := b2.out; have I8 := b0.out; have I9 := b5.out; obtain ⟨B2, B3, B4, B5, B6⟩ := cc5_ a9.out; obtain ⟨B7, B8, B9, C0, C1⟩ := cf5_ a9.out; have J0 := b3.out; have J1 := b7.out; obtain ⟨C2, C3, C4⟩ := cc3_ a8.out; obtain ⟨C5, C6⟩ := cf2_ a8.out; have C7 := blk_frozen a8.out 2) | ((with_reducible refine gate_callee (f := 78) rfl ?_); refine gl_ (some 51) rfl Try.func78 #[.agg #[.int .i64 a0_0, .int .i64 a0_1, .slice A0_2 l0_2.length c0_2], .agg #[.int .i64 a1_0, .int .i64 a1_1, .int .i64 a1_2, .int .i64 a1_3, .int .i64 a1_4]] ?_; (with_reducible refine (spec_l6Each.calls k a0_0 a0_1 _ _ l0_2 a1_0 a1_1 a1_2 a1_3 a1_4 e7 j7 k9 _ ?side1 ?side2 A87.out).mono ?_); (case side1 => repeat (first | exact (Kd.C_below HR0_2.out HB.out) | (with_reducible refine Kd.C_alloc ?_ _) | (with_reducible refine Kd.C_drewN ?_ _) | (with_reducible refine Kd.C_drew ?_))); (case side2 => exact HC0_2.out); rintro e w96 ⟨K2, rfl, ho0, hb⟩; refine ⟨_, rfl, ?_⟩; have k3 := yaa (Kd.R_lower ho0 (yag (by repeat (with_reducible first | exact HB.out | apply yac | apply yab | apply yad | refine yae ?_ (Aside0.out ‹_›))))); replace a8 := yaa (yaf (upB a8.out) hb); replace a9 := yaa (yaf (upB a9.out) hb); replace b4 := yaa (yaf (upB b4.out) hb); replace HB := yaa (yah (by repeat (with_reducible first | exact HB.out | apply yac | apply yab | apply yad | refine yae ?_ (Aside0.out ‹_›))) hb); (try clear hb); (try clear hb2); (try clear hk); (try clear hi); (try clear ho0); obtain ⟨C8, C9, D0⟩ := cc3_ b4.out; obtain ⟨D1, D2, D3⟩ := cf3_ b4.out; obtain ⟨n6, n7, D9⟩ := Kd.R_slice k3.out; subst D9))
      refine bodyPost_ret (results_ct rfl _ _ b1 25 #[.int .i64 e7, .int .i64 j7, .slice n6 k9.length n7] (0, 0) _ rfl (by (repeat refine oneB ?_); refine blk_put (cs := #[.int .i64 e7, .int .i64 j7, .slice none 0 0]) ?_ 2 _ rfl; refine blk_put (cs := #[.int .i64 e7, .int .i64 0, .slice none 0 0]) ?_ 1 _ rfl; refine blk_put (cs := #[.int .i64 0, .int .i64 0, .slice none 0 0]) ?_ 0 _ rfl; exact upB b4.out) Try.underlying25 rfl (by kernel_rfl)) rfl ?_
      exact ⟨_, by first | rfl | (simp [*, errW_none, errW_some] <;> rfl), by (with_reducible repeat (first | apply Kd.R_alloc | apply Kd.R_drewN | apply Kd.R_drew)); exact Kd.R_mono (Kd.R_far (p := ⟨b1, 2, none⟩) (Kd.R_far (p := ⟨b1, 1, none⟩) (Kd.R_far (p := ⟨b1, 0, none⟩) (Kd.R_types k3.out b4.out (by decide)) (fun _ hk => hk.2) (.int .i64 e7)) (fun _ hk => hk.2) (.int .i64 j7)) (fun _ hk => hk.2) (.slice n6 k9.length n7)) (fun _ hk => trivial), by repeat (with_reducible first | exact HB.out | apply yac | apply yab | apply yad | refine yae ?_ (Aside0.out ‹_›))⟩

end Go.Proofs.Ytoifpgkfpdeglaa.X

namespace Go.Proofs.Ytoifpgkfpdeglaa.X
open Go.RowKit Go.Proofs.YtoifpgkfpdeglaaW.PrintWords Go.Proofs.YtoifpgkfpdeglaaW.PrintLast Go.Proofs.YtoifpgkfpdeglaaW.PrintMore
attribute [local go_sem] max2_int min2_int max_two min_two max_three min_three max_four min_four
set_option linter.unusedVariables false
set_option linter.unusedSimpArgs false

open Go.Proofs.YtoifpgkfpdeglaaW.PrintWords.Aside0 renaming mk → yaa

/-! ### spec_l3Copy: function 56 -/
abbrev q56_0 : Array Bool := #[false, false, false, false, false, false, false, false, false, false]
abbrev q56_1 : Array Bool := #[true, false, false, false, false, false, false, false, false, false]
abbrev q56_2 : Array Bool := #[true, false, true, false, false, false, false, false, false, false]
abbrev q56_3 : Array Bool := #[true, false, true, false, false, true, false, false, false, false]
abbrev q56_4 : Array Bool := #[true, true, true, false, false, true, false, false, false, false]
abbrev q56_5 : Array Bool := #[true, true, true, true, false, true, false, false, false, false]
abbrev q56_6 : Array Bool := #[true, true, true, true, false, true, true, false, false, false]
abbrev q56_7 : Array Bool := #[true, true, true, true, true, true, true, false, false, false]
abbrev q56_8 : Array Bool := #[true, true, true, true, true, true, true, true, false, false]
abbrev q56_9 : Array Bool := #[true, true, true, true, true, true, true, true, true, false]
abbrev q56_10 : Array Bool := #[true, true, true, true, true, true, true, true, true, true]
def spec_l3Copy.f (a0_0 : Int) (a0_1 : Int) (l0_2 : List (S36)) : Option (Int × Int × (List (S36))) := (some (([] : List (S36)) : List (S36))).bind fun y103 => (if y103.length + l0_2.length < 4398046511104 then (some (a0_0, a0_1, (y103 ++ l0_2))) else (none))
def spec_l3Copy.T1 : Bool × List (List Nat × List Nat) := (true, [([], []), ([0], [0]), ([], []), ([2], [2]), ([], []), ([], []), ([5], [5]), ([4, 6], [4, 6]), ([1, 3, 7], [1, 3, 7]), ([8, 7, 0, 1, 2, 3, 4, 5, 6, 7, 8], [8])])
def spec_l3Copy.B1 : List Nat := [0, 1, 0, 4, 0, 0, 32, 112, 255, 511]
theorem spec_l3Copy.tab1 : rtab .any (opsOf Try.f56 1) = spec_l3Copy.T1 := by kernel_rfl
theorem spec_l3Copy.bits1 : waitsOk spec_l3Copy.T1.2 spec_l3Copy.B1 = true := by kernel_rfl
set_option maxHeartbeats 8000000 in
set_option maxRecDepth 100000 in
theorem spec_l3Copy.calls (a0_0 : Int) (a0_1 : Int) (A0_2 : Option Addr) (c0_2 : Nat) (l0_2 : List (S36)) (r1 : Int) (r2 : Int) (r3 : List (S36)) (w : World) (hr0_2 : Kd.C k36 w A0_2 l0_2.length l0_2) (hc0_2 : l0_2.length ≤ c0_2) (h : spec_l3Copy.f a0_0 a0_1 l0_2 = some (r1, r2, r3)) :
  Calls Try.prog 56 #[.agg #[.int .i64 a0_0, .int .i64 a0_1, .slice A0_2 l0_2.length c0_2]] w fun e w' => ∃ v2_ : Value, e = .returned (.agg #[.int .i64 r1, .int .i64 r2, v2_]) ∧ Kd.R k36 36 w' w.heap.size (fun _ => True) v2_ r3 ∧ Below w.heap.size w w' := by
 have hu25 := Try.underlying25; have HR0_2 := yaa hr0_2; have HC0_2 := yaa hc0_2; clear hr0_2 hc0_2; have HB := yaa (Below.refl w.heap.size w); have H : ((some (([] : List (S36)) : List (S36))).bind fun y103 => (if y103.length + l0_2.length < 4398046511104 then (some (a0_0, a0_1, (y103 ++ l0_2))) else (none))) = some (r1, r2, r3) := h; clear h; obtain ⟨y103, hy103, H⟩ := bindY H; (try dsimp only at H); have Ny103 := yaa hy103; clear hy103
 by_cases c2 : y103.length + l0_2.length < 4398046511104
 ·
  rw [if_pos c2] at H
  have LMc2 := yaa c2; clear c2; obtain ⟨y106, hy106⟩ : ∃ y_ : List (S36), y_ = (y103 ++ l0_2) := ⟨_, rfl⟩
  replace H : (some (a0_0, a0_1, y106)) = some (r1, r2, r3) := by first | (rw [hy106]; with_reducible exact H) | (have H2_ := (Option.bind_some _ _).symm.trans H; rw [hy106]; with_reducible exact H2_) | (have H2_ := (Option.bind_some _ _).symm.trans H; with_reducible exact H2_) | with_reducible exact H | (rw [hy106]; exact H) | exact H
  have Ny106 := yaa hy106; clear hy106
  simp only [Option.some.injEq, Prod.mk.injEq] at H
  obtain ⟨rfl, rfl, rfl⟩ := H
  go_enter Try.func56, Try.ntmps56
  try go_wp2_with (first | ((with_reducible refine gate_dst (N := 1) rfl ?_); refine bx_ 1 #[.int .i64 a0_0, .int .i64 a0_1, .slice A0_2 l0_2.length c0_2] 25 ?_; intro a5 hg w3 hbox hb; have a1 := yaa (hbox); have a8 := yaa ((by rw [hg]; exact (below_size (upH HB.out)) : w.heap.size ≤ a5)); replace HB := yaa (below_step (upH HB.out) hb); have b7 := a8; clear hb hbox hg) | ((with_reducible refine gate_dst (N := 2) rfl ?_); refine bx_ 2 #[.int .i64 0, .int .i64 0, .slice none 0 0] 25 ?_; intro a2 hg w4 hbox hb; have a3 := yaa (hbox); have a9 := yaa ((by rw [hg]; exact (below_size (by repeat (with_reducible first | exact HB.out | apply below_alloc | apply pw_below_drewN | apply below_drew1 | refine below_set ?_ (Aside0.out ‹_›)))) : w.heap.size ≤ a2)); replace HB := yaa (below_step (by repeat (with_reducible first | exact HB.out | apply below_alloc | apply pw_below_drewN | apply below_drew1 | refine below_set ?_ (Aside0.out ‹_›))) hb); have b8 := a9; have a0 := yaa ((by rw [hg]; exact Nat.ne_of_lt (blk_lt (upB a1.out)) : a5 ≠ a2)); replace a1 := yaa (blk_below (upB a1.out) hb); have a4 := yaa a0.out.symm; clear hb hbox hg))
  replace a1 := yaa (blk_drew a1.out); replace a3 := yaa (blk_drew a3.out); replace HB := yaa (below_drew1 HB.out)
  refine start_ (n := 10) (S := fun w' => w'.cell? ⟨a5, 0, none⟩ = some (.int .i64 a0_0) ∧ w'.cell? ⟨a5, 1, none⟩ = some (.int .i64 a0_1) ∧ w'.cell? ⟨a5, 2, none⟩ = some (.slice A0_2 l0_2.length c0_2)) (ds := []) q56_0 (by kernel_rfl) rfl rfl ⟨(blk_cell a1.out 0).trans rfl, (blk_cell a1.out 1).trans rfl, (blk_cell a1.out 2).trans rfl⟩ (fun hHeld => ?_); refine with_tabW spec_l3Copy.tab1 spec_l3Copy.bits1 (fun HT_ HW_ => ?_)
  generalize w4.drew = w5 at a1 a3 HB hHeld ⊢
  refine pz_ 0 3 q56_1 HT_ (by kernel_rfl) ?_
  refine pz_ 2 5 q56_2 HT_ (by kernel_rfl) ?_
  refine pz_ 5 8 q56_3 HT_ (by kernel_rfl) ?_
  refine tz_ 1 4 q56_4 HT_ HW_ (by kernel_rfl) hHeld ?_
  refine tz_ 3 6 q56_5 HT_ HW_ (by kernel_rfl) hHeld ?_
  refine tz_ 6 9 q56_6 HT_ HW_ (by kernel_rfl) hHeld ?_
  refine one_ (i := 4) (N := some 7) q56_7 rfl rfl (one_of HT_.out (by kernel_rfl)) (by decide) (fun K hK => ?_)
  refine Kd.R_lit_step k36 _ 36 ?hg (N := 7) ?hd (xs := ([] : List (S36))) (inner := []) (ok := fun _ => True) (okp := fun _ => True) ?hr ?hp (fun _ hk => hk) trivial (Below.refl _ _) (Nat.le_refl _) (by simp) ?_; (case hd => rfl); (case hg => rfl); (case hr => first | (go_simp; done) | (go_simp; rfl)); (case hp => exact (Reps.none _ _))
  intro b6 w6 ho7 hb hg_ hnew_; clear hg_ hnew_
  (first | rw [← Ny103.out] at ho7 | (simp only [Int.reduceToNat] at ho7; rw [← Ny103.out] at ho7))
  have n0_ := yaa (Kd.R_lower ho7 (below_size (by repeat (with_reducible first | exact HB.out | apply below_alloc | apply pw_below_drewN | apply below_drew1 | refine below_set ?_ (Aside0.out ‹_›)))))
  have n1_ := yaa (blk_below (upB a1.out) hb); have n2_ := yaa (blk_below (upB a3.out) hb)
  have n3_ := yaa (below_step (by repeat (with_reducible first | exact HB.out | apply below_alloc | apply pw_below_drewN | apply below_drew1 | refine below_set ?_ (Aside0.out ‹_›))) hb)
  clear a1; clear a3; clear HB; have a6 := n0_; have a1 := n1_; have a3 := n2_; have HB := n3_; clear n0_ n1_ n2_ n3_; clear hb ho7
  refine hK.out _ _ ⟨(blk_cell a1.out 0).trans rfl, (blk_cell a1.out 1).trans rfl, (blk_cell a1.out 2).trans rfl⟩ (fun hHeld => ?_)
  clear hK K
  refine norm_ (a' := ?_) ?_ ?_
  rotate_left
  ·
   show Act.put _ (some 7) _ = _
   simp only [Act.put, List.setIfInBounds_toArray, List.set_cons_zero, List.set_cons_succ, i64_w, i32_w]
   rfl
  refine one_ (i := 7) (N := some 10) q56_8 rfl rfl (one_of HT_.out (by kernel_rfl)) (by decide) (fun K hK => ?_)
  refine Kd.R_append_rows_step k36 (w0 := w) w.heap.size (by rfl) (.tmp 7) (.tmp 9) 23 36 (.agg #[(.int .i64 0), (.int .i64 0), (.int .i64 0), (.int .i64 0)]) 32 rfl Try.underlying23 info36 rfl (by decide) (by omega) b6 y103 l0_2 _ _ _ (fun _ => True) (fun _ => False) rfl rfl ?aO ?aR (fun _ _ h => h) (fun _ h => h.elim) ?aF ?aB ?aS ?aL ?_
  (case aR => repeat (first | exact (Kd.C_below HR0_2.out HB.out) | (with_reducible refine Kd.C_alloc ?_ _) | (with_reducible refine Kd.C_drewN ?_ _) | (with_reducible refine Kd.C_drew ?_)))
  (case aB => exact (by repeat (with_reducible first | exact HB.out | apply below_alloc | apply pw_below_drewN | apply below_drew1 | refine below_set ?_ (Aside0.out ‹_›))))
  (case aF => exact (fun _ _ => trivial))
  (case aO => exact (upR a6.out))
  (case aS => exact (below_size (by repeat (with_reducible first | exact HB.out | apply below_alloc | apply pw_below_drewN | apply below_drew1 | refine below_set ?_ (Aside0.out ‹_›)))))
  (case aL => have := LMc2.out; omega)
  intro c3 w8 ho hb hg hat
  rw [← Ny106.out] at ho
  replace a1 := yaa (blk_grown (upB a1.out) hg (Kd.R_ne a6.out a1.out (by decide))); replace a3 := yaa (blk_grown (upB a3.out) hg (Kd.R_ne a6.out a3.out (by decide))); replace HB := yaa (hb); have a7 := yaa (ho); clear a6; clear ho hb hg hat; obtain ⟨Ao9, co9, eo9⟩ := Kd.R_slice a7.out
  (first | subst eo9 | (injection eo9 with f1_ f2_ f3_; have f4_ := f1_.symm; have f5_ := f3_.symm; clear f1_ f2_ f3_; subst f4_; subst f5_))
  refine hK.out _ _ ⟨(blk_cell a1.out 0).trans rfl, (blk_cell a1.out 1).trans rfl, (blk_cell a1.out 2).trans rfl⟩ (fun hHeld => ?_)
  clear hK K
  refine norm_ (a' := ?_) ?_ ?_
  rotate_left
  ·
   show Act.put _ (some 10) _ = _
   simp only [Act.put, List.setIfInBounds_toArray, List.set_cons_zero, List.set_cons_succ, i64_w, i32_w]
   rfl
  refine pz_ 8 11 q56_9 HT_ (by kernel_rfl) ?_
  refine one_ (i := 9) (N := none) q56_10 rfl rfl (one_of HT_.out (by kernel_rfl)) (by decide) (fun K hK => ?_)
  have c4 : w8.cell? ⟨a2, 0, none⟩ = some (.int .i64 0) := (blk_cell a3.out 0).trans rfl; have b9 := blk_frozen a3.out 0; have b0 := a0.out; have b1 := a4.out; have c5 : w8.cell? ⟨a2, 1, none⟩ = some (.int .i64 0) := (blk_cell a3.out 1).trans rfl; have c0 := blk_frozen a3.out 1; have b2 := a0.out; have b3 := a4.out; have c6 : w8.cell? ⟨a2, 2, none⟩ = some (.slice none 0 0) := (blk_cell a3.out 2).trans rfl; have c1 := blk_frozen a3.out 2; have b4 := a0.out; have b5 := a4.out
  refine skip_ (w1 := ?_) (by rfl) rfl ?_ ?_
  rotate_left
  ·
   go_simp
   rfl
  refine hK.out _ _ ⟨((cell_far (p := ⟨a2, _, none⟩) a0.out _).trans (((cell_far (p := ⟨a2, _, none⟩) a0.out _).trans (((cell_far (p := ⟨a2, _, none⟩) a0.out _).trans (hHeld.1)))))), ((cell_far (p := ⟨a2, _, none⟩) a0.out _).trans (((cell_far (p := ⟨a2, _, none⟩) a0.out _).trans (((cell_far (p := ⟨a2, _, none⟩) a0.out _).trans (hHeld.2.1)))))), ((cell_far (p := ⟨a2, _, none⟩) a0.out _).trans (((cell_far (p := ⟨a2, _, none⟩) a0.out _).trans (((cell_far (p := ⟨a2, _, none⟩) a0.out _).trans (hHeld.2.2))))))⟩ (fun hHeld => ?_)
  clear hK K
  refine done_ (done_of HT_.out (by kernel_rfl)) ?_
  try go_wp2
  refine bodyPost_ret (results_cell_row rfl _ _ a2 25 #[.int .i64 a0_0, .int .i64 a0_1, .slice Ao9 y106.length co9] (0, 0) _ rfl (by (repeat refine oneB ?_); refine blk_put (cs := #[.int .i64 a0_0, .int .i64 a0_1, .slice none 0 0]) ?_ 2 _ rfl; refine blk_put (cs := #[.int .i64 a0_0, .int .i64 0, .slice none 0 0]) ?_ 1 _ rfl; refine blk_put (cs := #[.int .i64 0, .int .i64 0, .slice none 0 0]) ?_ 0 _ rfl; exact upB a3.out) Try.underlying25 rfl (by kernel_rfl)) rfl ?_
  exact ⟨_, by first | rfl | (simp [*, errW_none, errW_some] <;> rfl), by (with_reducible repeat (first | apply Kd.R_alloc | apply Kd.R_drewN | apply Kd.R_drew)); exact Kd.R_mono (Kd.R_far (p := ⟨a2, 2, none⟩) (Kd.R_far (p := ⟨a2, 1, none⟩) (Kd.R_far (p := ⟨a2, 0, none⟩) (Kd.R_types a7.out a3.out (by decide)) (fun _ hk => hk.2) (.int .i64 a0_0)) (fun _ hk => hk.2) (.int .i64 a0_1)) (fun _ hk => hk.2) (.slice Ao9 y106.length co9)) (fun _ hk => trivial), by repeat (with_reducible first | exact HB.out | apply below_alloc | apply pw_below_drewN | apply below_drew1 | refine below_set ?_ (Aside0.out ‹_›))⟩
 ·
  rw [if_neg c2] at H
  exact absurd H (by simp)

end Go.Proofs.Ytoifpgkfpdeglaa.X

namespace Go.Proofs.Ytoifpgkfpdeglaa.X
open Go.RowKit Go.Proofs.YtoifpgkfpdeglaaW.PrintWords Go.Proofs.YtoifpgkfpdeglaaW.PrintLast Go.Proofs.YtoifpgkfpdeglaaW.PrintMore
attribute [local go_sem] max2_int min2_int max_two min_two max_three min_three max_four min_four
set_option linter.unusedVariables false
set_option linter.unusedSimpArgs false

open Go.Proofs.YtoifpgkfpdeglaaW.PrintWords renaming add_block → yaa, pw_below_drewN → yac, below_drew1 → yad, below_alloc → yae, below_set → yaf, cell_far → yag, blk_below → yah, blk_cell → yaj, Aside0 → yak, below_size → yal, below_step → yam
open Go.Proofs.YtoifpgkfpdeglaaW.PrintWords.Aside0 renaming mk → yab
open Go.Proofs.Ytoifpgkfpdeglaa.X renaming rd_T27 → yai

/-! ### spec_OpsDo: function 28 -/
abbrev q28_0 : Array Bool := #[false, false, false, false, false, false, false, false, false, false, false, false]
abbrev q28_1 : Array Bool := #[false, true, false, false, false, false, false, false, false, false, false, false]
abbrev q28_2 : Array Bool := #[false, true, true, false, false, false, false, false, false, false, false, false]
abbrev q28_3 : Array Bool := #[false, true, true, true, false, false, false, false, false, false, false, false]
abbrev q28_4 : Array Bool := #[true, true, true, true, false, false, false, false, false, false, false, false]
abbrev q28_5 : Array Bool := #[true, true, true, true, true, false, false, false, false, false, false, false]
abbrev q28_6 : Array Bool := #[true, true, true, true, true, true, true, true, true, true, false, false]
abbrev q28_7 : Array Bool := #[true, true, true, true, true, true, false, false, false, false, false, false]
abbrev q28_8 : Array Bool := #[true, true, true, true, true, false, false, false, false, true, false, false]
abbrev q28_9 : Array Bool := #[true, true, true, true, true, true, true, false, false, false, false, false]
abbrev q28_10 : Array Bool := #[true, true, true, true, true, true, true, true, false, false, false, false]
abbrev q28_11 : Array Bool := #[true, true, true, true, true, true, true, true, true, false, false, false]
abbrev q28_12 : Array Bool := #[true, true, true, true, true, true, false, false, false, true, false, false]
abbrev q28_13 : Array Bool := #[true, true, true, true, true, true, true, false, false, true, false, false]
abbrev q28_14 : Array Bool := #[true, true, true, true, true, true, true, true, false, true, false, false]
abbrev q28_15 : Array Bool := #[true, true, true, true, true, true, true, true, true, true, true, false]
abbrev q28_16 : Array Bool := #[true, true, true, true, true, true, true, true, true, true, true, true]
mutual
def spec_OpsDo.j0 : Nat → List (S27) → Bool → Int → Int → List (S36) → Option (Int × Int × (List (S36)) × Bool)
 | 0, _, _, _, _, _ => none
 | k + 1, x1, x17, x102000, x102001, x102002 => if x17 = true then (some (0, 0, ([] : List (S36)), false)) else ((spec_l3Copy.f x102000 x102001 x102002).bind fun bt105 => (spec_OpsDo.l0 k x1 0 bt105.1 bt105.2.1 bt105.2.2))
def spec_OpsDo.l0 : Nat → List (S27) → Int → Int → Int → List (S36) → Option (Int × Int × (List (S36)) × Bool)
 | 0, _, _, _, _, _ => none
 | k + 1, x1, x7, x111000, x111001, x111002 => if x7 < (x1.length : Int) then (if 0 ≤ x7 then ((spec_l6Do.f k x111000 x111001 x111002 ((rd_T27 x1 x7).f0) ((rd_T27 x1 x7).f1) ((rd_T27 x1 x7).f2) ((rd_T27 x1 x7).f3) ((rd_T27 x1 x7).f4)).bind fun bt112 => (if bt112.2.2.2 = true then (spec_OpsDo.l0 k x1 (wrap64 (x7 + 1)) bt112.1 bt112.2.1 bt112.2.2.1) else (some (0, 0, ([] : List (S36)), false)))) else (none)) else (some (x111000, x111001, x111002, true))
end
def spec_OpsDo.f (k : Nat) (a0_0 : Int) (a0_1 : Int) (l0_2 : List (S36)) (l1 : List (S27)) : Option (Int × Int × (List (S36)) × Bool) := (spec_RasOk.f k a0_0 a0_1 l0_2).bind fun t103 => (if t103 = true then ((spec_l6All.f k l1).bind fun t104 => (spec_OpsDo.j0 k l1 (!t104) a0_0 a0_1 l0_2)) else (spec_OpsDo.j0 k l1 true a0_0 a0_1 l0_2))
def spec_OpsDo.T7 : Bool × List (List Nat × List Nat) := (true, [([], []), ([], []), ([], []), ([1, 2], [1, 2]), ([3], [3]), ([0, 4], [0, 4]), ([5], [5]), ([6], [6]), ([6], [6]), ([], []), ([9, 7, 5, 0, 1, 2, 3, 4, 5, 6, 7, 9], [7, 9]), ([8, 10, 0, 1, 2, 3, 4, 5, 6, 7, 8, 9, 10], [8])])
def spec_OpsDo.B7 : List Nat := [0, 0, 0, 6, 14, 31, 63, 127, 127, 0, 767, 2047]
theorem spec_OpsDo.tab7 : rtab .any (opsOf Try.f28 7) = spec_OpsDo.T7 := by kernel_rfl
theorem spec_OpsDo.bits7 : waitsOk spec_OpsDo.T7.2 spec_OpsDo.B7 = true := by kernel_rfl
set_option maxHeartbeats 8000000 in
set_option maxRecDepth 100000 in
theorem spec_OpsDo.calls (k : Nat) (a0_0 : Int) (a0_1 : Int) (A0_2 : Option Addr) (c0_2 : Nat) (l0_2 : List (S36)) (A1 : Option Addr) (c1 : Nat) (l1 : List (S27)) (r1 : Int) (r2 : Int) (r3 : List (S36)) (r4 : Bool) (w : World) (hr0_2 : Kd.C k36 w A0_2 l0_2.length l0_2) (hc0_2 : l0_2.length ≤ c0_2) (hr1 : Kd.C k27 w A1 l1.length l1) (hc1 : l1.length ≤ c1) (h : spec_OpsDo.f k a0_0 a0_1 l0_2 l1 = some (r1, r2, r3, r4)) :
  Calls Try.prog 28 #[.agg #[.int .i64 a0_0, .int .i64 a0_1, .slice A0_2 l0_2.length c0_2], .slice A1 l1.length c1] w fun e w' => ∃ v2_ : Value, e = .returned (.tuple #[.agg #[.int .i64 r1, .int .i64 r2, v2_], .bool r4]) ∧ Kd.R k36 36 w' w.heap.size (fun _ => True) v2_ r3 ∧ Below w.heap.size w w' := by
 have hu25 := Try.underlying25; have hu27 := Try.underlying27; have HR0_2 := yab hr0_2; have HC0_2 := yab hc0_2; clear hr0_2 hc0_2; have HR1 := yab hr1; have HC1 := yab hc1; clear hr1 hc1; have HB := yab (Below.refl w.heap.size w); have H : ((spec_RasOk.f k a0_0 a0_1 l0_2).bind fun k7 => (if k7 = true then ((spec_l6All.f k l1).bind fun i4 => (spec_OpsDo.j0 k l1 (!i4) a0_0 a0_1 l0_2)) else (spec_OpsDo.j0 k l1 true a0_0 a0_1 l0_2))) = some (r1, r2, r3, r4) := h; clear h; have HC3 := yab H; clear H
 go_enter Try.func28, Try.ntmps28
 go_upto_region 1 with (first | ((with_reducible refine gate_dst (N := 2) rfl ?_); refine bx_ 2 #[.int .i64 a0_0, .int .i64 a0_1, .slice A0_2 l0_2.length c0_2] 25 ?_; intro d4 hg w4 hbox hb; have b7 := yab (hbox); have l3 := yab ((by rw [hg]; exact (yal (upH HB.out)) : w.heap.size ≤ d4)); replace HB := yab (yam (upH HB.out) hb); have u1 := l3; clear hb hbox hg) | ((with_reducible refine gate_dst (N := 4) rfl ?_); refine bx_ 4 #[.int .i64 0, .int .i64 0, .slice none 0 0] 25 ?_; intro d1 hg w5 hbox hb; have b6 := yab (hbox); have l4 := yab ((by rw [hg]; exact (yal (by repeat (with_reducible first | exact HB.out | apply yae | apply yac | apply yad | refine yaf ?_ (Aside0.out ‹_›)))) : w.heap.size ≤ d1)); replace HB := yab (yam (by repeat (with_reducible first | exact HB.out | apply yae | apply yac | apply yad | refine yaf ?_ (Aside0.out ‹_›))) hb); have u2 := l4; have e2 := yab ((by rw [hg]; exact Nat.ne_of_lt (blk_lt (upB b7.out)) : d4 ≠ d1)); replace b7 := yab (yah (upB b7.out) hb); have e4 := yab e2.out.symm; clear hb hbox hg))
 (try simp only [Act.put, List.setIfInBounds_toArray, List.set_cons_zero, List.set_cons_succ])
 go_cut [17] (fun v17 wc => ∃ (kq : Nat) (g9 : Bool), v17 = .bool g9 ∧ yak (spec_OpsDo.j0 kq l1 g9 a0_0 a0_1 l0_2 = some (r1, r2, r3, r4)) ∧ yak (kq ≤ k) ∧ yak (wc.heap[d4]? = some (.cells #[.int .i64 a0_0, .int .i64 a0_1, (.slice A0_2 l0_2.length c0_2)] 25 (0, 0))) ∧ yak (wc.heap[d1]? = some (.cells #[.int .i64 0, .int .i64 0, (.slice none 0 0)] 25 (0, 0))) ∧ yak (Below w.heap.size w wc))
 case first =>
  have H := HC3.out; clear HC3; replace H := Option.bind_eq_some_iff.mp H; obtain ⟨k7, A60, H⟩ := H; (try dsimp only at H); have A6 := yab A60; clear A60
  by_cases c7 : k7 = true
  ·
   subst c7
   rw [if_pos rfl] at H
   replace H := Option.bind_eq_some_iff.mp H; obtain ⟨i4, A80, H⟩ := H; (try dsimp only at H); have A8 := yab A80; clear A80; have H' := yab H; clear H; have z4 := e2.out; have z5 := e4.out; obtain ⟨h0, h1, h2⟩ := cc3_ b7.out; obtain ⟨h3, h4, h5⟩ := cf3_ b7.out
   go_wp2_with (first | ((with_reducible refine gate_callee (f := 16) rfl ?_); refine gl_ (some 11) rfl Try.func16 #[.agg #[.int .i64 a0_0, .int .i64 a0_1, .slice A0_2 l0_2.length c0_2]] ?_; (with_reducible refine (spec_RasOk.calls k a0_0 a0_1 _ _ l0_2 true _ ?side1 ?side2 A6.out).mono ?_); (case side1 => repeat (first | exact (Kd.C_below HR0_2.out HB.out) | (with_reducible refine Kd.C_alloc ?_ _) | (with_reducible refine Kd.C_drewN ?_ _) | (with_reducible refine Kd.C_drew ?_))); (case side2 => exact HC0_2.out); rintro e w11 ⟨rfl, hb⟩; refine ⟨_, rfl, ?_⟩; replace b7 := yab (yah (upB b7.out) hb); replace b6 := yab (yah (upB b6.out) hb); replace HB := yab (yam (by repeat (with_reducible first | exact HB.out | apply yae | apply yac | apply yad | refine yaf ?_ (Aside0.out ‹_›))) hb); (try clear hb); (try clear hb2); (try clear hk); (try clear hi)) | (go_at_call 55; (with_reducible refine (spec_l6All.calls k _ _ l1 i4 _ ?side1 ?side2 A8.out).mono ?_); (case side1 => repeat (first | exact (Kd.C_below HR1.out HB.out) | (with_reducible refine Kd.C_alloc ?_ _) | (with_reducible refine Kd.C_drewN ?_ _) | (with_reducible refine Kd.C_drew ?_))); (case side2 => exact HC1.out); rintro e w12 ⟨rfl, hb⟩; replace b7 := yab (yah (upB b7.out) hb); replace b6 := yab (yah (upB b6.out) hb); replace HB := yab (yam (by repeat (with_reducible first | exact HB.out | apply yae | apply yac | apply yad | refine yaf ?_ (Aside0.out ‹_›))) hb); (try clear hb); (try clear hb2); (try clear hk); (try clear hi)))
   go_meet
   case rel => exact ⟨_, (!i4), (by first | rfl | (simp; done) | (simp [*]; done)), H', ⟨by first | omega | exact Nat.le_refl _⟩, ⟨by exact upB b7.out⟩, ⟨by exact upB b6.out⟩, ⟨by repeat (with_reducible first | exact HB.out | apply yae | apply yac | apply yad | refine yaf ?_ (Aside0.out ‹_›))⟩⟩
  ·
   replace c7 := Bool.eq_false_iff.mpr c7
   subst c7
   rw [if_neg (show ¬ (false = true) by decide)] at H
   have H' := yab H; clear H; have u3 := e2.out; have u4 := e4.out; obtain ⟨h6, h7, h8⟩ := cc3_ b7.out; obtain ⟨h9, i0, i1⟩ := cf3_ b7.out
   go_wp2_with (first | ((with_reducible refine gate_callee (f := 16) rfl ?_); refine gl_ (some 11) rfl Try.func16 #[.agg #[.int .i64 a0_0, .int .i64 a0_1, .slice A0_2 l0_2.length c0_2]] ?_; (with_reducible refine (spec_RasOk.calls k a0_0 a0_1 _ _ l0_2 false _ ?side1 ?side2 A6.out).mono ?_); (case side1 => repeat (first | exact (Kd.C_below HR0_2.out HB.out) | (with_reducible refine Kd.C_alloc ?_ _) | (with_reducible refine Kd.C_drewN ?_ _) | (with_reducible refine Kd.C_drew ?_))); (case side2 => exact HC0_2.out); rintro e w15 ⟨rfl, hb⟩; refine ⟨_, rfl, ?_⟩; replace b7 := yab (yah (upB b7.out) hb); replace b6 := yab (yah (upB b6.out) hb); replace HB := yab (yam (by repeat (with_reducible first | exact HB.out | apply yae | apply yac | apply yad | refine yaf ?_ (Aside0.out ‹_›))) hb); (try clear hb); (try clear hb2); (try clear hk); (try clear hi)))
   go_meet
   case rel => exact ⟨_, (true), (by first | rfl | (simp; done) | (simp [*]; done)), H', ⟨by first | omega | exact Nat.le_refl _⟩, ⟨by exact upB b7.out⟩, ⟨by exact upB b6.out⟩, ⟨by repeat (with_reducible first | exact HB.out | apply yae | apply yac | apply yad | refine yaf ?_ (Aside0.out ‹_›))⟩⟩
 case rest =>
  clear HC3; (try clear c1); (try clear c2); (try clear p2); (try clear c7); (try clear c9); (try clear c13); (try clear h0); (try clear h1); (try clear h2); (try clear h6); (try clear h7); (try clear h8); (try clear h3); (try clear h4); (try clear h5); (try clear h9); (try clear i0); (try clear i1); obtain ⟨kq, g9, rfl, HA, HJ2, b7, b6, HB⟩ := hcut
  cases kq with
  | zero => exact absurd HA.out (by simp [spec_OpsDo.j0])
  | succ kj2 =>
   have H := HA.out; clear HA
   simp only [spec_OpsDo.j0] at H
   by_cases c16 : g9 = true
   ·
    subst c16
    rw [if_pos rfl] at H
    simp only [Option.some.injEq, Prod.mk.injEq] at H
    obtain ⟨rfl, rfl, rfl, rfl⟩ := H; have u5 := e4.out; have u6 := e2.out; obtain ⟨i5, i6, i7⟩ := cc3_ b6.out; obtain ⟨i8, i9, j1⟩ := cf3_ b6.out
    go_wp2
    refine bodyPost_ret (results_ct rfl _ _ d1 25 #[.int .i64 0, .int .i64 0, .slice none 0 0] (0, 0) _ rfl (by (repeat refine oneB ?_); refine blk_put (cs := #[.int .i64 0, .int .i64 0, .slice none 0 0]) ?_ 2 _ rfl; refine blk_put (cs := #[.int .i64 0, .int .i64 0, .slice none 0 0]) ?_ 1 _ rfl; refine blk_put (cs := #[.int .i64 0, .int .i64 0, .slice none 0 0]) ?_ 0 _ rfl; exact upB b6.out) Try.underlying25 rfl (by kernel_rfl)) rfl ?_
    exact ⟨_, by first | rfl | (simp [*, errW_none, errW_some] <;> rfl), by first | exact Kd.R_nil _ _ _ _ _ | exact Kd.N_nil _ _ _ _ _ | exact Kd.V_nil _ _ _ _ _ | exact Kd.Q_nil _ _ _ _ _ | exact Kd.S_nil _ _ _ _ _, by repeat (with_reducible first | exact HB.out | apply yae | apply yac | apply yad | refine yaf ?_ (Aside0.out ‹_›))⟩
   ·
    replace c16 := Bool.eq_false_iff.mpr c16
    subst c16
    rw [if_neg (show ¬ (false = true) by decide)] at H
    replace H := Option.bind_eq_some_iff.mp H; obtain ⟨⟨i3, j2, j3⟩, l5, H⟩ := H; (try dsimp only at H); have A19 := yab l5; clear l5; have H' := yab H; clear H; have u7 := e2.out; have u8 := e4.out; obtain ⟨j4, j5, j6⟩ := cc3_ b7.out; obtain ⟨j7, j8, j9⟩ := cf3_ b7.out
    go_wp2_with (first | ((with_reducible refine gate_callee (f := 56) rfl ?_); refine gl_ (some 20) rfl Try.func56 #[.agg #[.int .i64 a0_0, .int .i64 a0_1, .slice A0_2 l0_2.length c0_2]] ?_; (with_reducible refine (spec_l3Copy.calls a0_0 a0_1 _ _ l0_2 i3 j2 j3 _ ?side1 ?side2 A19.out).mono ?_); (case side1 => repeat (first | exact (Kd.C_below HR0_2.out HB.out) | (with_reducible refine Kd.C_alloc ?_ _) | (with_reducible refine Kd.C_drewN ?_ _) | (with_reducible refine Kd.C_drew ?_))); (case side2 => exact HC0_2.out); rintro e w22 ⟨z6, rfl, ho0, hb⟩; refine ⟨_, rfl, ?_⟩; have i2 := yab (Kd.R_lower ho0 (yal (by repeat (with_reducible first | exact HB.out | apply yae | apply yac | apply yad | refine yaf ?_ (Aside0.out ‹_›))))); replace b7 := yab (yah (upB b7.out) hb); replace b6 := yab (yah (upB b6.out) hb); replace HB := yab (yam (by repeat (with_reducible first | exact HB.out | apply yae | apply yac | apply yad | refine yaf ?_ (Aside0.out ‹_›))) hb); (try clear hb); (try clear hb2); (try clear hk); (try clear hi); (try clear ho0)) | ((with_reducible refine gate_dst (N := 6) rfl ?_); refine bx_ 6 #[.int .i64 0, .int .i64 0, .slice none 0 0] 25 ?_; intro c3 hg w23 hbox hb; replace i2 := yab (Kd.R_below (upR i2.out) hb); have b0 := yab (hbox); have l6 := yab ((by rw [hg]; exact (yal (by repeat (with_reducible first | exact HB.out | apply yae | apply yac | apply yad | refine yaf ?_ (Aside0.out ‹_›)))) : w.heap.size ≤ c3)); replace HB := yab (yam (by repeat (with_reducible first | exact HB.out | apply yae | apply yac | apply yad | refine yaf ?_ (Aside0.out ‹_›))) hb); have u9 := l6; have e5 := yab ((by rw [hg]; exact Nat.ne_of_lt (blk_lt (upB b7.out)) : d4 ≠ c3)); replace b7 := yab (yah (upB b7.out) hb); have g1 := yab e5.out.symm; have e3 := yab ((by rw [hg]; exact Nat.ne_of_lt (blk_lt (upB b6.out)) : d1 ≠ c3)); replace b6 := yab (yah (upB b6.out) hb); have f5 := yab e3.out.symm; clear hb hbox hg; have v0 := g1.out; have v1 := e5.out; have v2 := f5.out; have v3 := e3.out; obtain ⟨k0, k1, k3⟩ := cc3_ b0.out; obtain ⟨k4, k5, k6⟩ := cf3_ b0.out; obtain ⟨l7, l8, t6⟩ := Kd.R_slice i2.out; subst t6))
    (try simp only [Act.put, List.setIfInBounds_toArray, List.set_cons_zero, List.set_cons_succ])
    go_loopg [7] kj2 (fun kq v7 w' => ∃ (a7 : Int) (d5 : Int) (d3 : Int) (b8 : Int) (b9 : Int) (a8 : List (S36)) (u111002 : Value), v7 = .int .i64 a7 ∧ yak (spec_OpsDo.l0 kq l1 a7 b8 b9 a8 = some (r1, r2, r3, r4)) ∧ yak (kq ≤ kj2) ∧ yak (Kd.R k36 36 w' w.heap.size (fun _ => True) u111002 a8) ∧ yak (w'.heap[d4]? = some (.cells #[.int .i64 a0_0, .int .i64 a0_1, (.slice A0_2 l0_2.length c0_2)] 25 (0, 0))) ∧ yak (w'.heap[d1]? = some (.cells #[.int .i64 d5, .int .i64 d3, (.slice none 0 0)] 25 (0, 0))) ∧ yak (w'.heap[c3]? = some (.cells #[.int .i64 b8, .int .i64 b9, u111002] 25 (0, 0))) ∧ yak (Below w.heap.size w w'))
    case atStart => exact ⟨(0), (0), (0), (i3), (j2), (j3), (.slice l7 j3.length l8), (by first | rfl | (simp; done) | (simp [*]; done)), H', ⟨Nat.le_refl _⟩, ⟨by (with_reducible repeat (first | apply Kd.R_alloc | apply Kd.R_drewN | apply Kd.R_drew)); exact Kd.R_mono (Kd.R_far (p := ⟨c3, 2, none⟩) (Kd.R_far (p := ⟨c3, 1, none⟩) (Kd.R_far (p := ⟨c3, 0, none⟩) (Kd.R_types i2.out b0.out (by decide)) (fun _ hk => hk.2) (.int .i64 i3)) (fun _ hk => hk.2) (.int .i64 j2)) (fun _ hk => hk.2) (.slice l7 j3.length l8)) (fun _ hk => trivial)⟩, ⟨by repeat (with_reducible first | exact b7.out | refine oneB ?_ | refine blk_far ?_ e5.out _)⟩, ⟨by repeat (with_reducible first | exact b6.out | refine oneB ?_ | refine blk_far ?_ e3.out _)⟩, ⟨by (repeat refine oneB ?_); refine blk_put (cs := #[.int .i64 i3, .int .i64 j2, .slice none 0 0]) ?_ 2 _ rfl; refine blk_put (cs := #[.int .i64 i3, .int .i64 0, .slice none 0 0]) ?_ 1 _ rfl; refine blk_put (cs := #[.int .i64 0, .int .i64 0, .slice none 0 0]) ?_ 0 _ rfl; exact upB b0.out⟩, ⟨by repeat (with_reducible first | exact HB.out | apply yae | apply yac | apply yad | refine yaf ?_ (Aside0.out ‹_›))⟩⟩
    case round =>
     clear H'; (try clear c1); (try clear c2); (try clear p2); (try clear c5); (try clear c7); (try clear c9); (try clear c13); (try clear c16); (try clear c17); (try clear c20); (try clear c24); (try clear c25); (try clear h0); (try clear h1); (try clear h2); (try clear h6); (try clear h7); (try clear h8); (try clear i5); (try clear i6); (try clear i7); (try clear j4); (try clear j5); (try clear j6); (try clear k0); (try clear k1); (try clear k3); (try clear h3); (try clear h4); (try clear h5); (try clear h9); (try clear i0); (try clear i1); (try clear i8); (try clear i9); (try clear j1); (try clear j7); (try clear j8); (try clear j9); (try clear k4); (try clear k5); (try clear k6); (try clear p2); obtain ⟨a7, d5, d3, b8, b9, a8, u111002, rfl, HA, HK2, a5, b7, b6, b0, HB⟩ := hrel
     cases gk with
     | zero => exact absurd HA.out (by simp [spec_OpsDo.l0])
     | succ k2 =>
      have H := HA.out; clear HA
      simp only [spec_OpsDo.l0] at H
      by_cases c28 : a7 < (l1.length : Int)
      ·
       rw [if_pos c28] at H
       have l9 : decide (a7 < (l1.length : Int)) = true := decide_eq_true c28; clear c28
       by_cases c29 : 0 ≤ a7
       ·
        rw [if_pos c29] at H
        have v4 : decide (0 ≤ a7) = true := decide_eq_true c29; clear c29; replace H := Option.bind_eq_some_iff.mp H; obtain ⟨⟨f6, f7, g3, t7⟩, m0, H⟩ := H; (try dsimp only at H); have A30 := yab m0; clear m0
        by_cases c31 : t7 = true
        ·
         subst c31
         rw [if_pos rfl] at H
         have H' := yab H; clear H; obtain ⟨f8, f9, t8⟩ := Kd.R_slice a5.out; subst t8
         try go_wp2
         replace a5 := yab (Kd.R_drew a5.out); replace b7 := yab (blk_drew b7.out); replace b6 := yab (blk_drew b6.out); replace b0 := yab (blk_drew b0.out); replace HB := yab (yad HB.out)
         have p111 : 0 ≤ (a7 : Int) := of_decide_eq_true (by first | (with_reducible assumption) | assumption)
         have q111 : a7 < (l1.length : Int) := of_decide_eq_true (by first | (with_reducible assumption) | assumption)
         obtain ⟨ad111, k8, d6, d7, d8, d9, e0⟩ := at_T27 HR1.out a7 p111 q111; have b1 := e0; have b2 := d9; have b3 := d8; have b4 := d7; have b5 := d6
         cases k8
         replace d6 := (HB.out.cell (World.block_lt_of_cell? w _ d6)).trans d6; replace d7 := (HB.out.cell (World.block_lt_of_cell? w _ d7)).trans d7; replace d8 := (HB.out.cell (World.block_lt_of_cell? w _ d8)).trans d8; replace d9 := (HB.out.cell (World.block_lt_of_cell? w _ d9)).trans d9; replace e0 := (HB.out.cell (World.block_lt_of_cell? w _ e0)).trans e0; replace p111 := eq_true p111; replace q111 := eq_true q111
         refine start_ (n := 12) (S := fun w' => w'.cell? ⟨c3, 0, none⟩ = some (.int .i64 b8) ∧ w'.cell? ⟨c3, 1, none⟩ = some (.int .i64 b9) ∧ w'.cell? ⟨c3, 2, none⟩ = some (.slice f8 a8.length f9) ∧ w'.cell? (ad111.add ((a7).toNat * 5)) = some (.int .i64 ((yai l1 a7).f0)) ∧ w'.cell? ⟨(ad111.add ((a7).toNat * 5)).block, (ad111.add ((a7).toNat * 5)).off + 1, none⟩ = some (.int .i64 ((yai l1 a7).f1)) ∧ w'.cell? ⟨(ad111.add ((a7).toNat * 5)).block, (ad111.add ((a7).toNat * 5)).off + 2, none⟩ = some (.int .i64 ((yai l1 a7).f2)) ∧ w'.cell? ⟨(ad111.add ((a7).toNat * 5)).block, (ad111.add ((a7).toNat * 5)).off + 3, none⟩ = some (.int .i64 ((yai l1 a7).f3)) ∧ w'.cell? ⟨(ad111.add ((a7).toNat * 5)).block, (ad111.add ((a7).toNat * 5)).off + 4, none⟩ = some (.int .i64 ((yai l1 a7).f4))) (ds := []) q28_0 (by kernel_rfl) rfl rfl ⟨(yaj b0.out 0).trans rfl, (yaj b0.out 1).trans rfl, (yaj b0.out 2).trans rfl, ((HB.out.cell (World.block_lt_of_cell? w _ b5)).trans b5), ((HB.out.cell (World.block_lt_of_cell? w _ b4)).trans b4), ((HB.out.cell (World.block_lt_of_cell? w _ b3)).trans b3), ((HB.out.cell (World.block_lt_of_cell? w _ b2)).trans b2), ((HB.out.cell (World.block_lt_of_cell? w _ b1)).trans b1)⟩ (fun hHeld => ?_); refine with_tabW spec_OpsDo.tab7 spec_OpsDo.bits7 (fun HT_ HW_ => ?_)
         generalize wr.drew = w33 at a5 b7 b6 b0 HB d6 d7 d8 d9 e0 hHeld ⊢
         refine pz_ 1 29 q28_1 HT_ (by kernel_rfl) ?_
         refine pz_ 2 30 q28_2 HT_ (by kernel_rfl) ?_
         refine pz_ 3 31 q28_3 HT_ (by kernel_rfl) ?_
         refine tz_ 0 28 q28_4 HT_ HW_ (by kernel_rfl) hHeld ?_
         refine tz_ 4 32 q28_5 HT_ HW_ (by kernel_rfl) hHeld ?_
         refine join_ (σ := Value × Nat) 2 q28_6 (fun s_ => [(33, .tuple #[.agg #[.int .i64 f6, .int .i64 f7, s_.1], .bool true]), (8, .pointer (some ⟨s_.2, 0, none⟩)), (27, .tuple #[.agg #[.int .i64 f6, .int .i64 f7, s_.1], .bool true]), (34, .agg #[.int .i64 f6, .int .i64 f7, s_.1]), (35, .bool true)]) (fun s_ w' => (w'.cell? ⟨c3, 0, none⟩ = some (.int .i64 b8) ∧ w'.cell? ⟨c3, 1, none⟩ = some (.int .i64 b9) ∧ w'.cell? ⟨c3, 2, none⟩ = some (.slice f8 a8.length f9) ∧ w'.cell? (ad111.add ((a7).toNat * 5)) = some (.int .i64 ((yai l1 a7).f0)) ∧ w'.cell? ⟨(ad111.add ((a7).toNat * 5)).block, (ad111.add ((a7).toNat * 5)).off + 1, none⟩ = some (.int .i64 ((yai l1 a7).f1)) ∧ w'.cell? ⟨(ad111.add ((a7).toNat * 5)).block, (ad111.add ((a7).toNat * 5)).off + 2, none⟩ = some (.int .i64 ((yai l1 a7).f2)) ∧ w'.cell? ⟨(ad111.add ((a7).toNat * 5)).block, (ad111.add ((a7).toNat * 5)).off + 3, none⟩ = some (.int .i64 ((yai l1 a7).f3)) ∧ w'.cell? ⟨(ad111.add ((a7).toNat * 5)).block, (ad111.add ((a7).toNat * 5)).off + 4, none⟩ = some (.int .i64 ((yai l1 a7).f4))) ∧ (Kd.R k36 36 w' w.heap.size (fun k_ => some k_ ≠ (.slice f8 a8.length f9 : Value).ownBlock) s_.1 g3) ∧ (Kd.R k36 36 w' w.heap.size (fun k_ => some k_ ≠ (s_.1 : Value).ownBlock) (.slice f8 a8.length f9) a8) ∧ (w'.heap[d4]? = some (.cells #[.int .i64 a0_0, .int .i64 a0_1, .slice A0_2 l0_2.length c0_2] 25 (0, 0))) ∧ (w'.heap[d1]? = some (.cells #[.int .i64 d5, .int .i64 d3, .slice none 0 0] 25 (0, 0))) ∧ (w'.heap[c3]? = some (.cells #[.int .i64 b8, .int .i64 b9, .slice f8 a8.length f9] 25 (0, 0))) ∧ (w'.heap[s_.2]? = some (.cells #[.int .i64 0, .int .i64 0, .slice none 0 0] 25 (0, 0))) ∧ (w.heap.size ≤ s_.2) ∧ (w.heap.size ≤ s_.2) ∧ (d4 ≠ s_.2) ∧ (s_.2 ≠ d4) ∧ (d1 ≠ s_.2) ∧ (s_.2 ≠ d1) ∧ (c3 ≠ s_.2) ∧ (s_.2 ≠ c3) ∧ (Below w.heap.size w w')) ?_ ?_
         rotate_left
         ·
          intro hCont
          refine two_ (i := 5) (j := 9) (Ni := some 33) (Nj := some 8) q28_7 q28_8 rfl rfl rfl rfl (two_of HT_.out (by kernel_rfl)) (by decide) (by decide) (fun K hK => ?_) (fun K hK => ?_)
          ·
           skip
           refine goes_ Try.func39 (by kernel_rfl) rfl #[.agg #[.int .i64 b8, .int .i64 b9, .slice f8 a8.length f9], .agg #[.int .i64 ((yai l1 a7).f0), .int .i64 ((yai l1 a7).f1), .int .i64 ((yai l1 a7).f2), .int .i64 ((yai l1 a7).f3), .int .i64 ((yai l1 a7).f4)]] (by rfl) rfl rfl (by (try simp only [List.map_toArray, List.map_cons, List.map_nil]); first | done | rfl | (simp only [List.length_drop, List.length_take]; rfl)) ?_
           with_reducible refine (spec_l6Do.calls k2 b8 b9 _ _ a8 ((yai l1 a7).f0) ((yai l1 a7).f1) ((yai l1 a7).f2) ((yai l1 a7).f3) ((yai l1 a7).f4) f6 f7 g3 true _ ?side1 ?side2 A30.out).mono ?_
           (case side1 => repeat (first | exact (Kd.R_reads' a5.out).2.2 | (with_reducible refine Kd.C_alloc ?_ _) | (with_reducible refine Kd.C_drewN ?_ _) | (with_reducible refine Kd.C_drew ?_)))
           (case side2 => exact (Kd.R_reads' a5.out).2.1)
           rintro e w34 ⟨g2, rfl, ho0, hb⟩; refine ⟨_, rfl, ?_⟩; have n0_ := yab (Kd.R_elder' (upR a5.out) (Kd.R_base ho0) hb)
           have n1_ := yab (Kd.R_lower (Kd.R_new' ho0 (Kd.R_lt (upR a5.out))) (yal (by repeat (with_reducible first | exact HB.out | apply yae | apply yac | apply yad | refine yaf ?_ (Aside0.out ‹_›)))))
           have n2_ := yab (yah (upB b7.out) hb); have n3_ := yab (yah (upB b6.out) hb); have n4_ := yab (yah (upB b0.out) hb)
           have n5_ := yab (yam (by repeat (with_reducible first | exact HB.out | apply yae | apply yac | apply yad | refine yaf ?_ (Aside0.out ‹_›))) hb)
           clear a5; clear b7; clear b6; clear b0; clear HB; have a5 := n0_; have e1 := n1_; have b7 := n2_; have b6 := n3_; have b0 := n4_; have HB := n5_; clear n0_ n1_ n2_ n3_ n4_ n5_; (try clear hb); (try clear hb2); (try clear hk); (try clear hi); (try clear ho0)
           refine hK.out _ _ ⟨(yaj b0.out 0).trans rfl, (yaj b0.out 1).trans rfl, (yaj b0.out 2).trans rfl, ((HB.out.cell (World.block_lt_of_cell? w _ b5)).trans b5), ((HB.out.cell (World.block_lt_of_cell? w _ b4)).trans b4), ((HB.out.cell (World.block_lt_of_cell? w _ b3)).trans b3), ((HB.out.cell (World.block_lt_of_cell? w _ b2)).trans b2), ((HB.out.cell (World.block_lt_of_cell? w _ b1)).trans b1)⟩ (fun hHeld => ?_)
           clear hK K
           refine norm_ (a' := ?_) ?_ ?_
           rotate_left
           ·
            show Act.put _ (some 33) _ = _
            simp only [Act.put, List.setIfInBounds_toArray, List.set_cons_zero, List.set_cons_succ, i64_w, i32_w]
            rfl
           refine pz_ 6 27 q28_9 HT_ (by kernel_rfl) ?_
           refine pz_ 7 34 q28_10 HT_ (by kernel_rfl) ?_
           refine pz_ 8 35 q28_11 HT_ (by kernel_rfl) ?_
           refine one_ (i := 9) (N := some 8) q28_6 rfl rfl (one_of HT_.out (by kernel_rfl)) (by decide) (fun K hK => ?_)
           refine box_step ?hg (N := 8) ?hd (cs := #[.int .i64 0, .int .i64 0, .slice none 0 0]) (t := 25) ?hr ?_; (case hd => rfl); (case hg => rfl); (case hr => first | (go_simp; done) | (go_simp; rfl))
           intro a6 hg w35 hbox hb; have n0_ := yab (Kd.R_below (upR a5.out) hb); have n1_ := yab (Kd.R_below (upR e1.out) hb); have n2_ := yab (yah (upB b7.out) hb); have n3_ := yab (yah (upB b6.out) hb); have n4_ := yab (yah (upB b0.out) hb)
           have n5_ := yab (yam (by repeat (with_reducible first | exact HB.out | apply yae | apply yac | apply yad | refine yaf ?_ (Aside0.out ‹_›))) hb)
           have n6_ := yab (hbox)
           have n7_ := yab ((by rw [hg]; exact (yal (by repeat (with_reducible first | exact HB.out | apply yae | apply yac | apply yad | refine yaf ?_ (Aside0.out ‹_›)))) : w.heap.size ≤ a6))
           have n8_ := yab ((by rw [hg]; exact (yal (by repeat (with_reducible first | exact HB.out | apply yae | apply yac | apply yad | refine yaf ?_ (Aside0.out ‹_›)))) : w.heap.size ≤ a6))
           have n9_ := yab ((by rw [hg]; exact Nat.ne_of_lt (blk_lt (upB b7.out)) : d4 ≠ a6)); have e6 := yab ((by rw [hg]; exact Nat.ne_of_gt (blk_lt (upB b7.out)) : a6 ≠ d4)); have e7 := yab ((by rw [hg]; exact Nat.ne_of_lt (blk_lt (upB b6.out)) : d1 ≠ a6)); have e8 := yab ((by rw [hg]; exact Nat.ne_of_gt (blk_lt (upB b6.out)) : a6 ≠ d1)); have e9 := yab ((by rw [hg]; exact Nat.ne_of_lt (blk_lt (upB b0.out)) : c3 ≠ a6)); have g4 := yab ((by rw [hg]; exact Nat.ne_of_gt (blk_lt (upB b0.out)) : a6 ≠ c3)); clear a5; clear e1; clear b7; clear b6; clear b0; clear HB; have a5 := n0_; have e1 := n1_; have b7 := n2_; have b6 := n3_; have b0 := n4_; have HB := n5_; have d2 := n6_; have a4 := n7_; have g0 := n8_; have c4 := n9_; have c8 := e6; have c0 := e7; have c6 := e8; have a9 := e9; have d0 := g4; clear n0_ n1_ n2_ n3_ n4_ n5_ n6_ n7_ n8_ n9_ e6 e7 e8 e9 g4; clear hb hbox hg
           refine hK.out _ _ ⟨(yaj b0.out 0).trans rfl, (yaj b0.out 1).trans rfl, (yaj b0.out 2).trans rfl, ((HB.out.cell (World.block_lt_of_cell? w _ b5)).trans b5), ((HB.out.cell (World.block_lt_of_cell? w _ b4)).trans b4), ((HB.out.cell (World.block_lt_of_cell? w _ b3)).trans b3), ((HB.out.cell (World.block_lt_of_cell? w _ b2)).trans b2), ((HB.out.cell (World.block_lt_of_cell? w _ b1)).trans b1)⟩ (fun hHeld => ?_)
           clear hK K
           refine norm_ (a' := ?_) ?_ ?_
           rotate_left
           ·
            show Act.put _ (some 8) _ = _
            simp only [Act.put, List.setIfInBounds_toArray, List.set_cons_zero, List.set_cons_succ, i64_w, i32_w]
            rfl
           exact norm_ (by simp only [putAll, Act.put, List.setIfInBounds_toArray, List.set_cons_zero, List.set_cons_succ]) (hCont (g2, a6) _ ⟨hHeld, (by (with_reducible repeat (first | apply Kd.R_alloc | apply Kd.R_drewN | apply Kd.R_drew)); exact Kd.R_mono e1.out (fun _ hk => by first | exact hk.2 | exact True.intro)), (by (with_reducible repeat (first | apply Kd.R_alloc | apply Kd.R_drewN | apply Kd.R_drew)); exact Kd.R_mono a5.out (fun _ hk => by first | exact hk.2 | exact True.intro)), (upB b7.out), (upB b6.out), (upB b0.out), (upB d2.out), a4.out, g0.out, c4.out, c8.out, c0.out, c6.out, a9.out, d0.out, (by repeat (with_reducible first | exact HB.out | apply yae | apply yac | apply yad | refine yaf ?_ (Aside0.out ‹_›)))⟩)
          ·
           skip
           refine box_step ?hg (N := 8) ?hd (cs := #[.int .i64 0, .int .i64 0, .slice none 0 0]) (t := 25) ?hr ?_; (case hd => rfl); (case hg => rfl); (case hr => first | (go_simp; done) | (go_simp; rfl))
           intro a6 hg w34 hbox hb; have n0_ := yab (Kd.R_below (upR a5.out) hb); have n1_ := yab (yah (upB b7.out) hb); have n2_ := yab (yah (upB b6.out) hb); have n3_ := yab (yah (upB b0.out) hb)
           have n4_ := yab (yam (by repeat (with_reducible first | exact HB.out | apply yae | apply yac | apply yad | refine yaf ?_ (Aside0.out ‹_›))) hb)
           have n5_ := yab (hbox)
           have n6_ := yab ((by rw [hg]; exact (yal (by repeat (with_reducible first | exact HB.out | apply yae | apply yac | apply yad | refine yaf ?_ (Aside0.out ‹_›)))) : w.heap.size ≤ a6))
           have n7_ := yab ((by rw [hg]; exact (yal (by repeat (with_reducible first | exact HB.out | apply yae | apply yac | apply yad | refine yaf ?_ (Aside0.out ‹_›)))) : w.heap.size ≤ a6))
           have n8_ := yab ((by rw [hg]; exact Nat.ne_of_lt (blk_lt (upB b7.out)) : d4 ≠ a6)); have n9_ := yab ((by rw [hg]; exact Nat.ne_of_gt (blk_lt (upB b7.out)) : a6 ≠ d4)); have e6 := yab ((by rw [hg]; exact Nat.ne_of_lt (blk_lt (upB b6.out)) : d1 ≠ a6)); have e7 := yab ((by rw [hg]; exact Nat.ne_of_gt (blk_lt (upB b6.out)) : a6 ≠ d1)); have e8 := yab ((by rw [hg]; exact Nat.ne_of_lt (blk_lt (upB b0.out)) : c3 ≠ a6)); have e9 := yab ((by rw [hg]; exact Nat.ne_of_gt (blk_lt (upB b0.out)) : a6 ≠ c3)); clear a5; clear b7; clear b6; clear b0; clear HB; have a5 := n0_; have b7 := n1_; have b6 := n2_; have b0 := n3_; have HB := n4_; have d2 := n5_; have a4 := n6_; have g0 := n7_; have c4 := n8_; have c8 := n9_; have c0 := e6; have c6 := e7; have a9 := e8; have d0 := e9; clear n0_ n1_ n2_ n3_ n4_ n5_ n6_ n7_ n8_ n9_ e6 e7 e8 e9; clear hb hbox hg
           refine hK.out _ _ ⟨(yaj b0.out 0).trans rfl, (yaj b0.out 1).trans rfl, (yaj b0.out 2).trans rfl, ((HB.out.cell (World.block_lt_of_cell? w _ b5)).trans b5), ((HB.out.cell (World.block_lt_of_cell? w _ b4)).trans b4), ((HB.out.cell (World.block_lt_of_cell? w _ b3)).trans b3), ((HB.out.cell (World.block_lt_of_cell? w _ b2)).trans b2), ((HB.out.cell (World.block_lt_of_cell? w _ b1)).trans b1)⟩ (fun hHeld => ?_)
           clear hK K
           refine norm_ (a' := ?_) ?_ ?_
           rotate_left
           ·
            show Act.put _ (some 8) _ = _
            simp only [Act.put, List.setIfInBounds_toArray, List.set_cons_zero, List.set_cons_succ, i64_w, i32_w]
            rfl
           refine one_ (i := 5) (N := some 33) q28_12 rfl rfl (one_of HT_.out (by kernel_rfl)) (by decide) (fun K hK => ?_)
           refine goes_ Try.func39 (by kernel_rfl) rfl #[.agg #[.int .i64 b8, .int .i64 b9, .slice f8 a8.length f9], .agg #[.int .i64 ((yai l1 a7).f0), .int .i64 ((yai l1 a7).f1), .int .i64 ((yai l1 a7).f2), .int .i64 ((yai l1 a7).f3), .int .i64 ((yai l1 a7).f4)]] (by rfl) rfl rfl (by (try simp only [List.map_toArray, List.map_cons, List.map_nil]); first | done | rfl | (simp only [List.length_drop, List.length_take]; rfl)) ?_
           with_reducible refine (spec_l6Do.calls k2 b8 b9 _ _ a8 ((yai l1 a7).f0) ((yai l1 a7).f1) ((yai l1 a7).f2) ((yai l1 a7).f3) ((yai l1 a7).f4) f6 f7 g3 true _ ?side1 ?side2 A30.out).mono ?_
           (case side1 => repeat (first | exact (Kd.R_reads' a5.out).2.2 | (with_reducible refine Kd.C_alloc ?_ _) | (with_reducible refine Kd.C_drewN ?_ _) | (with_reducible refine Kd.C_drew ?_)))
           (case side2 => exact (Kd.R_reads' a5.out).2.1)
           rintro e w35 ⟨g2, rfl, ho0, hb⟩; refine ⟨_, rfl, ?_⟩; have n0_ := yab (Kd.R_elder' (upR a5.out) (Kd.R_base ho0) hb)
           have n1_ := yab (Kd.R_lower (Kd.R_new' ho0 (Kd.R_lt (upR a5.out))) (yal (by repeat (with_reducible first | exact HB.out | apply yae | apply yac | apply yad | refine yaf ?_ (Aside0.out ‹_›)))))
           have n2_ := yab (yah (upB b7.out) hb); have n3_ := yab (yah (upB b6.out) hb); have n4_ := yab (yah (upB b0.out) hb); have n5_ := yab (yah (upB d2.out) hb)
           have n6_ := yab (yam (by repeat (with_reducible first | exact HB.out | apply yae | apply yac | apply yad | refine yaf ?_ (Aside0.out ‹_›))) hb)
           clear a5; clear b7; clear b6; clear b0; clear d2; clear HB; have a5 := n0_; have e1 := n1_; have b7 := n2_; have b6 := n3_; have b0 := n4_; have d2 := n5_; have HB := n6_; clear n0_ n1_ n2_ n3_ n4_ n5_ n6_; (try clear hb); (try clear hb2); (try clear hk); (try clear hi); (try clear ho0)
           refine hK.out _ _ ⟨(yaj b0.out 0).trans rfl, (yaj b0.out 1).trans rfl, (yaj b0.out 2).trans rfl, ((HB.out.cell (World.block_lt_of_cell? w _ b5)).trans b5), ((HB.out.cell (World.block_lt_of_cell? w _ b4)).trans b4), ((HB.out.cell (World.block_lt_of_cell? w _ b3)).trans b3), ((HB.out.cell (World.block_lt_of_cell? w _ b2)).trans b2), ((HB.out.cell (World.block_lt_of_cell? w _ b1)).trans b1)⟩ (fun hHeld => ?_)
           clear hK K
           refine norm_ (a' := ?_) ?_ ?_
           rotate_left
           ·
            show Act.put _ (some 33) _ = _
            simp only [Act.put, List.setIfInBounds_toArray, List.set_cons_zero, List.set_cons_succ, i64_w, i32_w]
            rfl
           refine pz_ 6 27 q28_13 HT_ (by kernel_rfl) ?_
           refine pz_ 7 34 q28_14 HT_ (by kernel_rfl) ?_
           refine pz_ 8 35 q28_6 HT_ (by kernel_rfl) ?_
           exact norm_ (by simp only [putAll, Act.put, List.setIfInBounds_toArray, List.set_cons_zero, List.set_cons_succ]) (hCont (g2, a6) _ ⟨hHeld, (by (with_reducible repeat (first | apply Kd.R_alloc | apply Kd.R_drewN | apply Kd.R_drew)); exact Kd.R_mono e1.out (fun _ hk => by first | exact hk.2 | exact True.intro)), (by (with_reducible repeat (first | apply Kd.R_alloc | apply Kd.R_drewN | apply Kd.R_drew)); exact Kd.R_mono a5.out (fun _ hk => by first | exact hk.2 | exact True.intro)), (upB b7.out), (upB b6.out), (upB b0.out), (upB d2.out), a4.out, g0.out, c4.out, c8.out, c0.out, c6.out, a9.out, d0.out, (by repeat (with_reducible first | exact HB.out | apply yae | apply yac | apply yad | refine yaf ?_ (Aside0.out ‹_›)))⟩)
         rintro ⟨g2, a6⟩ w36 ⟨hS_, h0_, h1_, h2_, h3_, h4_, h5_, h6_, h7_, h8_, h9_, h10_, h11_, h12_, h13_, h14_⟩; have n0_ : yak (Kd.R k36 36 w36 w.heap.size (fun k_ => some k_ ≠ (.slice f8 a8.length f9 : Value).ownBlock) g2 g3) := ⟨h0_⟩; have n1_ : yak (Kd.R k36 36 w36 w.heap.size (fun k_ => some k_ ≠ (g2 : Value).ownBlock) (.slice f8 a8.length f9) a8) := ⟨h1_⟩; have n2_ : yak (w36.heap[d4]? = some (.cells #[.int .i64 a0_0, .int .i64 a0_1, .slice A0_2 l0_2.length c0_2] 25 (0, 0))) := ⟨h2_⟩; have n3_ : yak (w36.heap[d1]? = some (.cells #[.int .i64 d5, .int .i64 d3, .slice none 0 0] 25 (0, 0))) := ⟨h3_⟩; have n4_ : yak (w36.heap[c3]? = some (.cells #[.int .i64 b8, .int .i64 b9, .slice f8 a8.length f9] 25 (0, 0))) := ⟨h4_⟩; have n5_ : yak (w36.heap[a6]? = some (.cells #[.int .i64 0, .int .i64 0, .slice none 0 0] 25 (0, 0))) := ⟨h5_⟩; have n6_ : yak (w.heap.size ≤ a6) := ⟨h6_⟩; have n7_ : yak (w.heap.size ≤ a6) := ⟨h7_⟩; have n8_ : yak (d4 ≠ a6) := ⟨h8_⟩; have n9_ : yak (a6 ≠ d4) := ⟨h9_⟩; have e6 : yak (d1 ≠ a6) := ⟨h10_⟩; have e7 : yak (a6 ≠ d1) := ⟨h11_⟩; have e8 : yak (c3 ≠ a6) := ⟨h12_⟩; have e9 : yak (a6 ≠ c3) := ⟨h13_⟩; have g4 : yak (Below w.heap.size w w36) := ⟨h14_⟩; clear a5; clear b7; clear b6; clear b0; clear HB; clear h0_ h1_ h2_ h3_ h4_ h5_ h6_ h7_ h8_ h9_ h10_ h11_ h12_ h13_ h14_; have e1 := n0_; have a5 := n1_; have b7 := n2_; have b6 := n3_; have b0 := n4_; have d2 := n5_; have a4 := n6_; have g0 := n7_; have c4 := n8_; have c8 := n9_; have c0 := e6; have c6 := e7; have a9 := e8; have d0 := e9; have HB := g4; clear n0_ n1_ n2_ n3_ n4_ n5_ n6_ n7_ n8_ n9_ e6 e7 e8 e9 g4; have hHeld : w36.cell? ⟨c3, 0, none⟩ = some (.int .i64 b8) ∧ w36.cell? ⟨c3, 1, none⟩ = some (.int .i64 b9) ∧ w36.cell? ⟨c3, 2, none⟩ = some (.slice f8 a8.length f9) ∧ w36.cell? (ad111.add ((a7).toNat * 5)) = some (.int .i64 ((yai l1 a7).f0)) ∧ w36.cell? ⟨(ad111.add ((a7).toNat * 5)).block, (ad111.add ((a7).toNat * 5)).off + 1, none⟩ = some (.int .i64 ((yai l1 a7).f1)) ∧ w36.cell? ⟨(ad111.add ((a7).toNat * 5)).block, (ad111.add ((a7).toNat * 5)).off + 2, none⟩ = some (.int .i64 ((yai l1 a7).f2)) ∧ w36.cell? ⟨(ad111.add ((a7).toNat * 5)).block, (ad111.add ((a7).toNat * 5)).off + 3, none⟩ = some (.int .i64 ((yai l1 a7).f3)) ∧ w36.cell? ⟨(ad111.add ((a7).toNat * 5)).block, (ad111.add ((a7).toNat * 5)).off + 4, none⟩ = some (.int .i64 ((yai l1 a7).f4)) := hS_; obtain ⟨k9, l2, m1⟩ := Kd.R_slice e1.out
         (first | subst m1 | (injection m1 with f1_ f2_ f3_; have f4_ := f1_.symm; have f5_ := f3_.symm; clear f1_ f2_ f3_; subst f4_; subst f5_))
         refine norm_ (a' := ?_) ?_ ?_
         rotate_left
         ·
          simp only [putAll, Act.put, List.setIfInBounds_toArray, List.set_cons_zero, List.set_cons_succ]
          rfl
         refine one_ (i := 10) (N := none) q28_15 rfl rfl (one_of HT_.out (by kernel_rfl)) (by decide) (fun K hK => ?_)
         have z7 : w36.cell? ⟨a6, 0, none⟩ = some (.int .i64 0) := (yaj d2.out 0).trans rfl; have v5 := blk_frozen d2.out 0; have m5 := c4.out; have m6 := c0.out; have m7 := a9.out; have m8 := c8.out; have m9 := c6.out; have n0 := d0.out; have z8 : w36.cell? ⟨a6, 1, none⟩ = some (.int .i64 0) := (yaj d2.out 1).trans rfl; have v6 := blk_frozen d2.out 1; have n1 := c4.out; have n2 := c0.out; have n3 := a9.out; have n4 := c8.out; have n5 := c6.out; have n6 := d0.out; have z9 : w36.cell? ⟨a6, 2, none⟩ = some (.slice none 0 0) := (yaj d2.out 2).trans rfl; have v8 := blk_frozen d2.out 2; have n7 := c4.out; have n8 := c0.out; have n9 := a9.out; have o0 := c8.out; have o1 := c6.out; have o2 := d0.out
         refine skip_ (w1 := ?_) (by rfl) rfl ?_ ?_
         rotate_left
         ·
          go_simp
          rfl
         refine hK.out _ _ ⟨((yag (p := ⟨a6, _, none⟩) a9.out _).trans (((yag (p := ⟨a6, _, none⟩) a9.out _).trans (((yag (p := ⟨a6, _, none⟩) a9.out _).trans (hHeld.1)))))), ((yag (p := ⟨a6, _, none⟩) a9.out _).trans (((yag (p := ⟨a6, _, none⟩) a9.out _).trans (((yag (p := ⟨a6, _, none⟩) a9.out _).trans (hHeld.2.1)))))), ((yag (p := ⟨a6, _, none⟩) a9.out _).trans (((yag (p := ⟨a6, _, none⟩) a9.out _).trans (((yag (p := ⟨a6, _, none⟩) a9.out _).trans (hHeld.2.2.1)))))), ((yag (p := ⟨a6, _, none⟩) (by first | exact Nat.ne_of_lt (Nat.lt_of_lt_of_le (by have := World.block_lt_of_cell? _ _ b5; first | rwa [yaa] at this | exact this) a4.out) | (rw [yaa]; exact Nat.ne_of_lt (Nat.lt_of_lt_of_le (by have := World.block_lt_of_cell? _ _ b5; first | rwa [yaa] at this | exact this) a4.out)) | (show (Addr.add _ _).block ≠ _; rw [yaa]; exact Nat.ne_of_lt (Nat.lt_of_lt_of_le (by have := World.block_lt_of_cell? _ _ b5; first | rwa [yaa] at this | exact this) a4.out)) | (dsimp only; exact Nat.ne_of_lt (Nat.lt_of_lt_of_le (by have := World.block_lt_of_cell? _ _ b5; first | rwa [yaa] at this | exact this) a4.out))) _).trans (((yag (p := ⟨a6, _, none⟩) (by first | exact Nat.ne_of_lt (Nat.lt_of_lt_of_le (by have := World.block_lt_of_cell? _ _ b5; first | rwa [yaa] at this | exact this) a4.out) | (rw [yaa]; exact Nat.ne_of_lt (Nat.lt_of_lt_of_le (by have := World.block_lt_of_cell? _ _ b5; first | rwa [yaa] at this | exact this) a4.out)) | (show (Addr.add _ _).block ≠ _; rw [yaa]; exact Nat.ne_of_lt (Nat.lt_of_lt_of_le (by have := World.block_lt_of_cell? _ _ b5; first | rwa [yaa] at this | exact this) a4.out)) | (dsimp only; exact Nat.ne_of_lt (Nat.lt_of_lt_of_le (by have := World.block_lt_of_cell? _ _ b5; first | rwa [yaa] at this | exact this) a4.out))) _).trans (((yag (p := ⟨a6, _, none⟩) (by first | exact Nat.ne_of_lt (Nat.lt_of_lt_of_le (by have := World.block_lt_of_cell? _ _ b5; first | rwa [yaa] at this | exact this) a4.out) | (rw [yaa]; exact Nat.ne_of_lt (Nat.lt_of_lt_of_le (by have := World.block_lt_of_cell? _ _ b5; first | rwa [yaa] at this | exact this) a4.out)) | (show (Addr.add _ _).block ≠ _; rw [yaa]; exact Nat.ne_of_lt (Nat.lt_of_lt_of_le (by have := World.block_lt_of_cell? _ _ b5; first | rwa [yaa] at this | exact this) a4.out)) | (dsimp only; exact Nat.ne_of_lt (Nat.lt_of_lt_of_le (by have := World.block_lt_of_cell? _ _ b5; first | rwa [yaa] at this | exact this) a4.out))) _).trans (hHeld.2.2.2.1)))))), ((yag (p := ⟨a6, _, none⟩) (by first | exact Nat.ne_of_lt (Nat.lt_of_lt_of_le (by have := World.block_lt_of_cell? _ _ b4; first | rwa [yaa] at this | exact this) a4.out) | (rw [yaa]; exact Nat.ne_of_lt (Nat.lt_of_lt_of_le (by have := World.block_lt_of_cell? _ _ b4; first | rwa [yaa] at this | exact this) a4.out)) | (show (Addr.add _ _).block ≠ _; rw [yaa]; exact Nat.ne_of_lt (Nat.lt_of_lt_of_le (by have := World.block_lt_of_cell? _ _ b4; first | rwa [yaa] at this | exact this) a4.out)) | (dsimp only; exact Nat.ne_of_lt (Nat.lt_of_lt_of_le (by have := World.block_lt_of_cell? _ _ b4; first | rwa [yaa] at this | exact this) a4.out))) _).trans (((yag (p := ⟨a6, _, none⟩) (by first | exact Nat.ne_of_lt (Nat.lt_of_lt_of_le (by have := World.block_lt_of_cell? _ _ b4; first | rwa [yaa] at this | exact this) a4.out) | (rw [yaa]; exact Nat.ne_of_lt (Nat.lt_of_lt_of_le (by have := World.block_lt_of_cell? _ _ b4; first | rwa [yaa] at this | exact this) a4.out)) | (show (Addr.add _ _).block ≠ _; rw [yaa]; exact Nat.ne_of_lt (Nat.lt_of_lt_of_le (by have := World.block_lt_of_cell? _ _ b4; first | rwa [yaa] at this | exact this) a4.out)) | (dsimp only; exact Nat.ne_of_lt (Nat.lt_of_lt_of_le (by have := World.block_lt_of_cell? _ _ b4; first | rwa [yaa] at this | exact this) a4.out))) _).trans (((yag (p := ⟨a6, _, none⟩) (by first | exact Nat.ne_of_lt (Nat.lt_of_lt_of_le (by have := World.block_lt_of_cell? _ _ b4; first | rwa [yaa] at this | exact this) a4.out) | (rw [yaa]; exact Nat.ne_of_lt (Nat.lt_of_lt_of_le (by have := World.block_lt_of_cell? _ _ b4; first | rwa [yaa] at this | exact this) a4.out)) | (show (Addr.add _ _).block ≠ _; rw [yaa]; exact Nat.ne_of_lt (Nat.lt_of_lt_of_le (by have := World.block_lt_of_cell? _ _ b4; first | rwa [yaa] at this | exact this) a4.out)) | (dsimp only; exact Nat.ne_of_lt (Nat.lt_of_lt_of_le (by have := World.block_lt_of_cell? _ _ b4; first | rwa [yaa] at this | exact this) a4.out))) _).trans (hHeld.2.2.2.2.1)))))), ((yag (p := ⟨a6, _, none⟩) (by first | exact Nat.ne_of_lt (Nat.lt_of_lt_of_le (by have := World.block_lt_of_cell? _ _ b3; first | rwa [yaa] at this | exact this) a4.out) | (rw [yaa]; exact Nat.ne_of_lt (Nat.lt_of_lt_of_le (by have := World.block_lt_of_cell? _ _ b3; first | rwa [yaa] at this | exact this) a4.out)) | (show (Addr.add _ _).block ≠ _; rw [yaa]; exact Nat.ne_of_lt (Nat.lt_of_lt_of_le (by have := World.block_lt_of_cell? _ _ b3; first | rwa [yaa] at this | exact this) a4.out)) | (dsimp only; exact Nat.ne_of_lt (Nat.lt_of_lt_of_le (by have := World.block_lt_of_cell? _ _ b3; first | rwa [yaa] at this | exact this) a4.out))) _).trans (((yag (p := ⟨a6, _, none⟩) (by first | exact Nat.ne_of_lt (Nat.lt_of_lt_of_le (by have := World.block_lt_of_cell? _ _ b3; first | rwa [yaa] at this | exact this) a4.out) | (rw [yaa]; exact Nat.ne_of_lt (Nat.lt_of_lt_of_le (by have := World.block_lt_of_cell? _ _ b3; first | rwa [yaa] at this | exact this) a4.out)) | (show (Addr.add _ _).block ≠ _; rw [yaa]; exact Nat.ne_of_lt (Nat.lt_of_lt_of_le (by have := World.block_lt_of_cell? _ _ b3; first | rwa [yaa] at this | exact this) a4.out)) | (dsimp only; exact Nat.ne_of_lt (Nat.lt_of_lt_of_le (by have := World.block_lt_of_cell? _ _ b3; first | rwa [yaa] at this | exact this) a4.out))) _).trans (((yag (p := ⟨a6, _, none⟩) (by first | exact Nat.ne_of_lt (Nat.lt_of_lt_of_le (by have := World.block_lt_of_cell? _ _ b3; first | rwa [yaa] at this | exact this) a4.out) | (rw [yaa]; exact Nat.ne_of_lt (Nat.lt_of_lt_of_le (by have := World.block_lt_of_cell? _ _ b3; first | rwa [yaa] at this | exact this) a4.out)) | (show (Addr.add _ _).block ≠ _; rw [yaa]; exact Nat.ne_of_lt (Nat.lt_of_lt_of_le (by have := World.block_lt_of_cell? _ _ b3; first | rwa [yaa] at this | exact this) a4.out)) | (dsimp only; exact Nat.ne_of_lt (Nat.lt_of_lt_of_le (by have := World.block_lt_of_cell? _ _ b3; first | rwa [yaa] at this | exact this) a4.out))) _).trans (hHeld.2.2.2.2.2.1)))))), ((yag (p := ⟨a6, _, none⟩) (by first | exact Nat.ne_of_lt (Nat.lt_of_lt_of_le (by have := World.block_lt_of_cell? _ _ b2; first | rwa [yaa] at this | exact this) a4.out) | (rw [yaa]; exact Nat.ne_of_lt (Nat.lt_of_lt_of_le (by have := World.block_lt_of_cell? _ _ b2; first | rwa [yaa] at this | exact this) a4.out)) | (show (Addr.add _ _).block ≠ _; rw [yaa]; exact Nat.ne_of_lt (Nat.lt_of_lt_of_le (by have := World.block_lt_of_cell? _ _ b2; first | rwa [yaa] at this | exact this) a4.out)) | (dsimp only; exact Nat.ne_of_lt (Nat.lt_of_lt_of_le (by have := World.block_lt_of_cell? _ _ b2; first | rwa [yaa] at this | exact this) a4.out))) _).trans (((yag (p := ⟨a6, _, none⟩) (by first | exact Nat.ne_of_lt (Nat.lt_of_lt_of_le (by have := World.block_lt_of_cell? _ _ b2; first | rwa [yaa] at this | exact this) a4.out) | (rw [yaa]; exact Nat.ne_of_lt (Nat.lt_of_lt_of_le (by have := World.block_lt_of_cell? _ _ b2; first | rwa [yaa] at this | exact this) a4.out)) | (show (Addr.add _ _).block ≠ _; rw [yaa]; exact Nat.ne_of_lt (Nat.lt_of_lt_of_le (by have := World.block_lt_of_cell? _ _ b2; first | rwa [yaa] at this | exact this) a4.out)) | (dsimp only; exact Nat.ne_of_lt (Nat.lt_of_lt_of_le (by have := World.block_lt_of_cell? _ _ b2; first | rwa [yaa] at this | exact this) a4.out))) _).trans (((yag (p := ⟨a6, _, none⟩) (by first | exact Nat.ne_of_lt (Nat.lt_of_lt_of_le (by have := World.block_lt_of_cell? _ _ b2; first | rwa [yaa] at this | exact this) a4.out) | (rw [yaa]; exact Nat.ne_of_lt (Nat.lt_of_lt_of_le (by have := World.block_lt_of_cell? _ _ b2; first | rwa [yaa] at this | exact this) a4.out)) | (show (Addr.add _ _).block ≠ _; rw [yaa]; exact Nat.ne_of_lt (Nat.lt_of_lt_of_le (by have := World.block_lt_of_cell? _ _ b2; first | rwa [yaa] at this | exact this) a4.out)) | (dsimp only; exact Nat.ne_of_lt (Nat.lt_of_lt_of_le (by have := World.block_lt_of_cell? _ _ b2; first | rwa [yaa] at this | exact this) a4.out))) _).trans (hHeld.2.2.2.2.2.2.1)))))), ((yag (p := ⟨a6, _, none⟩) (by first | exact Nat.ne_of_lt (Nat.lt_of_lt_of_le (by have := World.block_lt_of_cell? _ _ b1; first | rwa [yaa] at this | exact this) a4.out) | (rw [yaa]; exact Nat.ne_of_lt (Nat.lt_of_lt_of_le (by have := World.block_lt_of_cell? _ _ b1; first | rwa [yaa] at this | exact this) a4.out)) | (show (Addr.add _ _).block ≠ _; rw [yaa]; exact Nat.ne_of_lt (Nat.lt_of_lt_of_le (by have := World.block_lt_of_cell? _ _ b1; first | rwa [yaa] at this | exact this) a4.out)) | (dsimp only; exact Nat.ne_of_lt (Nat.lt_of_lt_of_le (by have := World.block_lt_of_cell? _ _ b1; first | rwa [yaa] at this | exact this) a4.out))) _).trans (((yag (p := ⟨a6, _, none⟩) (by first | exact Nat.ne_of_lt (Nat.lt_of_lt_of_le (by have := World.block_lt_of_cell? _ _ b1; first | rwa [yaa] at this | exact this) a4.out) | (rw [yaa]; exact Nat.ne_of_lt (Nat.lt_of_lt_of_le (by have := World.block_lt_of_cell? _ _ b1; first | rwa [yaa] at this | exact this) a4.out)) | (show (Addr.add _ _).block ≠ _; rw [yaa]; exact Nat.ne_of_lt (Nat.lt_of_lt_of_le (by have := World.block_lt_of_cell? _ _ b1; first | rwa [yaa] at this | exact this) a4.out)) | (dsimp only; exact Nat.ne_of_lt (Nat.lt_of_lt_of_le (by have := World.block_lt_of_cell? _ _ b1; first | rwa [yaa] at this | exact this) a4.out))) _).trans (((yag (p := ⟨a6, _, none⟩) (by first | exact Nat.ne_of_lt (Nat.lt_of_lt_of_le (by have := World.block_lt_of_cell? _ _ b1; first | rwa [yaa] at this | exact this) a4.out) | (rw [yaa]; exact Nat.ne_of_lt (Nat.lt_of_lt_of_le (by have := World.block_lt_of_cell? _ _ b1; first | rwa [yaa] at this | exact this) a4.out)) | (show (Addr.add _ _).block ≠ _; rw [yaa]; exact Nat.ne_of_lt (Nat.lt_of_lt_of_le (by have := World.block_lt_of_cell? _ _ b1; first | rwa [yaa] at this | exact this) a4.out)) | (dsimp only; exact Nat.ne_of_lt (Nat.lt_of_lt_of_le (by have := World.block_lt_of_cell? _ _ b1; first | rwa [yaa] at this | exact this) a4.out))) _).trans (hHeld.2.2.2.2.2.2.2))))))⟩ (fun hHeld => ?_)
         clear hK K
         refine pz_ 11 9 q28_16 HT_ (by kernel_rfl) ?_
         refine done_ (done_of HT_.out (by kernel_rfl)) ?_
         have v9 := c8.out; have w0 := c4.out; have w2 := c6.out; have w3 := c0.out; have w6 := d0.out; have w7 := a9.out; obtain ⟨o3, o4, o5⟩ := cc3_ d2.out; obtain ⟨o6, o7, o8⟩ := cf3_ d2.out; have w8 := g1.out; have w9 := e5.out; have x0 := f5.out; have x2 := e3.out; obtain ⟨o9, p0, p1⟩ := cc3_ b0.out; obtain ⟨p3, p4, p5⟩ := cf3_ b0.out
         try go_wp2
         go_roundg k2
         case measure => have := HJ2.out; have := HK2.out; omega
         case rel => exact ⟨(wrap64 (a7 + 1)), (d5), (d3), (f6), (f7), (g3), (.slice k9 g3.length l2), (by first | rfl | (simp; done) | (simp [*]; done)), H', ⟨by have := HJ2.out; have := HK2.out; omega⟩, ⟨by (with_reducible repeat (first | apply Kd.R_alloc | apply Kd.R_drewN | apply Kd.R_drew)); exact Kd.R_mono (Kd.R_far (p := ⟨c3, 2, none⟩) (Kd.R_far (p := ⟨c3, 1, none⟩) (Kd.R_far (p := ⟨c3, 0, none⟩) (Kd.R_far (p := ⟨a6, 2, none⟩) (Kd.R_far (p := ⟨a6, 1, none⟩) (Kd.R_far (p := ⟨a6, 0, none⟩) (Kd.R_types (Kd.R_types e1.out d2.out (by decide)) b0.out (by decide)) (fun _ hk => hk.1.2) (.int .i64 f6)) (fun _ hk => hk.1.2) (.int .i64 f7)) (fun _ hk => hk.1.2) (.slice k9 g3.length l2)) (fun _ hk => hk.2) (.int .i64 f6)) (fun _ hk => hk.2) (.int .i64 f7)) (fun _ hk => hk.2) (.slice k9 g3.length l2)) (fun _ hk => trivial)⟩, ⟨by repeat (with_reducible first | exact b7.out | refine oneB ?_ | refine blk_far ?_ e5.out _ | refine blk_far ?_ c4.out _)⟩, ⟨by repeat (with_reducible first | exact b6.out | refine oneB ?_ | refine blk_far ?_ e3.out _ | refine blk_far ?_ c0.out _)⟩, ⟨by (repeat refine oneB ?_); refine blk_put (cs := #[.int .i64 f6, .int .i64 f7, .slice f8 a8.length f9]) ?_ 2 _ rfl; refine blk_put (cs := #[.int .i64 f6, .int .i64 b9, .slice f8 a8.length f9]) ?_ 1 _ rfl; refine blk_put (cs := #[.int .i64 b8, .int .i64 b9, .slice f8 a8.length f9]) ?_ 0 _ rfl; (repeat refine oneB ?_); refine blk_far ?_ a9.out _; (repeat refine oneB ?_); refine blk_far ?_ a9.out _; (repeat refine oneB ?_); refine blk_far ?_ a9.out _; exact upB b0.out⟩, ⟨by repeat (with_reducible first | exact HB.out | apply yae | apply yac | apply yad | refine yaf ?_ (Aside0.out ‹_›))⟩⟩
        ·
         replace c31 := Bool.eq_false_iff.mpr c31
         subst c31
         rw [if_neg (show ¬ (false = true) by decide)] at H
         simp only [Option.some.injEq, Prod.mk.injEq] at H
         obtain ⟨rfl, rfl, rfl, rfl⟩ := H; obtain ⟨g5, g6, t9⟩ := Kd.R_slice a5.out; subst t9
         try go_wp2
         replace a5 := yab (Kd.R_drew a5.out); replace b7 := yab (blk_drew b7.out); replace b6 := yab (blk_drew b6.out); replace b0 := yab (blk_drew b0.out); replace HB := yab (yad HB.out)
         have p111 : 0 ≤ (a7 : Int) := of_decide_eq_true (by first | (with_reducible assumption) | assumption)
         have q111 : a7 < (l1.length : Int) := of_decide_eq_true (by first | (with_reducible assumption) | assumption)
         obtain ⟨ad111, k8, d6, d7, d8, d9, e0⟩ := at_T27 HR1.out a7 p111 q111; have b1 := e0; have b2 := d9; have b3 := d8; have b4 := d7; have b5 := d6
         cases k8
         replace d6 := (HB.out.cell (World.block_lt_of_cell? w _ d6)).trans d6; replace d7 := (HB.out.cell (World.block_lt_of_cell? w _ d7)).trans d7; replace d8 := (HB.out.cell (World.block_lt_of_cell? w _ d8)).trans d8; replace d9 := (HB.out.cell (World.block_lt_of_cell? w _ d9)).trans d9; replace e0 := (HB.out.cell (World.block_lt_of_cell? w _ e0)).trans e0; replace p111 := eq_true p111; replace q111 := eq_true q111
         refine start_ (n := 12) (S := fun w' => w'.cell? ⟨c3, 0, none⟩ = some (.int .i64 b8) ∧ w'.cell? ⟨c3, 1, none⟩ = some (.int .i64 b9) ∧ w'.cell? ⟨c3, 2, none⟩ = some (.slice g5 a8.length g6) ∧ w'.cell? (ad111.add ((a7).toNat * 5)) = some (.int .i64 ((yai l1 a7).f0)) ∧ w'.cell? ⟨(ad111.add ((a7).toNat * 5)).block, (ad111.add ((a7).toNat * 5)).off + 1, none⟩ = some (.int .i64 ((yai l1 a7).f1)) ∧ w'.cell? ⟨(ad111.add ((a7).toNat * 5)).block, (ad111.add ((a7).toNat * 5)).off + 2, none⟩ = some (.int .i64 ((yai l1 a7).f2)) ∧ w'.cell? ⟨(ad111.add ((a7).toNat * 5)).block, (ad111.add ((a7).toNat * 5)).off + 3, none⟩ = some (.int .i64 ((yai l1 a7).f3)) ∧ w'.cell? ⟨(ad111.add ((a7).toNat * 5)).block, (ad111.add ((a7).toNat * 5)).off + 4, none⟩ = some (.int .i64 ((yai l1 a7).f4))) (ds := []) q28_0 (by kernel_rfl) rfl rfl ⟨(yaj b0.out 0).trans rfl, (yaj b0.out 1).trans rfl, (yaj b0.out 2).trans rfl, ((HB.out.cell (World.block_lt_of_cell? w _ b5)).trans b5), ((HB.out.cell (World.block_lt_of_cell? w _ b4)).trans b4), ((HB.out.cell (World.block_lt_of_cell? w _ b3)).trans b3), ((HB.out.cell (World.block_lt_of_cell? w _ b2)).trans b2), ((HB.out.cell (World.block_lt_of_cell? w _ b1)).trans b1)⟩ (fun hHeld => ?_); refine with_tabW spec_OpsDo.tab7 spec_OpsDo.bits7 (fun HT_ HW_ => ?_)
         generalize wr.drew = w49 at a5 b7 b6 b0 HB d6 d7 d8 d9 e0 hHeld ⊢
         refine pz_ 1 29 q28_1 HT_ (by kernel_rfl) ?_
         refine pz_ 2 30 q28_2 HT_ (by kernel_rfl) ?_
         refine pz_ 3 31 q28_3 HT_ (by kernel_rfl) ?_
         refine tz_ 0 28 q28_4 HT_ HW_ (by kernel_rfl) hHeld ?_
         refine tz_ 4 32 q28_5 HT_ HW_ (by kernel_rfl) hHeld ?_
         refine join_ (σ := Value × Nat) 2 q28_6 (fun s_ => [(33, .tuple #[.agg #[.int .i64 f6, .int .i64 f7, s_.1], .bool false]), (8, .pointer (some ⟨s_.2, 0, none⟩)), (27, .tuple #[.agg #[.int .i64 f6, .int .i64 f7, s_.1], .bool false]), (34, .agg #[.int .i64 f6, .int .i64 f7, s_.1]), (35, .bool false)]) (fun s_ w' => (w'.cell? ⟨c3, 0, none⟩ = some (.int .i64 b8) ∧ w'.cell? ⟨c3, 1, none⟩ = some (.int .i64 b9) ∧ w'.cell? ⟨c3, 2, none⟩ = some (.slice g5 a8.length g6) ∧ w'.cell? (ad111.add ((a7).toNat * 5)) = some (.int .i64 ((yai l1 a7).f0)) ∧ w'.cell? ⟨(ad111.add ((a7).toNat * 5)).block, (ad111.add ((a7).toNat * 5)).off + 1, none⟩ = some (.int .i64 ((yai l1 a7).f1)) ∧ w'.cell? ⟨(ad111.add ((a7).toNat * 5)).block, (ad111.add ((a7).toNat * 5)).off + 2, none⟩ = some (.int .i64 ((yai l1 a7).f2)) ∧ w'.cell? ⟨(ad111.add ((a7).toNat * 5)).block, (ad111.add ((a7).toNat * 5)).off + 3, none⟩ = some (.int .i64 ((yai l1 a7).f3)) ∧ w'.cell? ⟨(ad111.add ((a7).toNat * 5)).block, (ad111.add ((a7).toNat * 5)).off + 4, none⟩ = some (.int .i64 ((yai l1 a7).f4))) ∧ (Kd.R k36 36 w' w.heap.size (fun k_ => some k_ ≠ (.slice g5 a8.length g6 : Value).ownBlock) s_.1 g3) ∧ (Kd.R k36 36 w' w.heap.size (fun k_ => some k_ ≠ (s_.1 : Value).ownBlock) (.slice g5 a8.length g6) a8) ∧ (w'.heap[d4]? = some (.cells #[.int .i64 a0_0, .int .i64 a0_1, .slice A0_2 l0_2.length c0_2] 25 (0, 0))) ∧ (w'.heap[d1]? = some (.cells #[.int .i64 d5, .int .i64 d3, .slice none 0 0] 25 (0, 0))) ∧ (w'.heap[c3]? = some (.cells #[.int .i64 b8, .int .i64 b9, .slice g5 a8.length g6] 25 (0, 0))) ∧ (w'.heap[s_.2]? = some (.cells #[.int .i64 0, .int .i64 0, .slice none 0 0] 25 (0, 0))) ∧ (w.heap.size ≤ s_.2) ∧ (w.heap.size ≤ s_.2) ∧ (d4 ≠ s_.2) ∧ (s_.2 ≠ d4) ∧ (d1 ≠ s_.2) ∧ (s_.2 ≠ d1) ∧ (c3 ≠ s_.2) ∧ (s_.2 ≠ c3) ∧ (Below w.heap.size w w')) ?_ ?_
         rotate_left
         ·
          intro hCont
          refine two_ (i := 5) (j := 9) (Ni := some 33) (Nj := some 8) q28_7 q28_8 rfl rfl rfl rfl (two_of HT_.out (by kernel_rfl)) (by decide) (by decide) (fun K hK => ?_) (fun K hK => ?_)
          ·
           skip
           refine goes_ Try.func39 (by kernel_rfl) rfl #[.agg #[.int .i64 b8, .int .i64 b9, .slice g5 a8.length g6], .agg #[.int .i64 ((yai l1 a7).f0), .int .i64 ((yai l1 a7).f1), .int .i64 ((yai l1 a7).f2), .int .i64 ((yai l1 a7).f3), .int .i64 ((yai l1 a7).f4)]] (by rfl) rfl rfl (by (try simp only [List.map_toArray, List.map_cons, List.map_nil]); first | done | rfl | (simp only [List.length_drop, List.length_take]; rfl)) ?_
           with_reducible refine (spec_l6Do.calls k2 b8 b9 _ _ a8 ((yai l1 a7).f0) ((yai l1 a7).f1) ((yai l1 a7).f2) ((yai l1 a7).f3) ((yai l1 a7).f4) f6 f7 g3 false _ ?side1 ?side2 A30.out).mono ?_
           (case side1 => repeat (first | exact (Kd.R_reads' a5.out).2.2 | (with_reducible refine Kd.C_alloc ?_ _) | (with_reducible refine Kd.C_drewN ?_ _) | (with_reducible refine Kd.C_drew ?_)))
           (case side2 => exact (Kd.R_reads' a5.out).2.1)
           rintro e w50 ⟨g2, rfl, ho0, hb⟩; refine ⟨_, rfl, ?_⟩; have n0_ := yab (Kd.R_elder' (upR a5.out) (Kd.R_base ho0) hb)
           have n1_ := yab (Kd.R_lower (Kd.R_new' ho0 (Kd.R_lt (upR a5.out))) (yal (by repeat (with_reducible first | exact HB.out | apply yae | apply yac | apply yad | refine yaf ?_ (Aside0.out ‹_›)))))
           have n2_ := yab (yah (upB b7.out) hb); have n3_ := yab (yah (upB b6.out) hb); have n4_ := yab (yah (upB b0.out) hb)
           have n5_ := yab (yam (by repeat (with_reducible first | exact HB.out | apply yae | apply yac | apply yad | refine yaf ?_ (Aside0.out ‹_›))) hb)
           clear a5; clear b7; clear b6; clear b0; clear HB; have a5 := n0_; have e1 := n1_; have b7 := n2_; have b6 := n3_; have b0 := n4_; have HB := n5_; clear n0_ n1_ n2_ n3_ n4_ n5_; (try clear hb); (try clear hb2); (try clear hk); (try clear hi); (try clear ho0)
           refine hK.out _ _ ⟨(yaj b0.out 0).trans rfl, (yaj b0.out 1).trans rfl, (yaj b0.out 2).trans rfl, ((HB.out.cell (World.block_lt_of_cell? w _ b5)).trans b5), ((HB.out.cell (World.block_lt_of_cell? w _ b4)).trans b4), ((HB.out.cell (World.block_lt_of_cell? w _ b3)).trans b3), ((HB.out.cell (World.block_lt_of_cell? w _ b2)).trans b2), ((HB.out.cell (World.block_lt_of_cell? w _ b1)).trans b1)⟩ (fun hHeld => ?_)
           clear hK K
           refine norm_ (a' := ?_) ?_ ?_
           rotate_left
           ·
            show Act.put _ (some 33) _ = _
            simp only [Act.put, List.setIfInBounds_toArray, List.set_cons_zero, List.set_cons_succ, i64_w, i32_w]
            rfl
           refine pz_ 6 27 q28_9 HT_ (by kernel_rfl) ?_
           refine pz_ 7 34 q28_10 HT_ (by kernel_rfl) ?_
           refine pz_ 8 35 q28_11 HT_ (by kernel_rfl) ?_
           refine one_ (i := 9) (N := some 8) q28_6 rfl rfl (one_of HT_.out (by kernel_rfl)) (by decide) (fun K hK => ?_)
           refine box_step ?hg (N := 8) ?hd (cs := #[.int .i64 0, .int .i64 0, .slice none 0 0]) (t := 25) ?hr ?_; (case hd => rfl); (case hg => rfl); (case hr => first | (go_simp; done) | (go_simp; rfl))
           intro a6 hg w51 hbox hb; have n0_ := yab (Kd.R_below (upR a5.out) hb); have n1_ := yab (Kd.R_below (upR e1.out) hb); have n2_ := yab (yah (upB b7.out) hb); have n3_ := yab (yah (upB b6.out) hb); have n4_ := yab (yah (upB b0.out) hb)
           have n5_ := yab (yam (by repeat (with_reducible first | exact HB.out | apply yae | apply yac | apply yad | refine yaf ?_ (Aside0.out ‹_›))) hb)
           have n6_ := yab (hbox)
           have n7_ := yab ((by rw [hg]; exact (yal (by repeat (with_reducible first | exact HB.out | apply yae | apply yac | apply yad | refine yaf ?_ (Aside0.out ‹_›)))) : w.heap.size ≤ a6))
           have n8_ := yab ((by rw [hg]; exact (yal (by repeat (with_reducible first | exact HB.out | apply yae | apply yac | apply yad | refine yaf ?_ (Aside0.out ‹_›)))) : w.heap.size ≤ a6))
           have n9_ := yab ((by rw [hg]; exact Nat.ne_of_lt (blk_lt (upB b7.out)) : d4 ≠ a6)); have e6 := yab ((by rw [hg]; exact Nat.ne_of_gt (blk_lt (upB b7.out)) : a6 ≠ d4)); have e7 := yab ((by rw [hg]; exact Nat.ne_of_lt (blk_lt (upB b6.out)) : d1 ≠ a6)); have e8 := yab ((by rw [hg]; exact Nat.ne_of_gt (blk_lt (upB b6.out)) : a6 ≠ d1)); have e9 := yab ((by rw [hg]; exact Nat.ne_of_lt (blk_lt (upB b0.out)) : c3 ≠ a6)); have g4 := yab ((by rw [hg]; exact Nat.ne_of_gt (blk_lt (upB b0.out)) : a6 ≠ c3)); clear a5; clear e1; clear b7; clear b6; clear b0; clear HB; have a5 := n0_; have e1 := n1_; have b7 := n2_; have b6 := n3_; have b0 := n4_; have HB := n5_; have d2 := n6_; have a4 := n7_; have g0 := n8_; have c4 := n9_; have c8 := e6; have c0 := e7; have c6 := e8; have a9 := e9; have d0 := g4; clear n0_ n1_ n2_ n3_ n4_ n5_ n6_ n7_ n8_ n9_ e6 e7 e8 e9 g4; clear hb hbox hg
           refine hK.out _ _ ⟨(yaj b0.out 0).trans rfl, (yaj b0.out 1).trans rfl, (yaj b0.out 2).trans rfl, ((HB.out.cell (World.block_lt_of_cell? w _ b5)).trans b5), ((HB.out.cell (World.block_lt_of_cell? w _ b4)).trans b4), ((HB.out.cell (World.block_lt_of_cell? w _ b3)).trans b3), ((HB.out.cell (World.block_lt_of_cell? w _ b2)).trans b2), ((HB.out.cell (World.block_lt_of_cell? w _ b1)).trans b1)⟩ (fun hHeld => ?_)
           clear hK K
           refine norm_ (a' := ?_) ?_ ?_
           rotate_left
           ·
            show Act.put _ (some 8) _ = _
            simp only [Act.put, List.setIfInBounds_toArray, List.set_cons_zero, List.set_cons_succ, i64_w, i32_w]
            rfl
           exact norm_ (by simp only [putAll, Act.put, List.setIfInBounds_toArray, List.set_cons_zero, List.set_cons_succ]) (hCont (g2, a6) _ ⟨hHeld, (by (with_reducible repeat (first | apply Kd.R_alloc | apply Kd.R_drewN | apply Kd.R_drew)); exact Kd.R_mono e1.out (fun _ hk => by first | exact hk.2 | exact True.intro)), (by (with_reducible repeat (first | apply Kd.R_alloc | apply Kd.R_drewN | apply Kd.R_drew)); exact Kd.R_mono a5.out (fun _ hk => by first | exact hk.2 | exact True.intro)), (upB b7.out), (upB b6.out), (upB b0.out), (upB d2.out), a4.out, g0.out, c4.out, c8.out, c0.out, c6.out, a9.out, d0.out, (by repeat (with_reducible first | exact HB.out | apply yae | apply yac | apply yad | refine yaf ?_ (Aside0.out ‹_›)))⟩)
          ·
           skip
           refine box_step ?hg (N := 8) ?hd (cs := #[.int .i64 0, .int .i64 0, .slice none 0 0]) (t := 25) ?hr ?_; (case hd => rfl); (case hg => rfl); (case hr => first | (go_simp; done) | (go_simp; rfl))
           intro a6 hg w50 hbox hb; have n0_ := yab (Kd.R_below (upR a5.out) hb); have n1_ := yab (yah (upB b7.out) hb); have n2_ := yab (yah (upB b6.out) hb); have n3_ := yab (yah (upB b0.out) hb)
           have n4_ := yab (yam (by repeat (with_reducible first | exact HB.out | apply yae | apply yac | apply yad | refine yaf ?_ (Aside0.out ‹_›))) hb)
           have n5_ := yab (hbox)
           have n6_ := yab ((by rw [hg]; exact (yal (by repeat (with_reducible first | exact HB.out | apply yae | apply yac | apply yad | refine yaf ?_ (Aside0.out ‹_›)))) : w.heap.size ≤ a6))
           have n7_ := yab ((by rw [hg]; exact (yal (by repeat (with_reducible first | exact HB.out | apply yae | apply yac | apply yad | refine yaf ?_ (Aside0.out ‹_›)))) : w.heap.size ≤ a6))
           have n8_ := yab ((by rw [hg]; exact Nat.ne_of_lt (blk_lt (upB b7.out)) : d4 ≠ a6)); have n9_ := yab ((by rw [hg]; exact Nat.ne_of_gt (blk_lt (upB b7.out)) : a6 ≠ d4)); have e6 := yab ((by rw [hg]; exact Nat.ne_of_lt (blk_lt (upB b6.out)) : d1 ≠ a6)); have e7 := yab ((by rw [hg]; exact Nat.ne_of_gt (blk_lt (upB b6.out)) : a6 ≠ d1)); have e8 := yab ((by rw [hg]; exact Nat.ne_of_lt (blk_lt (upB b0.out)) : c3 ≠ a6)); have e9 := yab ((by rw [hg]; exact Nat.ne_of_gt (blk_lt (upB b0.out)) : a6 ≠ c3)); clear a5; clear b7; clear b6; clear b0; clear HB; have a5 := n0_; have b7 := n1_; have b6 := n2_; have b0 := n3_; have HB := n4_; have d2 := n5_; have a4 := n6_; have g0 := n7_; have c4 := n8_; have c8 := n9_; have c0 := e6; have c6 := e7; have a9 := e8; have d0 := e9; clear n0_ n1_ n2_ n3_ n4_ n5_ n6_ n7_ n8_ n9_ e6 e7 e8 e9; clear hb hbox hg
           refine hK.out _ _ ⟨(yaj b0.out 0).trans rfl, (yaj b0.out 1).trans rfl, (yaj b0.out 2).trans rfl, ((HB.out.cell (World.block_lt_of_cell? w _ b5)).trans b5), ((HB.out.cell (World.block_lt_of_cell? w _ b4)).trans b4), ((HB.out.cell (World.block_lt_of_cell? w _ b3)).trans b3), ((HB.out.cell (World.block_lt_of_cell? w _ b2)).trans b2), ((HB.out.cell (World.block_lt_of_cell? w _ b1)).trans b1)⟩ (fun hHeld => ?_)
           clear hK K
           refine norm_ (a' := ?_) ?_ ?_
           rotate_left
           ·
            show Act.put _ (some 8) _ = _
            simp only [Act.put, List.setIfInBounds_toArray, List.set_cons_zero, List.set_cons_succ, i64_w, i32_w]
            rfl
           refine one_ (i := 5) (N := some 33) q28_12 rfl rfl (one_of HT_.out (by kernel_rfl)) (by decide) (fun K hK => ?_)
           refine goes_ Try.func39 (by kernel_rfl) rfl #[.agg #[.int .i64 b8, .int .i64 b9, .slice g5 a8.length g6], .agg #[.int .i64 ((yai l1 a7).f0), .int .i64 ((yai l1 a7).f1), .int .i64 ((yai l1 a7).f2), .int .i64 ((yai l1 a7).f3), .int .i64 ((yai l1 a7).f4)]] (by rfl) rfl rfl (by (try simp only [List.map_toArray, List.map_cons, List.map_nil]); first | done | rfl | (simp only [List.length_drop, List.length_take]; rfl)) ?_
           with_reducible refine (spec_l6Do.calls k2 b8 b9 _ _ a8 ((yai l1 a7).f0) ((yai l1 a7).f1) ((yai l1 a7).f2) ((yai l1 a7).f3) ((yai l1 a7).f4) f6 f7 g3 false _ ?side1 ?side2 A30.out).mono ?_
           (case side1 => repeat (first | exact (Kd.R_reads' a5.out).2.2 | (with_reducible refine Kd.C_alloc ?_ _) | (with_reducible refine Kd.C_drewN ?_ _) | (with_reducible refine Kd.C_drew ?_)))
           (case side2 => exact (Kd.R_reads' a5.out).2.1)
           rintro e w51 ⟨g2, rfl, ho0, hb⟩; refine ⟨_, rfl, ?_⟩; have n0_ := yab (Kd.R_elder' (upR a5.out) (Kd.R_base ho0) hb)
           have n1_ := yab (Kd.R_lower (Kd.R_new' ho0 (Kd.R_lt (upR a5.out))) (yal (by repeat (with_reducible first | exact HB.out | apply yae | apply yac | apply yad | refine yaf ?_ (Aside0.out ‹_›)))))
           have n2_ := yab (yah (upB b7.out) hb); have n3_ := yab (yah (upB b6.out) hb); have n4_ := yab (yah (upB b0.out) hb); have n5_ := yab (yah (upB d2.out) hb)
           have n6_ := yab (yam (by repeat (with_reducible first | exact HB.out | apply yae | apply yac | apply yad | refine yaf ?_ (Aside0.out ‹_›))) hb)
           clear a5; clear b7; clear b6; clear b0; clear d2; clear HB; have a5 := n0_; have e1 := n1_; have b7 := n2_; have b6 := n3_; have b0 := n4_; have d2 := n5_; have HB := n6_; clear n0_ n1_ n2_ n3_ n4_ n5_ n6_; (try clear hb); (try clear hb2); (try clear hk); (try clear hi); (try clear ho0)
           refine hK.out _ _ ⟨(yaj b0.out 0).trans rfl, (yaj b0.out 1).trans rfl, (yaj b0.out 2).trans rfl, ((HB.out.cell (World.block_lt_of_cell? w _ b5)).trans b5), ((HB.out.cell (World.block_lt_of_cell? w _ b4)).trans b4), ((HB.out.cell (World.block_lt_of_cell? w _ b3)).trans b3), ((HB.out.cell (World.block_lt_of_cell? w _ b2)).trans b2), ((HB.out.cell (World.block_lt_of_cell? w _ b1)).trans b1)⟩ (fun hHeld => ?_)
           clear hK K
           refine norm_ (a' := ?_) ?_ ?_
           rotate_left
           ·
            show Act.put _ (some 33) _ = _
            simp only [Act.put, List.setIfInBounds_toArray, List.set_cons_zero, List.set_cons_succ, i64_w, i32_w]
            rfl
           refine pz_ 6 27 q28_13 HT_ (by kernel_rfl) ?_
           refine pz_ 7 34 q28_14 HT_ (by kernel_rfl) ?_
           refine pz_ 8 35 q28_6 HT_ (by kernel_rfl) ?_
           exact norm_ (by simp only [putAll, Act.put, List.setIfInBounds_toArray, List.set_cons_zero, List.set_cons_succ]) (hCont (g2, a6) _ ⟨hHeld, (by (with_reducible repeat (first | apply Kd.R_alloc | apply Kd.R_drewN | apply Kd.R_drew)); exact Kd.R_mono e1.out (fun _ hk => by first | exact hk.2 | exact True.intro)), (by (with_reducible repeat (first | apply Kd.R_alloc | apply Kd.R_drewN | apply Kd.R_drew)); exact Kd.R_mono a5.out (fun _ hk => by first | exact hk.2 | exact True.intro)), (upB b7.out), (upB b6.out), (upB b0.out), (upB d2.out), a4.out, g0.out, c4.out, c8.out, c0.out, c6.out, a9.out, d0.out, (by repeat (with_reducible first | exact HB.out | apply yae | apply yac | apply yad | refine yaf ?_ (Aside0.out ‹_›)))⟩)
         rintro ⟨g2, a6⟩ w52 ⟨hS_, h0_, h1_, h2_, h3_, h4_, h5_, h6_, h7_, h8_, h9_, h10_, h11_, h12_, h13_, h14_⟩; have n0_ : yak (Kd.R k36 36 w52 w.heap.size (fun k_ => some k_ ≠ (.slice g5 a8.length g6 : Value).ownBlock) g2 g3) := ⟨h0_⟩; have n1_ : yak (Kd.R k36 36 w52 w.heap.size (fun k_ => some k_ ≠ (g2 : Value).ownBlock) (.slice g5 a8.length g6) a8) := ⟨h1_⟩; have n2_ : yak (w52.heap[d4]? = some (.cells #[.int .i64 a0_0, .int .i64 a0_1, .slice A0_2 l0_2.length c0_2] 25 (0, 0))) := ⟨h2_⟩; have n3_ : yak (w52.heap[d1]? = some (.cells #[.int .i64 d5, .int .i64 d3, .slice none 0 0] 25 (0, 0))) := ⟨h3_⟩; have n4_ : yak (w52.heap[c3]? = some (.cells #[.int .i64 b8, .int .i64 b9, .slice g5 a8.length g6] 25 (0, 0))) := ⟨h4_⟩; have n5_ : yak (w52.heap[a6]? = some (.cells #[.int .i64 0, .int .i64 0, .slice none 0 0] 25 (0, 0))) := ⟨h5_⟩; have n6_ : yak (w.heap.size ≤ a6) := ⟨h6_⟩; have n7_ : yak (w.heap.size ≤ a6) := ⟨h7_⟩; have n8_ : yak (d4 ≠ a6) := ⟨h8_⟩; have n9_ : yak (a6 ≠ d4) := ⟨h9_⟩; have e6 : yak (d1 ≠ a6) := ⟨h10_⟩; have e7 : yak (a6 ≠ d1) := ⟨h11_⟩; have e8 : yak (c3 ≠ a6) := ⟨h12_⟩; have e9 : yak (a6 ≠ c3) := ⟨h13_⟩; have g4 : yak (Below w.heap.size w w52) := ⟨h14_⟩; clear a5; clear b7; clear b6; clear b0; clear HB; clear h0_ h1_ h2_ h3_ h4_ h5_ h6_ h7_ h8_ h9_ h10_ h11_ h12_ h13_ h14_; have e1 := n0_; have a5 := n1_; have b7 := n2_; have b6 := n3_; have b0 := n4_; have d2 := n5_; have a4 := n6_; have g0 := n7_; have c4 := n8_; have c8 := n9_; have c0 := e6; have c6 := e7; have a9 := e8; have d0 := e9; have HB := g4; clear n0_ n1_ n2_ n3_ n4_ n5_ n6_ n7_ n8_ n9_ e6 e7 e8 e9 g4; have hHeld : w52.cell? ⟨c3, 0, none⟩ = some (.int .i64 b8) ∧ w52.cell? ⟨c3, 1, none⟩ = some (.int .i64 b9) ∧ w52.cell? ⟨c3, 2, none⟩ = some (.slice g5 a8.length g6) ∧ w52.cell? (ad111.add ((a7).toNat * 5)) = some (.int .i64 ((yai l1 a7).f0)) ∧ w52.cell? ⟨(ad111.add ((a7).toNat * 5)).block, (ad111.add ((a7).toNat * 5)).off + 1, none⟩ = some (.int .i64 ((yai l1 a7).f1)) ∧ w52.cell? ⟨(ad111.add ((a7).toNat * 5)).block, (ad111.add ((a7).toNat * 5)).off + 2, none⟩ = some (.int .i64 ((yai l1 a7).f2)) ∧ w52.cell? ⟨(ad111.add ((a7).toNat * 5)).block, (ad111.add ((a7).toNat * 5)).off + 3, none⟩ = some (.int .i64 ((yai l1 a7).f3)) ∧ w52.cell? ⟨(ad111.add ((a7).toNat * 5)).block, (ad111.add ((a7).toNat * 5)).off + 4, none⟩ = some (.int .i64 ((yai l1 a7).f4)) := hS_; obtain ⟨A0, A2, m2⟩ := Kd.R_slice e1.out
         (first | subst m2 | (injection m2 with f1_ f2_ f3_; have f4_ := f1_.symm; have f5_ := f3_.symm; clear f1_ f2_ f3_; subst f4_; subst f5_))
         refine norm_ (a' := ?_) ?_ ?_
         rotate_left
         ·
          simp only [putAll, Act.put, List.setIfInBounds_toArray, List.set_cons_zero, List.set_cons_succ]
          rfl
         refine one_ (i := 10) (N := none) q28_15 rfl rfl (one_of HT_.out (by kernel_rfl)) (by decide) (fun K hK => ?_)
         have A3 : w52.cell? ⟨a6, 0, none⟩ = some (.int .i64 0) := (yaj d2.out 0).trans rfl; have x3 := blk_frozen d2.out 0; have p6 := c4.out; have p7 := c0.out; have p8 := a9.out; have p9 := c8.out; have q0 := c6.out; have q1 := d0.out; have A4 : w52.cell? ⟨a6, 1, none⟩ = some (.int .i64 0) := (yaj d2.out 1).trans rfl; have x4 := blk_frozen d2.out 1; have q2 := c4.out; have q3 := c0.out; have q4 := a9.out; have q5 := c8.out; have q6 := c6.out; have q7 := d0.out; have A5 : w52.cell? ⟨a6, 2, none⟩ = some (.slice none 0 0) := (yaj d2.out 2).trans rfl; have x5 := blk_frozen d2.out 2; have q8 := c4.out; have q9 := c0.out; have r0 := a9.out; have r5 := c8.out; have r6 := c6.out; have r7 := d0.out
         refine skip_ (w1 := ?_) (by rfl) rfl ?_ ?_
         rotate_left
         ·
          go_simp
          rfl
         refine hK.out _ _ ⟨((yag (p := ⟨a6, _, none⟩) a9.out _).trans (((yag (p := ⟨a6, _, none⟩) a9.out _).trans (((yag (p := ⟨a6, _, none⟩) a9.out _).trans (hHeld.1)))))), ((yag (p := ⟨a6, _, none⟩) a9.out _).trans (((yag (p := ⟨a6, _, none⟩) a9.out _).trans (((yag (p := ⟨a6, _, none⟩) a9.out _).trans (hHeld.2.1)))))), ((yag (p := ⟨a6, _, none⟩) a9.out _).trans (((yag (p := ⟨a6, _, none⟩) a9.out _).trans (((yag (p := ⟨a6, _, none⟩) a9.out _).trans (hHeld.2.2.1)))))), ((yag (p := ⟨a6, _, none⟩) (by first | exact Nat.ne_of_lt (Nat.lt_of_lt_of_le (by have := World.block_lt_of_cell? _ _ b5; first | rwa [yaa] at this | exact this) a4.out) | (rw [yaa]; exact Nat.ne_of_lt (Nat.lt_of_lt_of_le (by have := World.block_lt_of_cell? _ _ b5; first | rwa [yaa] at this | exact this) a4.out)) | (show (Addr.add _ _).block ≠ _; rw [yaa]; exact Nat.ne_of_lt (Nat.lt_of_lt_of_le (by have := World.block_lt_of_cell? _ _ b5; first | rwa [yaa] at this | exact this) a4.out)) | (dsimp only; exact Nat.ne_of_lt (Nat.lt_of_lt_of_le (by have := World.block_lt_of_cell? _ _ b5; first | rwa [yaa] at this | exact this) a4.out))) _).trans (((yag (p := ⟨a6, _, none⟩) (by first | exact Nat.ne_of_lt (Nat.lt_of_lt_of_le (by have := World.block_lt_of_cell? _ _ b5; first | rwa [yaa] at this | exact this) a4.out) | (rw [yaa]; exact Nat.ne_of_lt (Nat.lt_of_lt_of_le (by have := World.block_lt_of_cell? _ _ b5; first | rwa [yaa] at this | exact this) a4.out)) | (show (Addr.add _ _).block ≠ _; rw [yaa]; exact Nat.ne_of_lt (Nat.lt_of_lt_of_le (by have := World.block_lt_of_cell? _ _ b5; first | rwa [yaa] at this | exact this) a4.out)) | (dsimp only; exact Nat.ne_of_lt (Nat.lt_of_lt_of_le (by have := World.block_lt_of_cell? _ _ b5; first | rwa [yaa] at this | exact this) a4.out))) _).trans (((yag (p := ⟨a6, _, none⟩) (by first | exact Nat.ne_of_lt (Nat.lt_of_lt_of_le (by have := World.block_lt_of_cell? _ _ b5; first | rwa [yaa] at this | exact this) a4.out) | (rw [yaa]; exact Nat.ne_of_lt (Nat.lt_of_lt_of_le (by have := World.block_lt_of_cell? _ _ b5; first | rwa [yaa] at this | exact this) a4.out)) | (show (Addr.add _ _).block ≠ _; rw [yaa]; exact Nat.ne_of_lt (Nat.lt_of_lt_of_le (by have := World.block_lt_of_cell? _ _ b5; first | rwa [yaa] at this | exact this) a4.out)) | (dsimp only; exact Nat.ne_of_lt (Nat.lt_of_lt_of_le (by have := World.block_lt_of_cell? _ _ b5; first | rwa [yaa] at this | exact this) a4.out))) _).trans (hHeld.2.2.2.1)))))), ((yag (p := ⟨a6, _, none⟩) (by first | exact Nat.ne_of_lt (Nat.lt_of_lt_of_le (by have := World.block_lt_of_cell? _ _ b4; first | rwa [yaa] at this | exact this) a4.out) | (rw [yaa]; exact Nat.ne_of_lt (Nat.lt_of_lt_of_le (by have := World.block_lt_of_cell? _ _ b4; first | rwa [yaa] at this | exact this) a4.out)) | (show (Addr.add _ _).block ≠ _; rw [yaa]; exact Nat.ne_of_lt (Nat.lt_of_lt_of_le (by have := World.block_lt_of_cell? _ _ b4; first | rwa [yaa] at this | exact this) a4.out)) | (dsimp only; exact Nat.ne_of_lt (Nat.lt_of_lt_of_le (by have := World.block_lt_of_cell? _ _ b4; first | rwa [yaa] at this | exact this) a4.out))) _).trans (((yag (p := ⟨a6, _, none⟩) (by first | exact Nat.ne_of_lt (Nat.lt_of_lt_of_le (by have := World.block_lt_of_cell? _ _ b4; first | rwa [yaa] at this | exact this) a4.out) | (rw [yaa]; exact Nat.ne_of_lt (Nat.lt_of_lt_of_le (by have := World.block_lt_of_cell? _ _ b4; first | rwa [yaa] at this | exact this) a4.out)) | (show (Addr.add _ _).block ≠ _; rw [yaa]; exact Nat.ne_of_lt (Nat.lt_of_lt_of_le (by have := World.block_lt_of_cell? _ _ b4; first | rwa [yaa] at this | exact this) a4.out)) | (dsimp only; exact Nat.ne_of_lt (Nat.lt_of_lt_of_le (by have := World.block_lt_of_cell? _ _ b4; first | rwa [yaa] at this | exact this) a4.out))) _).trans (((yag (p := ⟨a6, _, none⟩) (by first | exact Nat.ne_of_lt (Nat.lt_of_lt_of_le (by have := World.block_lt_of_cell? _ _ b4; first | rwa [yaa] at this | exact this) a4.out) | (rw [yaa]; exact Nat.ne_of_lt (Nat.lt_of_lt_of_le (by have := World.block_lt_of_cell? _ _ b4; first | rwa [yaa] at this | exact this) a4.out)) | (show (Addr.add _ _).block ≠ _; rw [yaa]; exact Nat.ne_of_lt (Nat.lt_of_lt_of_le (by have := World.block_lt_of_cell? _ _ b4; first | rwa [yaa] at this | exact this) a4.out)) | (dsimp only; exact Nat.ne_of_lt (Nat.lt_of_lt_of_le (by have := World.block_lt_of_cell? _ _ b4; first | rwa [yaa] at this | exact this) a4.out))) _).trans (hHeld.2.2.2.2.1)))))), ((yag (p := ⟨a6, _, none⟩) (by first | exact Nat.ne_of_lt (Nat.lt_of_lt_of_le (by have := World.block_lt_of_cell? _ _ b3; first | rwa [yaa] at this | exact this) a4.out) | (rw [yaa]; exact Nat.ne_of_lt (Nat.lt_of_lt_of_le (by have := World.block_lt_of_cell? _ _ b3; first | rwa [yaa] at this | exact this) a4.out)) | (show (Addr.add _ _).block ≠ _; rw [yaa]; exact Nat.ne_of_lt (Nat.lt_of_lt_of_le (by have := World.block_lt_of_cell? _ _ b3; first | rwa [yaa] at this | exact this) a4.out)) | (dsimp only; exact Nat.ne_of_lt (Nat.lt_of_lt_of_le (by have := World.block_lt_of_cell? _ _ b3; first | rwa [yaa] at this | exact this) a4.out))) _).trans (((yag (p := ⟨a6, _, none⟩) (by first | exact Nat.ne_of_lt (Nat.lt_of_lt_of_le (by have := World.block_lt_of_cell? _ _ b3; first | rwa [yaa] at this | exact this) a4.out) | (rw [yaa]; exact Nat.ne_of_lt (Nat.lt_of_lt_of_le (by have := World.block_lt_of_cell? _ _ b3; first | rwa [yaa] at this | exact this) a4.out)) | (show (Addr.add _ _).block ≠ _; rw [yaa]; exact Nat.ne_of_lt (Nat.lt_of_lt_of_le (by have := World.block_lt_of_cell? _ _ b3; first | rwa [yaa] at this | exact this) a4.out)) | (dsimp only; exact Nat.ne_of_lt (Nat.lt_of_lt_of_le (by have := World.block_lt_of_cell? _ _ b3; first | rwa [yaa] at this | exact this) a4.out))) _).trans (((yag (p := ⟨a6, _, none⟩) (by first | exact Nat.ne_of_lt (Nat.lt_of_lt_of_le (by have := World.block_lt_of_cell? _ _ b3; first | rwa [yaa] at this | exact this) a4.out) | (rw [yaa]; exact Nat.ne_of_lt (Nat.lt_of_lt_of_le (by have := World.block_lt_of_cell? _ _ b3; first | rwa [yaa] at this | exact this) a4.out)) | (show (Addr.add _ _).block ≠ _; rw [yaa]; exact Nat.ne_of_lt (Nat.lt_of_lt_of_le (by have := World.block_lt_of_cell? _ _ b3; first | rwa [yaa] at this | exact this) a4.out)) | (dsimp only; exact Nat.ne_of_lt (Nat.lt_of_lt_of_le (by have := World.block_lt_of_cell? _ _ b3; first | rwa [yaa] at this | exact this) a4.out))) _).trans (hHeld.2.2.2.2.2.1)))))), ((yag (p := ⟨a6, _, none⟩) (by first | exact Nat.ne_of_lt (Nat.lt_of_lt_of_le (by have := World.block_lt_of_cell? _ _ b2; first | rwa [yaa] at this | exact this) a4.out) | (rw [yaa]; exact Nat.ne_of_lt (Nat.lt_of_lt_of_le (by have := World.block_lt_of_cell? _ _ b2; first | rwa [yaa] at this | exact this) a4.out)) | (show (Addr.add _ _).block ≠ _; rw [yaa]; exact Nat.ne_of_lt (Nat.lt_of_lt_of_le (by have := World.block_lt_of_cell? _ _ b2; first | rwa [yaa] at this | exact this) a4.out)) | (dsimp only; exact Nat.ne_of_lt (Nat.lt_of_lt_of_le (by have := World.block_lt_of_cell? _ _ b2; first | rwa [yaa] at this | exact this) a4.out))) _).trans (((yag (p := ⟨a6, _, none⟩) (by first | exact Nat.ne_of_lt (Nat.lt_of_lt_of_le (by have := World.block_lt_of_cell? _ _ b2; first | rwa [yaa] at this | exact this) a4.out) | (rw [yaa]; exact Nat.ne_of_lt (Nat.lt_of_lt_of_le (by have := World.block_lt_of_cell? _ _ b2; first | rwa [yaa] at this | exact this) a4.out)) | (show (Addr.add _ _).block ≠ _; rw [yaa]; exact Nat.ne_of_lt (Nat.lt_of_lt_of_le (by have := World.block_lt_of_cell? _ _ b2; first | rwa [yaa] at this | exact this) a4.out)) | (dsimp only; exact Nat.ne_of_lt (Nat.lt_of_lt_of_le (by have := World.block_lt_of_cell? _ _ b2; first | rwa [yaa] at this | exact this) a4.out))) _).trans (((yag (p := ⟨a6, _, none⟩) (by first | exact Nat.ne_of_lt (Nat.lt_of_lt_of_le (by have := World.block_lt_of_cell? _ _ b2; first | rwa [yaa] at this | exact this) a4.out) | (rw [yaa]; exact Nat.ne_of_lt (Nat.lt_of_lt_of_le (by have := World.block_lt_of_cell? _ _ b2; first | rwa [yaa] at this | exact this) a4.out)) | (show (Addr.add _ _).block ≠ _; rw [yaa]; exact Nat.ne_of_lt (Nat.lt_of_lt_of_le (by have := World.block_lt_of_cell? _ _ b2; first | rwa [yaa] at this | exact this) a4.out)) | (dsimp only; exact Nat.ne_of_lt (Nat.lt_of_lt_of_le (by have := World.block_lt_of_cell? _ _ b2; first | rwa [yaa] at this | exact this) a4.out))) _).trans (hHeld.2.2.2.2.2.2.1)))))), ((yag (p := ⟨a6, _, none⟩) (by first | exact Nat.ne_of_lt (Nat.lt_of_lt_of_le (by have := World.block_lt_of_cell? _ _ b1; first | rwa [yaa] at this | exact this) a4.out) | (rw [yaa]; exact Nat.ne_of_lt (Nat.lt_of_lt_of_le (by have := World.block_lt_of_cell? _ _ b1; first | rwa [yaa] at this | exact this) a4.out)) | (show (Addr.add _ _).block ≠ _; rw [yaa]; exact Nat.ne_of_lt (Nat.lt_of_lt_of_le (by have := World.block_lt_of_cell? _ _ b1; first | rwa [yaa] at this | exact this) a4.out)) | (dsimp only; exact Nat.ne_of_lt (Nat.lt_of_lt_of_le (by have := World.block_lt_of_cell? _ _ b1; first | rwa [yaa] at this | exact this) a4.out))) _).trans (((yag (p := ⟨a6, _, none⟩) (by first | exact Nat.ne_of_lt (Nat.lt_of_lt_of_le (by have := World.block_lt_of_cell? _ _ b1; first | rwa [yaa] at this | exact this) a4.out) | (rw [yaa]; exact Nat.ne_of_lt (Nat.lt_of_lt_of_le (by have := World.block_lt_of_cell? _ _ b1; first | rwa [yaa] at this | exact this) a4.out)) | (show (Addr.add _ _).block ≠ _; rw [yaa]; exact Nat.ne_of_lt (Nat.lt_of_lt_of_le (by have := World.block_lt_of_cell? _ _ b1; first | rwa [yaa] at this | exact this) a4.out)) | (dsimp only; exact Nat.ne_of_lt (Nat.lt_of_lt_of_le (by have := World.block_lt_of_cell? _ _ b1; first | rwa [yaa] at this | exact this) a4.out))) _).trans (((yag (p := ⟨a6, _, none⟩) (by first | exact Nat.ne_of_lt (Nat.lt_of_lt_of_le (by have := World.block_lt_of_cell? _ _ b1; first | rwa [yaa] at this | exact this) a4.out) | (rw [yaa]; exact Nat.ne_of_lt (Nat.lt_of_lt_of_le (by have := World.block_lt_of_cell? _ _ b1; first | rwa [yaa] at this | exact this) a4.out)) | (show (Addr.add _ _).block ≠ _; rw [yaa]; exact Nat.ne_of_lt (Nat.lt_of_lt_of_le (by have := World.block_lt_of_cell? _ _ b1; first | rwa [yaa] at this | exact this) a4.out)) | (dsimp only; exact Nat.ne_of_lt (Nat.lt_of_lt_of_le (by have := World.block_lt_of_cell? _ _ b1; first | rwa [yaa] at this | exact this) a4.out))) _).trans (hHeld.2.2.2.2.2.2.2))))))⟩ (fun hHeld => ?_)
         clear hK K
         refine pz_ 11 9 q28_16 HT_ (by kernel_rfl) ?_
         refine done_ (done_of HT_.out (by kernel_rfl)) ?_
         have x6 := e4.out; have x8 := e2.out; have x9 := e3.out; have y5 := f5.out; have y6 := c0.out; have y7 := c6.out; obtain ⟨r8, r9, s0⟩ := cc3_ b6.out; obtain ⟨s1, s2, s3⟩ := cf3_ b6.out
         try go_wp2
         refine bodyPost_ret (results_ct rfl _ _ d1 25 #[.int .i64 0, .int .i64 0, .slice none 0 0] (0, 0) _ rfl (by (repeat refine oneB ?_); refine blk_put (cs := #[.int .i64 0, .int .i64 0, .slice none 0 0]) ?_ 2 _ rfl; refine blk_put (cs := #[.int .i64 0, .int .i64 d3, .slice none 0 0]) ?_ 1 _ rfl; refine blk_put (cs := #[.int .i64 d5, .int .i64 d3, .slice none 0 0]) ?_ 0 _ rfl; (repeat refine oneB ?_); refine blk_far ?_ c0.out _; (repeat refine oneB ?_); refine blk_far ?_ c0.out _; (repeat refine oneB ?_); refine blk_far ?_ c0.out _; exact upB b6.out) Try.underlying25 rfl (by kernel_rfl)) rfl ?_
         exact ⟨_, by first | rfl | (simp [*, errW_none, errW_some] <;> rfl), by first | exact Kd.R_nil _ _ _ _ _ | exact Kd.N_nil _ _ _ _ _ | exact Kd.V_nil _ _ _ _ _ | exact Kd.Q_nil _ _ _ _ _ | exact Kd.S_nil _ _ _ _ _, by repeat (with_reducible first | exact HB.out | apply yae | apply yac | apply yad | refine yaf ?_ (Aside0.out ‹_›))⟩
       ·
        rw [if_neg c29] at H
        exact absurd H (by simp)
      ·
       rw [if_neg c28] at H
       have l9 : decide (a7 < (l1.length : Int)) = false := decide_eq_false c28; clear c28
       simp only [Option.some.injEq, Prod.mk.injEq] at H
       obtain ⟨rfl, rfl, rfl, rfl⟩ := H; have y8 := g1.out; have y9 := e5.out; have z0 := f5.out; have z1 := e3.out; obtain ⟨s4, s5, s6⟩ := cc3_ b0.out; obtain ⟨s7, s8, s9⟩ := cf3_ b0.out; have z2 := e4.out; have z3 := e2.out; obtain ⟨t0, t1, t2⟩ := cc3_ b6.out; obtain ⟨t3, t4, t5⟩ := cf3_ b6.out; obtain ⟨m3, m4, u0⟩ := Kd.R_slice a5.out; subst u0
       go_wp2
       refine bodyPost_ret (results_ct rfl _ _ d1 25 #[.int .i64 b8, .int .i64 b9, .slice m3 a8.length m4] (0, 0) _ rfl (by (repeat refine oneB ?_); refine blk_put (cs := #[.int .i64 b8, .int .i64 b9, .slice none 0 0]) ?_ 2 _ rfl; refine blk_put (cs := #[.int .i64 b8, .int .i64 d3, .slice none 0 0]) ?_ 1 _ rfl; refine blk_put (cs := #[.int .i64 d5, .int .i64 d3, .slice none 0 0]) ?_ 0 _ rfl; exact upB b6.out) Try.underlying25 rfl (by kernel_rfl)) rfl ?_
       exact ⟨_, by first | rfl | (simp [*, errW_none, errW_some] <;> rfl), by (with_reducible repeat (first | apply Kd.R_alloc | apply Kd.R_drewN | apply Kd.R_drew)); exact Kd.R_mono (Kd.R_far (p := ⟨d1, 2, none⟩) (Kd.R_far (p := ⟨d1, 1, none⟩) (Kd.R_far (p := ⟨d1, 0, none⟩) (Kd.R_types a5.out b6.out (by decide)) (fun _ hk => hk.2) (.int .i64 b8)) (fun _ hk => hk.2) (.int .i64 b9)) (fun _ hk => hk.2) (.slice m3 a8.length m4)) (fun _ hk => trivial), by repeat (with_reducible first | exact HB.out | apply yae | apply yac | apply yad | refine yaf ?_ (Aside0.out ‹_›))⟩

end Go.Proofs.Ytoifpgkfpdeglaa.X

namespace Go.Proofs.Ytoifpgkfpdeglaa.X
open Go.RowKit Go.Proofs.YtoifpgkfpdeglaaW.PrintWords Go.Proofs.YtoifpgkfpdeglaaW.PrintLast Go.Proofs.YtoifpgkfpdeglaaW.PrintMore
attribute [local go_sem] max2_int min2_int max_two min_two max_three min_three max_four min_four
set_option linter.unusedVariables false
set_option linter.unusedSimpArgs false

/-! ### laws_szOpOpS: function 29 -/
def laws_szOpOpS.f (l0 : List (S45)) (a1 : Int) : Option (Int) := if (wrap64 (a1 - (l0.length : Int))) < 0 then (some (-1)) else (some (wrap64 (a1 - (l0.length : Int))))
set_option maxHeartbeats 8000000 in
set_option maxRecDepth 100000 in
theorem laws_szOpOpS.calls (A0 : Option Addr) (c0 : Nat) (l0 : List (S45)) (a1 : Int) (r : Int) (w : World) (hr0 : Kd.C k45 w A0 l0.length l0) (hc0 : l0.length ≤ c0) (h : laws_szOpOpS.f l0 a1 = some r) :
    Calls Try.prog 29 #[.slice A0 l0.length c0, .int .i64 a1] w fun e w' => e = .returned (.int .i64 r) ∧ Drawn0 w w' := by
  have HR0 := Aside0.mk hr0; have HC0 := Aside0.mk hc0; clear hr0 hc0; have H : (if (wrap64 (a1 - (l0.length : Int))) < 0 then (some (-1)) else (some (wrap64 (a1 - (l0.length : Int))))) = some r := h; clear h
  by_cases c3 : (wrap64 (a1 - (l0.length : Int))) < 0
  · rw [if_pos c3] at H
    have c3b0 : decide ((wrap64 (a1 - (l0.length : Int))) < 0) = true := decide_eq_true c3; clear c3; obtain rfl := Option.some.inj H
    go_enter Try.func29, Try.ntmps29
    go_wp2
    go_ret
    exact ⟨by first | rfl | (simp; done) | (simp [*]; done), by repeat (first | exact Drawn0.refl _ | apply Drawn0.step)⟩
  · rw [if_neg c3] at H
    have c3b0 : decide ((wrap64 (a1 - (l0.length : Int))) < 0) = false := decide_eq_false c3; clear c3; obtain rfl := Option.some.inj H
    go_enter Try.func29, Try.ntmps29
    go_wp2
    go_ret
    exact ⟨by first | rfl | (simp; done) | (simp [*]; done), by repeat (first | exact Drawn0.refl _ | apply Drawn0.step)⟩

end Go.Proofs.Ytoifpgkfpdeglaa.X

namespace Go.Proofs.Ytoifpgkfpdeglaa.X
open Go.RowKit Go.Proofs.YtoifpgkfpdeglaaW.PrintWords Go.Proofs.YtoifpgkfpdeglaaW.PrintLast Go.Proofs.YtoifpgkfpdeglaaW.PrintMore
attribute [local go_sem] max2_int min2_int max_two min_two max_three min_three max_four min_four
set_option linter.unusedVariables false
set_option linter.unusedSimpArgs false

open Go.Proofs.YtoifpgkfpdeglaaW.PrintWords.Aside0 renaming mk → yaa

/-! ### laws_toOpOp: function 22 -/
def laws_toOpOp.f (a0_0 : Int) (a0_1 : Int) (a0_2 : Int) (a0_3 : Int) (a0_4 : Int) : Option (Int × Int × Int × Int × Int) := some (a0_0, a0_1, a0_2, a0_3, a0_4)
set_option maxHeartbeats 8000000 in
set_option maxRecDepth 100000 in
theorem laws_toOpOp.calls (a0_0 : Int) (a0_1 : Int) (a0_2 : Int) (a0_3 : Int) (a0_4 : Int) (r1 : Int) (r2 : Int) (r3 : Int) (r4 : Int) (r5 : Int) (w : World) (h : laws_toOpOp.f a0_0 a0_1 a0_2 a0_3 a0_4 = some (r1, r2, r3, r4, r5)) :
  Calls Try.prog 22 #[.agg #[.int .i64 a0_0, .int .i64 a0_1, .int .i64 a0_2, .int .i64 a0_3, .int .i64 a0_4]] w fun e w' => e = .returned (.agg #[.int .i64 r1, .int .i64 r2, .int .i64 r3, .int .i64 r4, .int .i64 r5]) ∧ Below w.heap.size w w' := by
 have hu45 := Try.underlying45; have hu27 := Try.underlying27; have HB := yaa (Below.refl w.heap.size w); have H : (some (a0_0, a0_1, a0_2, a0_3, a0_4)) = some (r1, r2, r3, r4, r5) := h; clear h
 simp only [Option.some.injEq, Prod.mk.injEq] at H
 obtain ⟨rfl, rfl, rfl, rfl, rfl⟩ := H
 go_enter Try.func22, Try.ntmps22
 go_wp2_with (first | ((with_reducible refine gate_dst (N := 1) rfl ?_); refine bx_ 1 #[.int .i64 a0_0, .int .i64 a0_1, .int .i64 a0_2, .int .i64 a0_3, .int .i64 a0_4] 45 ?_; intro a9 hg w2 hbox hb; have a1 := yaa (hbox); have b2 := yaa ((by rw [hg]; exact (below_size (upH HB.out)) : w.heap.size ≤ a9)); replace HB := yaa (below_step (upH HB.out) hb); have e7 := b2; clear hb hbox hg) | ((with_reducible refine gate_dst (N := 2) rfl ?_); refine bx_ 2 #[.int .i64 0, .int .i64 0, .int .i64 0, .int .i64 0, .int .i64 0] 27 ?_; intro a5 hg w3 hbox hb; have a2 := yaa (hbox); have b3 := yaa ((by rw [hg]; exact (below_size (by repeat (with_reducible first | exact HB.out | apply below_alloc | apply pw_below_drewN | apply below_drew1 | refine below_set ?_ (Aside0.out ‹_›)))) : w.heap.size ≤ a5)); replace HB := yaa (below_step (by repeat (with_reducible first | exact HB.out | apply below_alloc | apply pw_below_drewN | apply below_drew1 | refine below_set ?_ (Aside0.out ‹_›))) hb); have e8 := b3; have a3 := yaa ((by rw [hg]; exact Nat.ne_of_lt (blk_lt (upB a1.out)) : a9 ≠ a5)); replace a1 := yaa (blk_below (upB a1.out) hb); have a6 := yaa a3.out.symm; clear hb hbox hg) | ((with_reducible refine gate_dst (N := 3) rfl ?_); refine bx_ 3 #[.int .i64 0, .int .i64 0, .int .i64 0, .int .i64 0, .int .i64 0] 27 ?_; intro b0 hg w4 hbox hb; have b1 := yaa (hbox); have b4 := yaa ((by rw [hg]; exact (below_size (by repeat (with_reducible first | exact HB.out | apply below_alloc | apply pw_below_drewN | apply below_drew1 | refine below_set ?_ (Aside0.out ‹_›)))) : w.heap.size ≤ b0)); replace HB := yaa (below_step (by repeat (with_reducible first | exact HB.out | apply below_alloc | apply pw_below_drewN | apply below_drew1 | refine below_set ?_ (Aside0.out ‹_›))) hb); have e9 := b4; have a4 := yaa ((by rw [hg]; exact Nat.ne_of_lt (blk_lt (upB a1.out)) : a9 ≠ b0)); replace a1 := yaa (blk_below (upB a1.out) hb); have a7 := yaa a4.out.symm; have a0 := yaa ((by rw [hg]; exact Nat.ne_of_lt (blk_lt (upB a2.out)) : a5 ≠ b0)); replace a2 := yaa (blk_below (upB a2.out) hb); have a8 := yaa a0.out.symm; clear hb hbox hg; have f0 := a3.out; have f1 := a6.out; have f2 := a4.out; have f3 := a7.out; obtain ⟨c6, c7, c8, c9, d0⟩ := cc5_ a1.out; obtain ⟨d1, d2, d3, d4, d5⟩ := cf5_ a1.out; have f4 := a8.out; have f5 := a0.out; obtain ⟨d7, d8, d9, e0, e1⟩ := cc5_ b1.out; obtain ⟨e2, e3, e4, e5, e6⟩ := cf5_ b1.out; obtain ⟨b6, b7, b8, b9, c0⟩ := cc5_ a2.out; obtain ⟨c1, c2, c3, c4⟩ := cf4_ a2.out; have c5 := blk_frozen a2.out 4))
 refine bodyPost_ret (results_cell_row rfl _ _ a5 27 #[.int .i64 a0_0, .int .i64 a0_1, .int .i64 a0_2, .int .i64 a0_3, .int .i64 a0_4] (0, 0) _ rfl (by (repeat refine oneB ?_); refine blk_put (cs := #[.int .i64 a0_0, .int .i64 a0_1, .int .i64 a0_2, .int .i64 a0_3, .int .i64 0]) ?_ 4 _ rfl; refine blk_put (cs := #[.int .i64 a0_0, .int .i64 a0_1, .int .i64 a0_2, .int .i64 0, .int .i64 0]) ?_ 3 _ rfl; refine blk_put (cs := #[.int .i64 a0_0, .int .i64 a0_1, .int .i64 0, .int .i64 0, .int .i64 0]) ?_ 2 _ rfl; refine blk_put (cs := #[.int .i64 a0_0, .int .i64 0, .int .i64 0, .int .i64 0, .int .i64 0]) ?_ 1 _ rfl; refine blk_put (cs := #[.int .i64 0, .int .i64 0, .int .i64 0, .int .i64 0, .int .i64 0]) ?_ 0 _ rfl; (repeat refine oneB ?_); refine blk_far ?_ a0.out _; (repeat refine oneB ?_); refine blk_far ?_ a0.out _; (repeat refine oneB ?_); refine blk_far ?_ a0.out _; (repeat refine oneB ?_); refine blk_far ?_ a0.out _; (repeat refine oneB ?_); refine blk_far ?_ a0.out _; exact upB a2.out) Try.underlying27 rfl (by kernel_rfl)) rfl ?_
 exact ⟨by first | rfl | (simp [*, errW_none, errW_some] <;> rfl), by repeat (with_reducible first | exact HB.out | apply below_alloc | apply pw_below_drewN | apply below_drew1 | refine below_set ?_ (Aside0.out ‹_›))⟩

end Go.Proofs.Ytoifpgkfpdeglaa.X

namespace Go.Proofs.Ytoifpgkfpdeglaa.X
open Go.RowKit Go.Proofs.YtoifpgkfpdeglaaW.PrintWords Go.Proofs.YtoifpgkfpdeglaaW.PrintLast Go.Proofs.YtoifpgkfpdeglaaW.PrintMore
attribute [local go_sem] max2_int min2_int max_two min_two max_three min_three max_four min_four
set_option linter.unusedVariables false
set_option linter.unusedSimpArgs false

open Go.Proofs.YtoifpgkfpdeglaaW.PrintWords.Aside0 renaming mk → yaa

/-! ### laws_toOpOpS: function 30 -/
def laws_toOpOpS.l0 : Nat → List (S45) → List (S27) → Int → Option ((List (S27)))
 | 0, _, _, _ => none
 | k + 1, x0, x3, x4 => if x4 < (x0.length : Int) then (if 0 ≤ x4 then ((laws_toOpOp.f ((rd_T45 x0 x4).f0) ((rd_T45 x0 x4).f1) ((rd_T45 x0 x4).f2) ((rd_T45 x0 x4).f3) ((rd_T45 x0 x4).f4)).bind fun bt105 => (if x4 < (x3.length : Int) then (laws_toOpOpS.l0 k x0 (x3.set (x4 : Int).toNat (⟨bt105.1, bt105.2.1, bt105.2.2.1, bt105.2.2.2.1, bt105.2.2.2.2⟩ : S27)) (wrap64 (x4 + 1))) else (none))) else (none)) else (some x3)
def laws_toOpOpS.f (k : Nat) (l0 : List (S45)) : Option ((List (S27))) := if 0 ≤ (l0.length : Int) then (if ((l0.length : Int) : Int).toNat ≤ 7036874417766 then (laws_toOpOpS.l0 k l0 (List.replicate ((l0.length : Int) : Int).toNat z27) 0) else (none)) else (none)
set_option maxHeartbeats 8000000 in
set_option maxRecDepth 100000 in
theorem laws_toOpOpS.calls (k : Nat) (A0 : Option Addr) (c0 : Nat) (l0 : List (S45)) (r : List (S27)) (w : World) (hr0 : Kd.C k45 w A0 l0.length l0) (hc0 : l0.length ≤ c0) (h : laws_toOpOpS.f k l0 = some r) :
  Calls Try.prog 30 #[.slice A0 l0.length c0] w fun e w' => ∃ v0_ : Value, e = .returned (v0_) ∧ Kd.R k27 27 w' w.heap.size (fun _ => True) v0_ r ∧ Below w.heap.size w w' := by
 have hu45 := Try.underlying45; have hu27 := Try.underlying27; have HR0 := yaa hr0; have HC0 := yaa hc0; clear hr0 hc0; have HB := yaa (Below.refl w.heap.size w); have H : (if 0 ≤ (l0.length : Int) then (if ((l0.length : Int) : Int).toNat ≤ 7036874417766 then (laws_toOpOpS.l0 k l0 (List.replicate ((l0.length : Int) : Int).toNat z27) 0) else (none)) else (none)) = some r := h; clear h
 by_cases c2 : 0 ≤ (l0.length : Int)
 ·
  rw [if_pos c2] at H
  have c8 := eq_true c2; have d0 : decide (0 ≤ (l0.length : Int)) = true := decide_eq_true c2; clear c2
  by_cases c3 : ((l0.length : Int) : Int).toNat ≤ 7036874417766
  ·
   rw [if_pos c3] at H
   have d1 := eq_true c3; have d2 : decide (((l0.length : Int) : Int).toNat ≤ 7036874417766) = true := decide_eq_true c3; clear c3; obtain ⟨y101, hy101⟩ : ∃ y_ : List (S27), y_ = (List.replicate ((l0.length : Int) : Int).toNat z27) := ⟨_, rfl⟩
   replace H : (laws_toOpOpS.l0 k l0 y101 0) = some r := by first | (rw [hy101]; with_reducible exact H) | (have H2_ := (Option.bind_some _ _).symm.trans H; rw [hy101]; with_reducible exact H2_) | (have H2_ := (Option.bind_some _ _).symm.trans H; with_reducible exact H2_) | with_reducible exact H | (rw [hy101]; exact H) | exact H
   have Ny101 := yaa hy101; clear hy101; have H' := yaa H; clear H
   go_enter Try.func30, Try.ntmps30
   go_wp2_with (first | ((with_reducible refine gate_dst (N := 7) rfl ?_); refine Kd.R_make k27 _ 27 rfl (N := 7) rfl 51 _ _ rfl (l0.length : Int) rfl rfl Try.underlying51 (.agg #[(.int .i64 0), (.int .i64 0), (.int .i64 0), (.int .i64 0), (.int .i64 0)]) 40 info27 rfl (by decide) (by omega) z27 (ok := fun _ => True) (okp := fun _ => True) (k27_mkM _ _ _ z27 ) (fun _ hk => hk) trivial (of_decide_eq_true (by first | (with_reducible assumption) | assumption)) (Nat.le_trans (Nat.mul_le_mul_right _ (of_decide_eq_true (by first | (with_reducible assumption) | assumption) : (l0.length : Int).toNat ≤ 7036874417766)) (by omega)) (Below.refl _ _) (Nat.le_refl _) ?_; intro d3 w4 ho5 hb hg_ hnew_; clear hg_ hnew_; (first | rw [← Ny101.out] at ho5 | (simp only [Int.reduceToNat] at ho5; rw [← Ny101.out] at ho5)); have b4 := yaa (Kd.R_lower ho5 (below_size (upH HB.out))); replace HB := yaa (below_step (upH HB.out) hb); clear hb ho5))
   (try simp only [Act.put, List.setIfInBounds_toArray, List.set_cons_zero, List.set_cons_succ])
   go_loopg [4] k (fun kq v4 w' => ∃ (a2 : List (S27)) (a1 : Int), v4 = .int .i64 a1 ∧ Aside0 (laws_toOpOpS.l0 kq l0 a2 a1 = some r) ∧ Aside0 (kq ≤ k) ∧ Aside0 (Kd.R k27 27 w' w.heap.size (fun _ => True) d3 a2) ∧ Aside0 (Below w.heap.size w w'))
   case atStart => exact ⟨(y101), (0), (by first | rfl | (simp; done) | (simp [*]; done)), H', ⟨Nat.le_refl _⟩, ⟨by first | exact b4.out | exact upR b4.out⟩, ⟨upH HB.out⟩⟩
   case round =>
    clear H'; (try clear c2); (try clear c8); (try clear d0); (try clear p2); (try clear c3); (try clear d1); (try clear d2); obtain ⟨a2, a1, rfl, HA, HK1, a3, HB⟩ := hrel
    cases gk with
    | zero => exact absurd HA.out (by simp [laws_toOpOpS.l0])
    | succ k1 =>
     have H := HA.out; clear HA
     simp only [laws_toOpOpS.l0] at H
     by_cases c6 : a1 < (l0.length : Int)
     ·
      rw [if_pos c6] at H
      have d4 : decide (a1 < (l0.length : Int)) = true := decide_eq_true c6; clear c6
      by_cases c7 : 0 ≤ a1
      ·
       rw [if_pos c7] at H
       have e1 : decide (0 ≤ a1) = true := decide_eq_true c7; clear c7; replace H := Option.bind_eq_some_iff.mp H; obtain ⟨⟨a9, b0, b1, b2, b3⟩, A80, H⟩ := H; (try dsimp only at H); have A8 := yaa A80; clear A80
       by_cases c9 : a1 < (a2.length : Int)
       ·
        rw [if_pos c9] at H
        have e2 : decide (a1 < (a2.length : Int)) = true := decide_eq_true c9; clear c9; obtain ⟨y110, hy110⟩ : ∃ y_ : List (S27), y_ = (a2.set (a1 : Int).toNat (⟨a9, b0, b1, b2, b3⟩ : S27)) := ⟨_, rfl⟩
        replace H : (laws_toOpOpS.l0 k1 l0 y110 (wrap64 (a1 + 1))) = some r := by first | (rw [hy110]; with_reducible exact H) | (have H2_ := (Option.bind_some _ _).symm.trans H; rw [hy110]; with_reducible exact H2_) | (have H2_ := (Option.bind_some _ _).symm.trans H; with_reducible exact H2_) | with_reducible exact H | (rw [hy110]; exact H) | exact H
        have Ny110 := yaa hy110; clear hy110; have H' := yaa H; clear H
        have p104 : 0 ≤ (a1 : Int) := of_decide_eq_true (by first | (with_reducible assumption) | assumption)
        have q104 : a1 < (l0.length : Int) := of_decide_eq_true (by first | (with_reducible assumption) | assumption)
        obtain ⟨ad104, d5, a4, a5, a6, a7, a8⟩ := at_T45 HR0.out a1 p104 q104
        cases d5
        replace a4 := (HB.out.cell (World.block_lt_of_cell? w _ a4)).trans a4; replace a5 := (HB.out.cell (World.block_lt_of_cell? w _ a5)).trans a5; replace a6 := (HB.out.cell (World.block_lt_of_cell? w _ a6)).trans a6; replace a7 := (HB.out.cell (World.block_lt_of_cell? w _ a7)).trans a7; replace a8 := (HB.out.cell (World.block_lt_of_cell? w _ a8)).trans a8; replace p104 := eq_true p104; replace q104 := eq_true q104
        go_wp2_with (first | ((with_reducible refine gate_callee (f := 22) rfl ?_); refine gl_ (some 20) rfl Try.func22 #[.agg #[.int .i64 ((rd_T45 l0 a1).f0), .int .i64 ((rd_T45 l0 a1).f1), .int .i64 ((rd_T45 l0 a1).f2), .int .i64 ((rd_T45 l0 a1).f3), .int .i64 ((rd_T45 l0 a1).f4)]] ?_; (with_reducible refine (laws_toOpOp.calls ((rd_T45 l0 a1).f0) ((rd_T45 l0 a1).f1) ((rd_T45 l0 a1).f2) ((rd_T45 l0 a1).f3) ((rd_T45 l0 a1).f4) a9 b0 b1 b2 b3 _ A8.out).mono ?_); rintro e w11 ⟨rfl, hb⟩; refine ⟨_, rfl, ?_⟩; replace a3 := yaa (Kd.R_below (upR a3.out) hb); replace HB := yaa (below_step (upH HB.out) hb); (try clear hb); (try clear hb2); (try clear hk); (try clear hi); have p10 : 0 ≤ (a1 : Int) := of_decide_eq_true (by first | (with_reducible assumption) | assumption); have q10 : (a1 : Int) < ((a2.length : Int) : Int) := of_decide_eq_true (by first | (with_reducible assumption) | assumption); obtain ⟨go10, c1, c4, c5, gl10, e3, HG10⟩ := Kd.R_form a3.out (by omega); (first | cases c4 | (injection c4 with ea_ en_ ec_; (first | subst ea_ | (injection ea_ with ea_; subst ea_)); subst ec_; clear en_)); have GB10 := yaa c5; have GG10 := yaa HG10; clear c5 gl10 HG10; obtain ⟨e4, hcl10, hM10, hcc10, hfr10⟩ := Kd.R_elem a3.out z27 (a1 : Int) p10 q10; obtain rfl := k27_openM hM10; have d6 : w11.cell? ⟨go10, (a1 : Int).toNat * 5, none⟩ = some (.int .i64 ((rd_T27 a2 a1).f0)) := hcc10 0 _ rfl; have d7 : w11.cell? ⟨go10, (a1 : Int).toNat * 5 + 1, none⟩ = some (.int .i64 ((rd_T27 a2 a1).f1)) := hcc10 1 _ rfl; have d8 : w11.cell? ⟨go10, (a1 : Int).toNat * 5 + 2, none⟩ = some (.int .i64 ((rd_T27 a2 a1).f2)) := hcc10 2 _ rfl; have d9 : w11.cell? ⟨go10, (a1 : Int).toNat * 5 + 3, none⟩ = some (.int .i64 ((rd_T27 a2 a1).f3)) := hcc10 3 _ rfl; have e0 : w11.cell? ⟨go10, (a1 : Int).toNat * 5 + 4, none⟩ = some (.int .i64 ((rd_T27 a2 a1).f4)) := hcc10 4 _ rfl; have hf10_0 : w11.frozen? ⟨go10, (a1 : Int).toNat * 5, none⟩ = false := hfr10 0; have hf10_1 : w11.frozen? ⟨go10, (a1 : Int).toNat * 5 + 1, none⟩ = false := hfr10 1; have hf10_2 : w11.frozen? ⟨go10, (a1 : Int).toNat * 5 + 2, none⟩ = false := hfr10 2; have hf10_3 : w11.frozen? ⟨go10, (a1 : Int).toNat * 5 + 3, none⟩ = false := hfr10 3; have hf10_4 : w11.frozen? ⟨go10, (a1 : Int).toNat * 5 + 4, none⟩ = false := hfr10 4; clear hcl10 hcc10 hfr10 hM10; replace p10 := eq_true p10; replace q10 := eq_true q10; have HX12 := yaa (show Kd.R k27 27 w11 w.heap.size (fun _ => True) (.slice (some ⟨go10, 0, none⟩) a2.length c1) a2 from (upR a3.out)); obtain ⟨e5, hcl12, hM12, hcc12, hfr12⟩ := Kd.R_elem HX12.out z27 (a1 : Int) (of_decide_eq_true (by first | (with_reducible assumption) | assumption)) (by have h_ : (a1 : Int) < ((a2.length : Int) : Int) := of_decide_eq_true (by first | (with_reducible assumption) | assumption); first | exact h_ | (have e_ := (Kd.R_reads' a3.out).1; omega) | simpa using h_); obtain rfl := k27_openM hM12; have HP12 := Kd.R_seg HX12.out (a1 : Int) (of_decide_eq_true (by first | (with_reducible assumption) | assumption)) (by have h_ : (a1 : Int) < ((a2.length : Int) : Int) := of_decide_eq_true (by first | (with_reducible assumption) | assumption); first | exact h_ | (have e_ := (Kd.R_reads' a3.out).1; omega) | simpa using h_) (seg := [.int .i64 a9, .int .i64 b0, .int .i64 b1, .int .i64 b2, .int .i64 b3]) (j := 0) hcl12 hcc12 (show 5 ≤ 5 from by decide) (x' := (⟨a9, b0, b1, b2, b3⟩ : S27)) (k27_mkM _ _ _ (⟨a9, b0, b1, b2, b3⟩ : S27) ) (fun _ hk => hk); have b5 := hcc12 0 _ rfl; (try simp only [show (k27).sz = 5 from rfl, Nat.mul_one, Nat.add_zero] at b5); have hf12_0 := hfr12 0; (try simp only [show (k27).sz = 5 from rfl, Nat.mul_one, Nat.add_zero] at hf12_0); have b6 := hcc12 1 _ rfl; (try simp only [show (k27).sz = 5 from rfl, Nat.mul_one, Nat.add_zero] at b6); have hf12_1 := hfr12 1; (try simp only [show (k27).sz = 5 from rfl, Nat.mul_one, Nat.add_zero] at hf12_1); have b7 := hcc12 2 _ rfl; (try simp only [show (k27).sz = 5 from rfl, Nat.mul_one, Nat.add_zero] at b7); have hf12_2 := hfr12 2; (try simp only [show (k27).sz = 5 from rfl, Nat.mul_one, Nat.add_zero] at hf12_2); have b8 := hcc12 3 _ rfl; (try simp only [show (k27).sz = 5 from rfl, Nat.mul_one, Nat.add_zero] at b8); have hf12_3 := hfr12 3; (try simp only [show (k27).sz = 5 from rfl, Nat.mul_one, Nat.add_zero] at hf12_3); have b9 := hcc12 4 _ rfl; (try simp only [show (k27).sz = 5 from rfl, Nat.mul_one, Nat.add_zero] at b9); have hf12_4 := hfr12 4; (try simp only [show (k27).sz = 5 from rfl, Nat.mul_one, Nat.add_zero] at hf12_4); clear hcl12 hcc12 hfr12 hM12) | ((with_reducible refine gate_store (t := 27) (p := 21) rfl ?_); refine store_event (t := 27) (p := 21) (v := ?vo_w13) (w1 := (((((w11.setCell ⟨go10, (a1 : Int).toNat * 5, none⟩ (.int .i64 a9)).setCell ⟨go10, (a1 : Int).toNat * 5 + 1, none⟩ (.int .i64 b0)).setCell ⟨go10, (a1 : Int).toNat * 5 + 2, none⟩ (.int .i64 b1)).setCell ⟨go10, (a1 : Int).toNat * 5 + 3, none⟩ (.int .i64 b2)).setCell ⟨go10, (a1 : Int).toNat * 5 + 4, none⟩ (.int .i64 b3))) ?hg ?ho ?hn ?hr ?_; (case ho => rfl); (case hg => rfl); (case hn => rfl); (case hr => first | (go_simp; done) | (go_simp; rfl)); intro w13 hw; have hg : w11.grownBy w13 (some go10) := (by rw [hw]; exact HP12.2); have hp_ : Kd.R k27 27 w13 w.heap.size (fun _ => True) (.slice (some ⟨go10, 0, none⟩) a2.length c1) y110 := (by rw [hw, Ny110.out]; exact HP12.1); clear HP12; replace a3 := yaa (hp_); replace HB := yaa ((by rw [hw]; exact below_set (below_set (below_set (below_set (below_set (HB.out) GB10.out) GB10.out) GB10.out) GB10.out) GB10.out : Below w.heap.size w w13)); clear hg hw hp_))
        go_roundg k1
        case measure => have := HK1.out; omega
        case rel => exact ⟨(y110), (wrap64 (a1 + 1)), (by first | rfl | (simp; done) | (simp [*]; done)), H', ⟨by have := HK1.out; omega⟩, ⟨by first | exact a3.out | exact upR a3.out⟩, ⟨upH HB.out⟩⟩
       ·
        rw [if_neg c9] at H
        exact absurd H (by simp)
      ·
       rw [if_neg c7] at H
       exact absurd H (by simp)
     ·
      rw [if_neg c6] at H
      have d4 : decide (a1 < (l0.length : Int)) = false := decide_eq_false c6; clear c6; obtain rfl := Option.some.inj H
      go_wp2
      go_ret
      exact ⟨_, by first | rfl | (simp [*, errW_none, errW_some] <;> rfl), by first | exact a3.out | exact upR a3.out, upH HB.out⟩
  ·
   rw [if_neg c3] at H
   exact absurd H (by simp)
 ·
  rw [if_neg c2] at H
  exact absurd H (by simp)

end Go.Proofs.Ytoifpgkfpdeglaa.X

namespace Go.Proofs.Ytoifpgkfpdeglaa.X
open Go.RowKit Go.Proofs.YtoifpgkfpdeglaaW.PrintWords Go.Proofs.YtoifpgkfpdeglaaW.PrintLast Go.Proofs.YtoifpgkfpdeglaaW.PrintMore
attribute [local go_sem] max2_int min2_int max_two min_two max_three min_three max_four min_four
set_option linter.unusedVariables false
set_option linter.unusedSimpArgs false

open Go.Proofs.YtoifpgkfpdeglaaW.PrintWords.Aside0 renaming mk → yaa
open Go.Proofs.YtoifpgkfpdeglaaW.PrintWords renaming pw_below_drewN → yab, below_alloc → yac, below_drew1 → yad, below_set → yae

/-! ### laws_eqOpOp: function 57 -/
def laws_eqOpOp.f (a0_0 : Int) (a0_1 : Int) (a0_2 : Int) (a0_3 : Int) (a0_4 : Int) (a1_0 : Int) (a1_1 : Int) (a1_2 : Int) (a1_3 : Int) (a1_4 : Int) : Option (Bool) := if a0_0 = a1_0 then (if a0_1 = a1_1 then (if a0_2 = a1_2 then (if a0_3 = a1_3 then (if a0_4 = a1_4 then (some true) else (some false)) else (some false)) else (some false)) else (some false)) else (some false)
set_option maxHeartbeats 8000000 in
set_option maxRecDepth 100000 in
theorem laws_eqOpOp.calls (a0_0 : Int) (a0_1 : Int) (a0_2 : Int) (a0_3 : Int) (a0_4 : Int) (a1_0 : Int) (a1_1 : Int) (a1_2 : Int) (a1_3 : Int) (a1_4 : Int) (r : Bool) (w : World) (h : laws_eqOpOp.f a0_0 a0_1 a0_2 a0_3 a0_4 a1_0 a1_1 a1_2 a1_3 a1_4 = some r) :
  Calls Try.prog 57 #[.agg #[.int .i64 a0_0, .int .i64 a0_1, .int .i64 a0_2, .int .i64 a0_3, .int .i64 a0_4], .agg #[.int .i64 a1_0, .int .i64 a1_1, .int .i64 a1_2, .int .i64 a1_3, .int .i64 a1_4]] w fun e w' => e = .returned (.bool r) ∧ Below w.heap.size w w' := by
 have hu27 := Try.underlying27; have HB := yaa (Below.refl w.heap.size w); have H : (if a0_0 = a1_0 then (if a0_1 = a1_1 then (if a0_2 = a1_2 then (if a0_3 = a1_3 then (if a0_4 = a1_4 then (some true) else (some false)) else (some false)) else (some false)) else (some false)) else (some false)) = some r := h; clear h
 by_cases c3 : a0_0 = a1_0
 ·
  rw [if_pos c3] at H
  have n8 : (a0_0 == a1_0) = true := beq_iff_eq.mpr c3; have n9 : (a0_0 != a1_0) = false := bne_eq_false_iff_eq.mpr c3; clear c3
  by_cases c4 : a0_1 = a1_1
  ·
   rw [if_pos c4] at H
   have o0 : (a0_1 == a1_1) = true := beq_iff_eq.mpr c4; have o1 : (a0_1 != a1_1) = false := bne_eq_false_iff_eq.mpr c4; clear c4
   by_cases c5 : a0_2 = a1_2
   ·
    rw [if_pos c5] at H
    have o2 : (a0_2 == a1_2) = true := beq_iff_eq.mpr c5; have o3 : (a0_2 != a1_2) = false := bne_eq_false_iff_eq.mpr c5; clear c5
    by_cases c6 : a0_3 = a1_3
    ·
     rw [if_pos c6] at H
     have o4 : (a0_3 == a1_3) = true := beq_iff_eq.mpr c6; have o5 : (a0_3 != a1_3) = false := bne_eq_false_iff_eq.mpr c6; clear c6
     by_cases c7 : a0_4 = a1_4
     ·
      rw [if_pos c7] at H
      have o6 : (a0_4 == a1_4) = true := beq_iff_eq.mpr c7; have o7 : (a0_4 != a1_4) = false := bne_eq_false_iff_eq.mpr c7; clear c7; obtain rfl := Option.some.inj H
      go_enter Try.func57, Try.ntmps57
      go_wp2_with (first | ((with_reducible refine gate_dst (N := 2) rfl ?_); refine bx_ 2 #[.int .i64 a0_0, .int .i64 a0_1, .int .i64 a0_2, .int .i64 a0_3, .int .i64 a0_4] 27 ?_; intro a4 hg w8 hbox hb; have a1 := yaa (hbox); have a6 := yaa ((by rw [hg]; exact (below_size (upH HB.out)) : w.heap.size ≤ a4)); replace HB := yaa (below_step (upH HB.out) hb); have a9 := a6; clear hb hbox hg) | ((with_reducible refine gate_dst (N := 3) rfl ?_); refine bx_ 3 #[.int .i64 a1_0, .int .i64 a1_1, .int .i64 a1_2, .int .i64 a1_3, .int .i64 a1_4] 27 ?_; intro a5 hg w9 hbox hb; have a3 := yaa (hbox); have a7 := yaa ((by rw [hg]; exact (below_size (by repeat (with_reducible first | exact HB.out | apply yac | apply yab | apply yad | refine yae ?_ (Aside0.out ‹_›)))) : w.heap.size ≤ a5)); replace HB := yaa (below_step (by repeat (with_reducible first | exact HB.out | apply yac | apply yab | apply yad | refine yae ?_ (Aside0.out ‹_›))) hb); have b0 := a7; have a0 := yaa ((by rw [hg]; exact Nat.ne_of_lt (blk_lt (upB a1.out)) : a4 ≠ a5)); replace a1 := yaa (blk_below (upB a1.out) hb); have a2 := yaa a0.out.symm; clear hb hbox hg; have o8 := a0.out; have o9 := a2.out; obtain ⟨b3, b4, b5, b6, b7⟩ := cc5_ a1.out; obtain ⟨b8, b9, c0, c1, c2⟩ := cf5_ a1.out; obtain ⟨c8, c9, d0, d1, d2⟩ := cc5_ a3.out; obtain ⟨d3, d4, d5, d6⟩ := cf4_ a3.out; have d7 := blk_frozen a3.out 4))
      go_ret
      exact ⟨by first | rfl | (simp [*, errW_none, errW_some] <;> rfl), by repeat (with_reducible first | exact HB.out | apply yac | apply yab | apply yad | refine yae ?_ (Aside0.out ‹_›))⟩
     ·
      rw [if_neg c7] at H
      have o6 : (a0_4 == a1_4) = false := beq_eq_false_iff_ne.mpr c7; have o7 : (a0_4 != a1_4) = true := bne_iff_ne.mpr c7; obtain rfl := Option.some.inj H
      go_enter Try.func57, Try.ntmps57
      go_wp2_with (first | ((with_reducible refine gate_dst (N := 2) rfl ?_); refine bx_ 2 #[.int .i64 a0_0, .int .i64 a0_1, .int .i64 a0_2, .int .i64 a0_3, .int .i64 a0_4] 27 ?_; intro a4 hg w13 hbox hb; have a1 := yaa (hbox); have a6 := yaa ((by rw [hg]; exact (below_size (upH HB.out)) : w.heap.size ≤ a4)); replace HB := yaa (below_step (upH HB.out) hb); have a9 := a6; clear hb hbox hg) | ((with_reducible refine gate_dst (N := 3) rfl ?_); refine bx_ 3 #[.int .i64 a1_0, .int .i64 a1_1, .int .i64 a1_2, .int .i64 a1_3, .int .i64 a1_4] 27 ?_; intro a5 hg w14 hbox hb; have a3 := yaa (hbox); have a7 := yaa ((by rw [hg]; exact (below_size (by repeat (with_reducible first | exact HB.out | apply yac | apply yab | apply yad | refine yae ?_ (Aside0.out ‹_›)))) : w.heap.size ≤ a5)); replace HB := yaa (below_step (by repeat (with_reducible first | exact HB.out | apply yac | apply yab | apply yad | refine yae ?_ (Aside0.out ‹_›))) hb); have b0 := a7; have a0 := yaa ((by rw [hg]; exact Nat.ne_of_lt (blk_lt (upB a1.out)) : a4 ≠ a5)); replace a1 := yaa (blk_below (upB a1.out) hb); have a2 := yaa a0.out.symm; clear hb hbox hg; have p0 := a0.out; have p1 := a2.out; obtain ⟨d8, d9, e0, e1, e2⟩ := cc5_ a1.out; obtain ⟨e3, e4, e5, e6, e7⟩ := cf5_ a1.out; obtain ⟨e8, e9, f0, f1, f2⟩ := cc5_ a3.out; obtain ⟨f3, f4, f5, f6⟩ := cf4_ a3.out; have f7 := blk_frozen a3.out 4))
      go_ret
      exact ⟨by first | rfl | (simp [*, errW_none, errW_some] <;> rfl), by repeat (with_reducible first | exact HB.out | apply yac | apply yab | apply yad | refine yae ?_ (Aside0.out ‹_›))⟩
    ·
     rw [if_neg c6] at H
     have o4 : (a0_3 == a1_3) = false := beq_eq_false_iff_ne.mpr c6; have o5 : (a0_3 != a1_3) = true := bne_iff_ne.mpr c6; obtain rfl := Option.some.inj H
     go_enter Try.func57, Try.ntmps57
     go_wp2_with (first | ((with_reducible refine gate_dst (N := 2) rfl ?_); refine bx_ 2 #[.int .i64 a0_0, .int .i64 a0_1, .int .i64 a0_2, .int .i64 a0_3, .int .i64 a0_4] 27 ?_; intro a4 hg w18 hbox hb; have a1 := yaa (hbox); have a6 := yaa ((by rw [hg]; exact (below_size (upH HB.out)) : w.heap.size ≤ a4)); replace HB := yaa (below_step (upH HB.out) hb); have a9 := a6; clear hb hbox hg) | ((with_reducible refine gate_dst (N := 3) rfl ?_); refine bx_ 3 #[.int .i64 a1_0, .int .i64 a1_1, .int .i64 a1_2, .int .i64 a1_3, .int .i64 a1_4] 27 ?_; intro a5 hg w19 hbox hb; have a3 := yaa (hbox); have a7 := yaa ((by rw [hg]; exact (below_size (by repeat (with_reducible first | exact HB.out | apply yac | apply yab | apply yad | refine yae ?_ (Aside0.out ‹_›)))) : w.heap.size ≤ a5)); replace HB := yaa (below_step (by repeat (with_reducible first | exact HB.out | apply yac | apply yab | apply yad | refine yae ?_ (Aside0.out ‹_›))) hb); have b0 := a7; have a0 := yaa ((by rw [hg]; exact Nat.ne_of_lt (blk_lt (upB a1.out)) : a4 ≠ a5)); replace a1 := yaa (blk_below (upB a1.out) hb); have a2 := yaa a0.out.symm; clear hb hbox hg; have p2 := a0.out; have p3 := a2.out; obtain ⟨f8, f9, g0, g1, g2⟩ := cc5_ a1.out; obtain ⟨g3, g4, g5, g6, g7⟩ := cf5_ a1.out; obtain ⟨g8, g9, h0, h1, h2⟩ := cc5_ a3.out; obtain ⟨h3, h4, h5, h6⟩ := cf4_ a3.out; have h7 := blk_frozen a3.out 4))
     go_ret
     exact ⟨by first | rfl | (simp [*, errW_none, errW_some] <;> rfl), by repeat (with_reducible first | exact HB.out | apply yac | apply yab | apply yad | refine yae ?_ (Aside0.out ‹_›))⟩
   ·
    rw [if_neg c5] at H
    have o2 : (a0_2 == a1_2) = false := beq_eq_false_iff_ne.mpr c5; have o3 : (a0_2 != a1_2) = true := bne_iff_ne.mpr c5; obtain rfl := Option.some.inj H
    go_enter Try.func57, Try.ntmps57
    go_wp2_with (first | ((with_reducible refine gate_dst (N := 2) rfl ?_); refine bx_ 2 #[.int .i64 a0_0, .int .i64 a0_1, .int .i64 a0_2, .int .i64 a0_3, .int .i64 a0_4] 27 ?_; intro a4 hg w23 hbox hb; have a1 := yaa (hbox); have a6 := yaa ((by rw [hg]; exact (below_size (upH HB.out)) : w.heap.size ≤ a4)); replace HB := yaa (below_step (upH HB.out) hb); have a9 := a6; clear hb hbox hg) | ((with_reducible refine gate_dst (N := 3) rfl ?_); refine bx_ 3 #[.int .i64 a1_0, .int .i64 a1_1, .int .i64 a1_2, .int .i64 a1_3, .int .i64 a1_4] 27 ?_; intro a5 hg w24 hbox hb; have a3 := yaa (hbox); have a7 := yaa ((by rw [hg]; exact (below_size (by repeat (with_reducible first | exact HB.out | apply yac | apply yab | apply yad | refine yae ?_ (Aside0.out ‹_›)))) : w.heap.size ≤ a5)); replace HB := yaa (below_step (by repeat (with_reducible first | exact HB.out | apply yac | apply yab | apply yad | refine yae ?_ (Aside0.out ‹_›))) hb); have b0 := a7; have a0 := yaa ((by rw [hg]; exact Nat.ne_of_lt (blk_lt (upB a1.out)) : a4 ≠ a5)); replace a1 := yaa (blk_below (upB a1.out) hb); have a2 := yaa a0.out.symm; clear hb hbox hg; have p4 := a0.out; have p5 := a2.out; obtain ⟨h8, h9, i0, i1, i2⟩ := cc5_ a1.out; obtain ⟨i3, i4, i5, i6, i7⟩ := cf5_ a1.out; obtain ⟨i8, i9, j0, j1, j2⟩ := cc5_ a3.out; obtain ⟨j3, j4, j5, j6⟩ := cf4_ a3.out; have j7 := blk_frozen a3.out 4))
    go_ret
    exact ⟨by first | rfl | (simp [*, errW_none, errW_some] <;> rfl), by repeat (with_reducible first | exact HB.out | apply yac | apply yab | apply yad | refine yae ?_ (Aside0.out ‹_›))⟩
  ·
   rw [if_neg c4] at H
   have o0 : (a0_1 == a1_1) = false := beq_eq_false_iff_ne.mpr c4; have o1 : (a0_1 != a1_1) = true := bne_iff_ne.mpr c4; obtain rfl := Option.some.inj H
   go_enter Try.func57, Try.ntmps57
   go_wp2_with (first | ((with_reducible refine gate_dst (N := 2) rfl ?_); refine bx_ 2 #[.int .i64 a0_0, .int .i64 a0_1, .int .i64 a0_2, .int .i64 a0_3, .int .i64 a0_4] 27 ?_; intro a4 hg w28 hbox hb; have a1 := yaa (hbox); have a6 := yaa ((by rw [hg]; exact (below_size (upH HB.out)) : w.heap.size ≤ a4)); replace HB := yaa (below_step (upH HB.out) hb); have a9 := a6; clear hb hbox hg) | ((with_reducible refine gate_dst (N := 3) rfl ?_); refine bx_ 3 #[.int .i64 a1_0, .int .i64 a1_1, .int .i64 a1_2, .int .i64 a1_3, .int .i64 a1_4] 27 ?_; intro a5 hg w29 hbox hb; have a3 := yaa (hbox); have a7 := yaa ((by rw [hg]; exact (below_size (by repeat (with_reducible first | exact HB.out | apply yac | apply yab | apply yad | refine yae ?_ (Aside0.out ‹_›)))) : w.heap.size ≤ a5)); replace HB := yaa (below_step (by repeat (with_reducible first | exact HB.out | apply yac | apply yab | apply yad | refine yae ?_ (Aside0.out ‹_›))) hb); have b0 := a7; have a0 := yaa ((by rw [hg]; exact Nat.ne_of_lt (blk_lt (upB a1.out)) : a4 ≠ a5)); replace a1 := yaa (blk_below (upB a1.out) hb); have a2 := yaa a0.out.symm; clear hb hbox hg; have p6 := a0.out; have p7 := a2.out; obtain ⟨j8, j9, k0, k1, k2⟩ := cc5_ a1.out; obtain ⟨k3, k4, k5, k6, k7⟩ := cf5_ a1.out; obtain ⟨k8, k9, l0, l1, l2⟩ := cc5_ a3.out; obtain ⟨l3, l4, l5, l6⟩ := cf4_ a3.out; have l7 := blk_frozen a3.out 4))
   go_ret
   exact ⟨by first | rfl | (simp [*, errW_none, errW_some] <;> rfl), by repeat (with_reducible first | exact HB.out | apply yac | apply yab | apply yad | refine yae ?_ (Aside0.out ‹_›))⟩
 ·
  rw [if_neg c3] at H
  have n8 : (a0_0 == a1_0) = false := beq_eq_false_iff_ne.mpr c3; have n9 : (a0_0 != a1_0) = true := bne_iff_ne.mpr c3; obtain rfl := Option.some.inj H
  go_enter Try.func57, Try.ntmps57
  go_wp2_with (first | ((with_reducible refine gate_dst (N := 2) rfl ?_); refine bx_ 2 #[.int .i64 a0_0, .int .i64 a0_1, .int .i64 a0_2, .int .i64 a0_3, .int .i64 a0_4] 27 ?_; intro a4 hg w33 hbox hb; have a1 := yaa (hbox); have a6 := yaa ((by rw [hg]; exact (below_size (upH HB.out)) : w.heap.size ≤ a4)); replace HB := yaa (below_step (upH HB.out) hb); have a9 := a6; clear hb hbox hg) | ((with_reducible refine gate_dst (N := 3) rfl ?_); refine bx_ 3 #[.int .i64 a1_0, .int .i64 a1_1, .int .i64 a1_2, .int .i64 a1_3, .int .i64 a1_4] 27 ?_; intro a5 hg w34 hbox hb; have a3 := yaa (hbox); have a7 := yaa ((by rw [hg]; exact (below_size (by repeat (with_reducible first | exact HB.out | apply yac | apply yab | apply yad | refine yae ?_ (Aside0.out ‹_›)))) : w.heap.size ≤ a5)); replace HB := yaa (below_step (by repeat (with_reducible first | exact HB.out | apply yac | apply yab | apply yad | refine yae ?_ (Aside0.out ‹_›))) hb); have b0 := a7; have a0 := yaa ((by rw [hg]; exact Nat.ne_of_lt (blk_lt (upB a1.out)) : a4 ≠ a5)); replace a1 := yaa (blk_below (upB a1.out) hb); have a2 := yaa a0.out.symm; clear hb hbox hg; have p8 := a0.out; have p9 := a2.out; obtain ⟨l8, l9, m0, m1, m2⟩ := cc5_ a1.out; obtain ⟨m3, m4, m5, m6, m7⟩ := cf5_ a1.out; obtain ⟨m8, m9, n0, n1, n2⟩ := cc5_ a3.out; obtain ⟨n3, n4, n5, n6⟩ := cf4_ a3.out; have n7 := blk_frozen a3.out 4))
  go_ret
  exact ⟨by first | rfl | (simp [*, errW_none, errW_some] <;> rfl), by repeat (with_reducible first | exact HB.out | apply yac | apply yab | apply yad | refine yae ?_ (Aside0.out ‹_›))⟩

end Go.Proofs.Ytoifpgkfpdeglaa.X

namespace Go.Proofs.Ytoifpgkfpdeglaa.X
open Go.RowKit Go.Proofs.YtoifpgkfpdeglaaW.PrintWords Go.Proofs.YtoifpgkfpdeglaaW.PrintLast Go.Proofs.YtoifpgkfpdeglaaW.PrintMore
attribute [local go_sem] max2_int min2_int max_two min_two max_three min_three max_four min_four
set_option linter.unusedVariables false
set_option linter.unusedSimpArgs false

open Go.Proofs.Ytoifpgkfpdeglaa.X renaming rd_T27 → yaa

/-! ### laws_eqOpOpS: function 31 -/
abbrev q31_0 : Array Bool := #[false, false, false, false, false, false, false, false, false, false]
abbrev q31_1 : Array Bool := #[true, false, false, false, false, false, false, false, false, false]
abbrev q31_2 : Array Bool := #[true, true, false, false, false, false, false, false, false, false]
abbrev q31_3 : Array Bool := #[true, true, true, false, false, false, false, false, false, false]
abbrev q31_4 : Array Bool := #[true, true, true, false, true, false, false, false, false, false]
abbrev q31_5 : Array Bool := #[true, true, true, false, true, true, false, false, false, false]
abbrev q31_6 : Array Bool := #[true, true, true, false, true, true, true, false, false, false]
abbrev q31_7 : Array Bool := #[true, true, true, true, true, true, true, false, false, false]
abbrev q31_8 : Array Bool := #[true, true, true, true, true, true, true, true, false, false]
abbrev q31_9 : Array Bool := #[true, true, true, true, true, true, true, true, true, false]
abbrev q31_10 : Array Bool := #[true, true, true, true, true, true, true, true, true, true]
def laws_eqOpOpS.l0 : Nat → List (S27) → List (S27) → Int → Option (Bool)
 | 0, _, _, _ => none
 | k + 1, x0, x1, x5 => if x5 < (x0.length : Int) then (if 0 ≤ x5 then (if x5 < (x1.length : Int) then ((laws_eqOpOp.f ((rd_T27 x0 x5).f0) ((rd_T27 x0 x5).f1) ((rd_T27 x0 x5).f2) ((rd_T27 x0 x5).f3) ((rd_T27 x0 x5).f4) ((rd_T27 x1 x5).f0) ((rd_T27 x1 x5).f1) ((rd_T27 x1 x5).f2) ((rd_T27 x1 x5).f3) ((rd_T27 x1 x5).f4)).bind fun t103 => (if t103 = true then (laws_eqOpOpS.l0 k x0 x1 (wrap64 (x5 + 1))) else (some false))) else (none)) else (none)) else (some true)
def laws_eqOpOpS.f (k : Nat) (l0 : List (S27)) (l1 : List (S27)) : Option (Bool) := if (l0.length : Int) = (l1.length : Int) then (laws_eqOpOpS.l0 k l0 l1 0) else (some false)
def laws_eqOpOpS.T6 : Bool × List (List Nat × List Nat) := (true, [([], []), ([], []), ([0, 1], [0, 1]), ([2], [2]), ([], []), ([], []), ([4, 5], [4, 5]), ([6], [6]), ([3, 7], [3, 7]), ([8], [8])])
def laws_eqOpOpS.B6 : List Nat := [0, 0, 3, 7, 0, 0, 48, 112, 255, 511]
theorem laws_eqOpOpS.tab6 : rtab .any (opsOf Try.f31 6) = laws_eqOpOpS.T6 := by kernel_rfl
theorem laws_eqOpOpS.bits6 : waitsOk laws_eqOpOpS.T6.2 laws_eqOpOpS.B6 = true := by kernel_rfl
set_option maxHeartbeats 8000000 in
set_option maxRecDepth 100000 in
theorem laws_eqOpOpS.calls (k : Nat) (A0 : Option Addr) (c0 : Nat) (l0 : List (S27)) (A1 : Option Addr) (c1 : Nat) (l1 : List (S27)) (r : Bool) (w : World) (hr0 : Kd.C k27 w A0 l0.length l0) (hc0 : l0.length ≤ c0) (hr1 : Kd.C k27 w A1 l1.length l1) (hc1 : l1.length ≤ c1) (h : laws_eqOpOpS.f k l0 l1 = some r) :
  Calls Try.prog 31 #[.slice A0 l0.length c0, .slice A1 l1.length c1] w fun e w' => e = .returned (.bool r) ∧ Below w.heap.size w w' := by
 have hu27 := Try.underlying27; have HR0 := Aside0.mk hr0; have HC0 := Aside0.mk hc0; clear hr0 hc0; have HR1 := Aside0.mk hr1; have HC1 := Aside0.mk hc1; clear hr1 hc1; have HB := Aside0.mk (Below.refl w.heap.size w); have H : (if (l0.length : Int) = (l1.length : Int) then (laws_eqOpOpS.l0 k l0 l1 0) else (some false)) = some r := h; clear h
 by_cases c3 : (l0.length : Int) = (l1.length : Int)
 ·
  rw [if_pos c3] at H
  have d2 : ((l0.length : Int) == (l1.length : Int)) = true := beq_iff_eq.mpr c3; have d3 : ((l0.length : Int) != (l1.length : Int)) = false := bne_eq_false_iff_eq.mpr c3
  have d4 : (l0.length == l1.length) = true := by first | simpa using c3 | (simp at c3 ⊢; omega)
  clear c3; have H' := Aside0.mk H; clear H
  go_enter Try.func31, Try.ntmps31
  go_wp2
  (try simp only [Act.put, List.setIfInBounds_toArray, List.set_cons_zero, List.set_cons_succ])
  go_loopg [5] k (fun kq v5 w' => ∃ (a2 : Int), v5 = .int .i64 a2 ∧ Aside0 (laws_eqOpOpS.l0 kq l0 l1 a2 = some r) ∧ Aside0 (kq ≤ k) ∧ Aside0 (Below w.heap.size w w'))
  case atStart => exact ⟨(0), (by first | rfl | (simp; done) | (simp [*]; done)), H', ⟨Nat.le_refl _⟩, ⟨upH HB.out⟩⟩
  case round =>
   clear H'; (try clear c1); (try clear p2); (try clear c3); (try clear d2); (try clear d3); (try clear d4); obtain ⟨a2, rfl, HA, HK1, HB⟩ := hrel
   cases gk with
   | zero => exact absurd HA.out (by simp [laws_eqOpOpS.l0])
   | succ k1 =>
    have H := HA.out; clear HA
    simp only [laws_eqOpOpS.l0] at H
    by_cases c4 : a2 < (l0.length : Int)
    ·
     rw [if_pos c4] at H
     have d5 : decide (a2 < (l0.length : Int)) = true := decide_eq_true c4; clear c4
     by_cases c5 : 0 ≤ a2
     ·
      rw [if_pos c5] at H
      have d7 : decide (0 ≤ a2) = true := decide_eq_true c5; clear c5
      by_cases c6 : a2 < (l1.length : Int)
      ·
       rw [if_pos c6] at H
       have d8 : decide (a2 < (l1.length : Int)) = true := decide_eq_true c6; clear c6; replace H := Option.bind_eq_some_iff.mp H; obtain ⟨d6, A70, H⟩ := H; (try dsimp only at H); have A7 := Aside0.mk A70; clear A70
       by_cases c8 : d6 = true
       ·
        subst c8
        rw [if_pos rfl] at H
        have H' := Aside0.mk H; clear H
        try go_wp2
        replace HB := Aside0.mk (below_drew1 HB.out)
        have p101 : 0 ≤ (a2 : Int) := of_decide_eq_true (by first | (with_reducible assumption) | assumption)
        have q101 : a2 < (l0.length : Int) := of_decide_eq_true (by first | (with_reducible assumption) | assumption)
        obtain ⟨ad101, d0, a3, a4, a5, a6, a7⟩ := at_T27 HR0.out a2 p101 q101; have b3 := a7; have b4 := a6; have b5 := a5; have b6 := a4; have b7 := a3
        cases d0
        replace a3 := (HB.out.cell (World.block_lt_of_cell? w _ a3)).trans a3; replace a4 := (HB.out.cell (World.block_lt_of_cell? w _ a4)).trans a4; replace a5 := (HB.out.cell (World.block_lt_of_cell? w _ a5)).trans a5; replace a6 := (HB.out.cell (World.block_lt_of_cell? w _ a6)).trans a6; replace a7 := (HB.out.cell (World.block_lt_of_cell? w _ a7)).trans a7; replace p101 := eq_true p101; replace q101 := eq_true q101
        have p102 : 0 ≤ (a2 : Int) := of_decide_eq_true (by first | (with_reducible assumption) | assumption)
        have q102 : a2 < (l1.length : Int) := of_decide_eq_true (by first | (with_reducible assumption) | assumption)
        obtain ⟨ad102, d1, a8, a9, b0, b1, b2⟩ := at_T27 HR1.out a2 p102 q102; have b8 := b2; have b9 := b1; have c2 := b0; have c7 := a9; have c9 := a8
        cases d1
        replace a8 := (HB.out.cell (World.block_lt_of_cell? w _ a8)).trans a8; replace a9 := (HB.out.cell (World.block_lt_of_cell? w _ a9)).trans a9; replace b0 := (HB.out.cell (World.block_lt_of_cell? w _ b0)).trans b0; replace b1 := (HB.out.cell (World.block_lt_of_cell? w _ b1)).trans b1; replace b2 := (HB.out.cell (World.block_lt_of_cell? w _ b2)).trans b2; replace p102 := eq_true p102; replace q102 := eq_true q102
        refine start_ (n := 10) (S := fun w' => w'.cell? (ad101.add ((a2).toNat * 5)) = some (.int .i64 ((yaa l0 a2).f0)) ∧ w'.cell? ⟨(ad101.add ((a2).toNat * 5)).block, (ad101.add ((a2).toNat * 5)).off + 1, none⟩ = some (.int .i64 ((yaa l0 a2).f1)) ∧ w'.cell? ⟨(ad101.add ((a2).toNat * 5)).block, (ad101.add ((a2).toNat * 5)).off + 2, none⟩ = some (.int .i64 ((yaa l0 a2).f2)) ∧ w'.cell? ⟨(ad101.add ((a2).toNat * 5)).block, (ad101.add ((a2).toNat * 5)).off + 3, none⟩ = some (.int .i64 ((yaa l0 a2).f3)) ∧ w'.cell? ⟨(ad101.add ((a2).toNat * 5)).block, (ad101.add ((a2).toNat * 5)).off + 4, none⟩ = some (.int .i64 ((yaa l0 a2).f4)) ∧ w'.cell? (ad102.add ((a2).toNat * 5)) = some (.int .i64 ((yaa l1 a2).f0)) ∧ w'.cell? ⟨(ad102.add ((a2).toNat * 5)).block, (ad102.add ((a2).toNat * 5)).off + 1, none⟩ = some (.int .i64 ((yaa l1 a2).f1)) ∧ w'.cell? ⟨(ad102.add ((a2).toNat * 5)).block, (ad102.add ((a2).toNat * 5)).off + 2, none⟩ = some (.int .i64 ((yaa l1 a2).f2)) ∧ w'.cell? ⟨(ad102.add ((a2).toNat * 5)).block, (ad102.add ((a2).toNat * 5)).off + 3, none⟩ = some (.int .i64 ((yaa l1 a2).f3)) ∧ w'.cell? ⟨(ad102.add ((a2).toNat * 5)).block, (ad102.add ((a2).toNat * 5)).off + 4, none⟩ = some (.int .i64 ((yaa l1 a2).f4))) (ds := []) q31_0 (by kernel_rfl) rfl rfl ⟨((HB.out.cell (World.block_lt_of_cell? w _ b7)).trans b7), ((HB.out.cell (World.block_lt_of_cell? w _ b6)).trans b6), ((HB.out.cell (World.block_lt_of_cell? w _ b5)).trans b5), ((HB.out.cell (World.block_lt_of_cell? w _ b4)).trans b4), ((HB.out.cell (World.block_lt_of_cell? w _ b3)).trans b3), ((HB.out.cell (World.block_lt_of_cell? w _ c9)).trans c9), ((HB.out.cell (World.block_lt_of_cell? w _ c7)).trans c7), ((HB.out.cell (World.block_lt_of_cell? w _ c2)).trans c2), ((HB.out.cell (World.block_lt_of_cell? w _ b9)).trans b9), ((HB.out.cell (World.block_lt_of_cell? w _ b8)).trans b8)⟩ (fun hHeld => ?_); refine with_tabW laws_eqOpOpS.tab6 laws_eqOpOpS.bits6 (fun HT_ HW_ => ?_)
        generalize wr.drew = w9 at HB a3 a4 a5 a6 a7 a8 a9 b0 b1 b2 hHeld ⊢
        refine pz_ 0 17 q31_1 HT_ (by kernel_rfl) ?_
        refine pz_ 1 18 q31_2 HT_ (by kernel_rfl) ?_
        refine pz_ 2 19 q31_3 HT_ (by kernel_rfl) ?_
        refine pz_ 4 21 q31_4 HT_ (by kernel_rfl) ?_
        refine pz_ 5 22 q31_5 HT_ (by kernel_rfl) ?_
        refine pz_ 6 23 q31_6 HT_ (by kernel_rfl) ?_
        refine tz_ 3 20 q31_7 HT_ HW_ (by kernel_rfl) hHeld ?_
        refine tz_ 7 24 q31_8 HT_ HW_ (by kernel_rfl) hHeld ?_
        refine one_ (i := 8) (N := some 25) q31_9 rfl rfl (one_of HT_.out (by kernel_rfl)) (by decide) (fun K hK => ?_)
        refine goes_ Try.func57 (by kernel_rfl) rfl #[.agg #[.int .i64 ((yaa l0 a2).f0), .int .i64 ((yaa l0 a2).f1), .int .i64 ((yaa l0 a2).f2), .int .i64 ((yaa l0 a2).f3), .int .i64 ((yaa l0 a2).f4)], .agg #[.int .i64 ((yaa l1 a2).f0), .int .i64 ((yaa l1 a2).f1), .int .i64 ((yaa l1 a2).f2), .int .i64 ((yaa l1 a2).f3), .int .i64 ((yaa l1 a2).f4)]] (by rfl) rfl rfl (by (try simp only [List.map_toArray, List.map_cons, List.map_nil]); first | done | rfl | (simp only [List.length_drop, List.length_take]; rfl)) ?_
        with_reducible refine (laws_eqOpOp.calls ((yaa l0 a2).f0) ((yaa l0 a2).f1) ((yaa l0 a2).f2) ((yaa l0 a2).f3) ((yaa l0 a2).f4) ((yaa l1 a2).f0) ((yaa l1 a2).f1) ((yaa l1 a2).f2) ((yaa l1 a2).f3) ((yaa l1 a2).f4) true _ A7.out).mono ?_
        rintro e w10 ⟨rfl, hb⟩; refine ⟨_, rfl, ?_⟩; replace HB := Aside0.mk (below_step (upH HB.out) hb); (try clear hb); (try clear hb2); (try clear hk); (try clear hi)
        refine hK.out _ _ ⟨((HB.out.cell (World.block_lt_of_cell? w _ b7)).trans b7), ((HB.out.cell (World.block_lt_of_cell? w _ b6)).trans b6), ((HB.out.cell (World.block_lt_of_cell? w _ b5)).trans b5), ((HB.out.cell (World.block_lt_of_cell? w _ b4)).trans b4), ((HB.out.cell (World.block_lt_of_cell? w _ b3)).trans b3), ((HB.out.cell (World.block_lt_of_cell? w _ c9)).trans c9), ((HB.out.cell (World.block_lt_of_cell? w _ c7)).trans c7), ((HB.out.cell (World.block_lt_of_cell? w _ c2)).trans c2), ((HB.out.cell (World.block_lt_of_cell? w _ b9)).trans b9), ((HB.out.cell (World.block_lt_of_cell? w _ b8)).trans b8)⟩ (fun hHeld => ?_)
        clear hK K
        refine norm_ (a' := ?_) ?_ ?_
        rotate_left
        ·
         show Act.put _ (some 25) _ = _
         simp only [Act.put, List.setIfInBounds_toArray, List.set_cons_zero, List.set_cons_succ, i64_w, i32_w]
         rfl
        refine pz_ 9 26 q31_10 HT_ (by kernel_rfl) ?_
        refine done_ (done_of HT_.out (by kernel_rfl)) ?_
        try go_wp2
        go_roundg k1
        case measure => have := HK1.out; omega
        case rel => exact ⟨(wrap64 (a2 + 1)), (by first | rfl | (simp; done) | (simp [*]; done)), H', ⟨by have := HK1.out; omega⟩, ⟨upH HB.out⟩⟩
       ·
        replace c8 := Bool.eq_false_iff.mpr c8
        subst c8
        rw [if_neg (show ¬ (false = true) by decide)] at H
        obtain rfl := Option.some.inj H
        try go_wp2
        replace HB := Aside0.mk (below_drew1 HB.out)
        have p101 : 0 ≤ (a2 : Int) := of_decide_eq_true (by first | (with_reducible assumption) | assumption)
        have q101 : a2 < (l0.length : Int) := of_decide_eq_true (by first | (with_reducible assumption) | assumption)
        obtain ⟨ad101, d0, a3, a4, a5, a6, a7⟩ := at_T27 HR0.out a2 p101 q101; have b3 := a7; have b4 := a6; have b5 := a5; have b6 := a4; have b7 := a3
        cases d0
        replace a3 := (HB.out.cell (World.block_lt_of_cell? w _ a3)).trans a3; replace a4 := (HB.out.cell (World.block_lt_of_cell? w _ a4)).trans a4; replace a5 := (HB.out.cell (World.block_lt_of_cell? w _ a5)).trans a5; replace a6 := (HB.out.cell (World.block_lt_of_cell? w _ a6)).trans a6; replace a7 := (HB.out.cell (World.block_lt_of_cell? w _ a7)).trans a7; replace p101 := eq_true p101; replace q101 := eq_true q101
        have p102 : 0 ≤ (a2 : Int) := of_decide_eq_true (by first | (with_reducible assumption) | assumption)
        have q102 : a2 < (l1.length : Int) := of_decide_eq_true (by first | (with_reducible assumption) | assumption)
        obtain ⟨ad102, d1, a8, a9, b0, b1, b2⟩ := at_T27 HR1.out a2 p102 q102; have b8 := b2; have b9 := b1; have c2 := b0; have c7 := a9; have c9 := a8
        cases d1
        replace a8 := (HB.out.cell (World.block_lt_of_cell? w _ a8)).trans a8; replace a9 := (HB.out.cell (World.block_lt_of_cell? w _ a9)).trans a9; replace b0 := (HB.out.cell (World.block_lt_of_cell? w _ b0)).trans b0; replace b1 := (HB.out.cell (World.block_lt_of_cell? w _ b1)).trans b1; replace b2 := (HB.out.cell (World.block_lt_of_cell? w _ b2)).trans b2; replace p102 := eq_true p102; replace q102 := eq_true q102
        refine start_ (n := 10) (S := fun w' => w'.cell? (ad101.add ((a2).toNat * 5)) = some (.int .i64 ((yaa l0 a2).f0)) ∧ w'.cell? ⟨(ad101.add ((a2).toNat * 5)).block, (ad101.add ((a2).toNat * 5)).off + 1, none⟩ = some (.int .i64 ((yaa l0 a2).f1)) ∧ w'.cell? ⟨(ad101.add ((a2).toNat * 5)).block, (ad101.add ((a2).toNat * 5)).off + 2, none⟩ = some (.int .i64 ((yaa l0 a2).f2)) ∧ w'.cell? ⟨(ad101.add ((a2).toNat * 5)).block, (ad101.add ((a2).toNat * 5)).off + 3, none⟩ = some (.int .i64 ((yaa l0 a2).f3)) ∧ w'.cell? ⟨(ad101.add ((a2).toNat * 5)).block, (ad101.add ((a2).toNat * 5)).off + 4, none⟩ = some (.int .i64 ((yaa l0 a2).f4)) ∧ w'.cell? (ad102.add ((a2).toNat * 5)) = some (.int .i64 ((yaa l1 a2).f0)) ∧ w'.cell? ⟨(ad102.add ((a2).toNat * 5)).block, (ad102.add ((a2).toNat * 5)).off + 1, none⟩ = some (.int .i64 ((yaa l1 a2).f1)) ∧ w'.cell? ⟨(ad102.add ((a2).toNat * 5)).block, (ad102.add ((a2).toNat * 5)).off + 2, none⟩ = some (.int .i64 ((yaa l1 a2).f2)) ∧ w'.cell? ⟨(ad102.add ((a2).toNat * 5)).block, (ad102.add ((a2).toNat * 5)).off + 3, none⟩ = some (.int .i64 ((yaa l1 a2).f3)) ∧ w'.cell? ⟨(ad102.add ((a2).toNat * 5)).block, (ad102.add ((a2).toNat * 5)).off + 4, none⟩ = some (.int .i64 ((yaa l1 a2).f4))) (ds := []) q31_0 (by kernel_rfl) rfl rfl ⟨((HB.out.cell (World.block_lt_of_cell? w _ b7)).trans b7), ((HB.out.cell (World.block_lt_of_cell? w _ b6)).trans b6), ((HB.out.cell (World.block_lt_of_cell? w _ b5)).trans b5), ((HB.out.cell (World.block_lt_of_cell? w _ b4)).trans b4), ((HB.out.cell (World.block_lt_of_cell? w _ b3)).trans b3), ((HB.out.cell (World.block_lt_of_cell? w _ c9)).trans c9), ((HB.out.cell (World.block_lt_of_cell? w _ c7)).trans c7), ((HB.out.cell (World.block_lt_of_cell? w _ c2)).trans c2), ((HB.out.cell (World.block_lt_of_cell? w _ b9)).trans b9), ((HB.out.cell (World.block_lt_of_cell? w _ b8)).trans b8)⟩ (fun hHeld => ?_); refine with_tabW laws_eqOpOpS.tab6 laws_eqOpOpS.bits6 (fun HT_ HW_ => ?_)
        generalize wr.drew = w11 at HB a3 a4 a5 a6 a7 a8 a9 b0 b1 b2 hHeld ⊢
        refine pz_ 0 17 q31_1 HT_ (by kernel_rfl) ?_
        refine pz_ 1 18 q31_2 HT_ (by kernel_rfl) ?_
        refine pz_ 2 19 q31_3 HT_ (by kernel_rfl) ?_
        refine pz_ 4 21 q31_4 HT_ (by kernel_rfl) ?_
        refine pz_ 5 22 q31_5 HT_ (by kernel_rfl) ?_
        refine pz_ 6 23 q31_6 HT_ (by kernel_rfl) ?_
        refine tz_ 3 20 q31_7 HT_ HW_ (by kernel_rfl) hHeld ?_
        refine tz_ 7 24 q31_8 HT_ HW_ (by kernel_rfl) hHeld ?_
        refine one_ (i := 8) (N := some 25) q31_9 rfl rfl (one_of HT_.out (by kernel_rfl)) (by decide) (fun K hK => ?_)
        refine goes_ Try.func57 (by kernel_rfl) rfl #[.agg #[.int .i64 ((yaa l0 a2).f0), .int .i64 ((yaa l0 a2).f1), .int .i64 ((yaa l0 a2).f2), .int .i64 ((yaa l0 a2).f3), .int .i64 ((yaa l0 a2).f4)], .agg #[.int .i64 ((yaa l1 a2).f0), .int .i64 ((yaa l1 a2).f1), .int .i64 ((yaa l1 a2).f2), .int .i64 ((yaa l1 a2).f3), .int .i64 ((yaa l1 a2).f4)]] (by rfl) rfl rfl (by (try simp only [List.map_toArray, List.map_cons, List.map_nil]); first | done | rfl | (simp only [List.length_drop, List.length_take]; rfl)) ?_
        with_reducible refine (laws_eqOpOp.calls ((yaa l0 a2).f0) ((yaa l0 a2).f1) ((yaa l0 a2).f2) ((yaa l0 a2).f3) ((yaa l0 a2).f4) ((yaa l1 a2).f0) ((yaa l1 a2).f1) ((yaa l1 a2).f2) ((yaa l1 a2).f3) ((yaa l1 a2).f4) false _ A7.out).mono ?_
        rintro e w12 ⟨rfl, hb⟩; refine ⟨_, rfl, ?_⟩; replace HB := Aside0.mk (below_step (upH HB.out) hb); (try clear hb); (try clear hb2); (try clear hk); (try clear hi)
        refine hK.out _ _ ⟨((HB.out.cell (World.block_lt_of_cell? w _ b7)).trans b7), ((HB.out.cell (World.block_lt_of_cell? w _ b6)).trans b6), ((HB.out.cell (World.block_lt_of_cell? w _ b5)).trans b5), ((HB.out.cell (World.block_lt_of_cell? w _ b4)).trans b4), ((HB.out.cell (World.block_lt_of_cell? w _ b3)).trans b3), ((HB.out.cell (World.block_lt_of_cell? w _ c9)).trans c9), ((HB.out.cell (World.block_lt_of_cell? w _ c7)).trans c7), ((HB.out.cell (World.block_lt_of_cell? w _ c2)).trans c2), ((HB.out.cell (World.block_lt_of_cell? w _ b9)).trans b9), ((HB.out.cell (World.block_lt_of_cell? w _ b8)).trans b8)⟩ (fun hHeld => ?_)
        clear hK K
        refine norm_ (a' := ?_) ?_ ?_
        rotate_left
        ·
         show Act.put _ (some 25) _ = _
         simp only [Act.put, List.setIfInBounds_toArray, List.set_cons_zero, List.set_cons_succ, i64_w, i32_w]
         rfl
        refine pz_ 9 26 q31_10 HT_ (by kernel_rfl) ?_
        refine done_ (done_of HT_.out (by kernel_rfl)) ?_
        try go_wp2
        go_ret
        exact ⟨by first | rfl | (simp [*, errW_none, errW_some] <;> rfl), upH HB.out⟩
      ·
       rw [if_neg c6] at H
       exact absurd H (by simp)
     ·
      rw [if_neg c5] at H
      exact absurd H (by simp)
    ·
     rw [if_neg c4] at H
     have d5 : decide (a2 < (l0.length : Int)) = false := decide_eq_false c4; clear c4; obtain rfl := Option.some.inj H
     go_wp2
     go_ret
     exact ⟨by first | rfl | (simp [*, errW_none, errW_some] <;> rfl), upH HB.out⟩
 ·
  rw [if_neg c3] at H
  have d2 : ((l0.length : Int) == (l1.length : Int)) = false := beq_eq_false_iff_ne.mpr c3; have d3 : ((l0.length : Int) != (l1.length : Int)) = true := bne_iff_ne.mpr c3
  have d4 : (l0.length == l1.length) = false := by first | simpa using c3 | (simp at c3 ⊢; omega)
  obtain rfl := Option.some.inj H
  go_enter Try.func31, Try.ntmps31
  go_wp2
  go_ret
  exact ⟨by first | rfl | (simp [*, errW_none, errW_some] <;> rfl), upH HB.out⟩

end Go.Proofs.Ytoifpgkfpdeglaa.X

namespace Go.Proofs.Ytoifpgkfpdeglaa.X
open Go.RowKit Go.Proofs.YtoifpgkfpdeglaaW.PrintWords Go.Proofs.YtoifpgkfpdeglaaW.PrintLast Go.Proofs.YtoifpgkfpdeglaaW.PrintMore
attribute [local go_sem] max2_int min2_int max_two min_two max_three min_three max_four min_four
set_option linter.unusedVariables false
set_option linter.unusedSimpArgs false

open Go.Proofs.Ytoifpgkfpdeglaa.X renaming rd_T27 → yaa
open Go.Proofs.YtoifpgkfpdeglaaW.PrintWords.Aside0 renaming mk → yab

/-! ### laws_markOpOpS: function 32 -/
def laws_markOpOpS.l0 : Nat → List (S27) → Int → Int → Option (Int × (List (S27)))
 | 0, _, _, _ => none
 | k + 1, x0, x1, x5 => if x5 < (x0.length : Int) then (if 0 ≤ x5 then ((some (x0.set (x5 : Int).toNat (⟨x1, (rd_T27 x0 x5).f1, (rd_T27 x0 x5).f2, (rd_T27 x0 x5).f3, (rd_T27 x0 x5).f4⟩ : S27) : List (S27))).bind fun y101 => ((some (y101.set (x5 : Int).toNat (⟨(rd_T27 y101 x5).f0, wrap64 (x1 + 1), (rd_T27 y101 x5).f2, (rd_T27 y101 x5).f3, (rd_T27 y101 x5).f4⟩ : S27) : List (S27))).bind fun y102 => ((some (y102.set (x5 : Int).toNat (⟨(rd_T27 y102 x5).f0, (rd_T27 y102 x5).f1, wrap64 ((wrap64 (x1 + 1)) + 1), (rd_T27 y102 x5).f3, (rd_T27 y102 x5).f4⟩ : S27) : List (S27))).bind fun y103 => ((some (y103.set (x5 : Int).toNat (⟨(rd_T27 y103 x5).f0, (rd_T27 y103 x5).f1, (rd_T27 y103 x5).f2, wrap64 ((wrap64 ((wrap64 (x1 + 1)) + 1)) + 1), (rd_T27 y103 x5).f4⟩ : S27) : List (S27))).bind fun y104 => (laws_markOpOpS.l0 k (y104.set (x5 : Int).toNat (⟨(rd_T27 y104 x5).f0, (rd_T27 y104 x5).f1, (rd_T27 y104 x5).f2, (rd_T27 y104 x5).f3, wrap64 ((wrap64 ((wrap64 ((wrap64 (x1 + 1)) + 1)) + 1)) + 1)⟩ : S27)) (wrap64 ((wrap64 ((wrap64 ((wrap64 ((wrap64 (x1 + 1)) + 1)) + 1)) + 1)) + 1)) (wrap64 (x5 + 1))))))) else (none)) else (some (x1, x0))
def laws_markOpOpS.f (k : Nat) (l0 : List (S27)) (a1 : Int) : Option (Int × (List (S27))) := laws_markOpOpS.l0 k l0 a1 0
set_option maxHeartbeats 8000000 in
set_option maxRecDepth 100000 in
theorem laws_markOpOpS.calls (k : Nat) (P0_ : Nat → Prop) (u9000_ : Value) (l0 : List (S27)) (a1 : Int) (r1 : Int) (r2 : List (S27)) (w0 w : World) (hB : Below w0.heap.size w0 w) (ho0 : Kd.R k27 27 w w0.heap.size P0_ u9000_ l0) (h : laws_markOpOpS.f k l0 a1 = some (r1, r2)) :
  Calls Try.prog 32 #[u9000_, .int .i64 a1] w fun e w' => e = .returned (.int .i64 r1) ∧ Kd.R k27 27 w' w0.heap.size (fun k_ => (P0_ k_ ∨ w.heap.size ≤ k_)) u9000_ r2 ∧ Below w0.heap.size w0 w' ∧ Kept w w' (fun k_ => P0_ k_) := by
 have HO0 := yab (show Kd.R k27 27 w w0.heap.size (fun k_ => (P0_ k_ ∨ w.heap.size ≤ k_)) u9000_ l0 from Kd.R_mono ho0 (fun k_ hk => (.inl hk))); have HK := yab (Kept.refl w (fun k_ => P0_ k_)); have HW0 := yab hB.size; have HB := yab hB; clear hB; have H : (laws_markOpOpS.l0 k l0 a1 0) = some (r1, r2) := h; clear h; have H' := yab H; clear H
 go_enter Try.func32, Try.ntmps32
 go_wp2
 (try simp only [Act.put, List.setIfInBounds_toArray, List.set_cons_zero, List.set_cons_succ])
 go_loopg [1, 5] k (fun kq v1 v5 w' => ∃ (a3 : List (S27)) (a5 : Int) (a2 : Int), v1 = .int .i64 a5 ∧ v5 = .int .i64 a2 ∧ Aside0 (laws_markOpOpS.l0 kq a3 a5 a2 = some (r1, r2)) ∧ Aside0 (kq ≤ k) ∧ Aside0 (Kd.R k27 27 w' w0.heap.size (fun k_ => (P0_ k_ ∨ w.heap.size ≤ k_)) u9000_ a3) ∧ Aside0 (Kept w w' (fun k_ => P0_ k_)) ∧ Aside0 (Below w0.heap.size w0 w'))
 case atStart => exact ⟨(l0), (a1), (0), (by first | rfl | (simp; done) | (simp [*]; done)), (by first | rfl | (simp; done) | (simp [*]; done)), H', ⟨Nat.le_refl _⟩, ⟨by first | exact HO0.out | exact upR HO0.out⟩, ⟨by repeat (with_reducible first | exact HK.out | apply Kept.alloc | apply Kept.drewN | apply Kept.drew)⟩, ⟨upH HB.out⟩⟩
 case round =>
  clear H'; (try clear p2); obtain ⟨a3, a5, a2, rfl, rfl, HA, HK1, a4, HK, HB⟩ := hrel
  cases gk with
  | zero => exact absurd HA.out (by simp [laws_markOpOpS.l0])
  | succ k1 =>
   have H := HA.out; clear HA
   simp only [laws_markOpOpS.l0] at H
   by_cases c3 : a2 < (a3.length : Int)
   ·
    rw [if_pos c3] at H
    have b2 : decide (a2 < (a3.length : Int)) = true := decide_eq_true c3; clear c3
    by_cases c4 : 0 ≤ a2
    ·
     rw [if_pos c4] at H
     have e2 : decide (0 ≤ a2) = true := decide_eq_true c4; clear c4; obtain ⟨y101, hy101⟩ : ∃ y_ : List (S27), y_ = (a3.set (a2 : Int).toNat (⟨a5, (yaa a3 a2).f1, (yaa a3 a2).f2, (yaa a3 a2).f3, (yaa a3 a2).f4⟩ : S27)) := ⟨_, rfl⟩
     replace H : ((some (y101.set (a2 : Int).toNat (⟨(yaa y101 a2).f0, wrap64 (a5 + 1), (yaa y101 a2).f2, (yaa y101 a2).f3, (yaa y101 a2).f4⟩ : S27) : List (S27))).bind fun y102 => ((some (y102.set (a2 : Int).toNat (⟨(yaa y102 a2).f0, (yaa y102 a2).f1, wrap64 ((wrap64 (a5 + 1)) + 1), (yaa y102 a2).f3, (yaa y102 a2).f4⟩ : S27) : List (S27))).bind fun y103 => ((some (y103.set (a2 : Int).toNat (⟨(yaa y103 a2).f0, (yaa y103 a2).f1, (yaa y103 a2).f2, wrap64 ((wrap64 ((wrap64 (a5 + 1)) + 1)) + 1), (yaa y103 a2).f4⟩ : S27) : List (S27))).bind fun y104 => (laws_markOpOpS.l0 k1 (y104.set (a2 : Int).toNat (⟨(yaa y104 a2).f0, (yaa y104 a2).f1, (yaa y104 a2).f2, (yaa y104 a2).f3, wrap64 ((wrap64 ((wrap64 ((wrap64 (a5 + 1)) + 1)) + 1)) + 1)⟩ : S27)) (wrap64 ((wrap64 ((wrap64 ((wrap64 ((wrap64 (a5 + 1)) + 1)) + 1)) + 1)) + 1)) (wrap64 (a2 + 1)))))) = some (r1, r2) := by first | (rw [hy101]; with_reducible exact H) | (have H2_ := (Option.bind_some _ _).symm.trans H; rw [hy101]; with_reducible exact H2_) | (have H2_ := (Option.bind_some _ _).symm.trans H; with_reducible exact H2_) | with_reducible exact H | (rw [hy101]; exact H) | exact H
     have Ny101 := yab hy101; clear hy101; obtain ⟨y102, hy102, H⟩ := bindY H; (try dsimp only at H); have Ny102 := yab hy102; clear hy102; obtain ⟨y103, hy103, H⟩ := bindY H; (try dsimp only at H); have Ny103 := yab hy103; clear hy103; obtain ⟨y104, hy104, H⟩ := bindY H; (try dsimp only at H); have Ny104 := yab hy104; clear hy104; obtain ⟨y105, hy105⟩ : ∃ y_ : List (S27), y_ = (y104.set (a2 : Int).toNat (⟨(yaa y104 a2).f0, (yaa y104 a2).f1, (yaa y104 a2).f2, (yaa y104 a2).f3, wrap64 ((wrap64 ((wrap64 ((wrap64 (a5 + 1)) + 1)) + 1)) + 1)⟩ : S27)) := ⟨_, rfl⟩
     replace H : (laws_markOpOpS.l0 k1 y105 (wrap64 ((wrap64 ((wrap64 ((wrap64 ((wrap64 (a5 + 1)) + 1)) + 1)) + 1)) + 1)) (wrap64 (a2 + 1))) = some (r1, r2) := by first | (rw [hy105]; with_reducible exact H) | (have H2_ := (Option.bind_some _ _).symm.trans H; rw [hy105]; with_reducible exact H2_) | (have H2_ := (Option.bind_some _ _).symm.trans H; with_reducible exact H2_) | with_reducible exact H | (rw [hy105]; exact H) | exact H
     have Ny105 := yab hy105; clear hy105; have H' := yab H; clear H; obtain ⟨e3, a6, b3⟩ := Kd.R_slice a4.out; subst b3
     have p5 : 0 ≤ (a2 : Int) := of_decide_eq_true (by first | (with_reducible assumption) | assumption)
     have q5 : (a2 : Int) < ((a3.length : Int) : Int) := of_decide_eq_true (by first | (with_reducible assumption) | assumption)
     obtain ⟨go5, co5, eo5, gb5, gl5, cl5, HG5⟩ := Kd.R_form a4.out (by omega)
     (first | cases eo5 | (injection eo5 with ea_ en_ ec_; (first | subst ea_ | (injection ea_ with ea_; subst ea_)); subst ec_; clear en_))
     have GB5 := yab gb5; have GG5 := yab HG5; clear gb5 gl5 HG5; have HMgo5 := yab (show (P0_ go5 ∨ w.heap.size ≤ go5) from (a4.out.1 _ rfl)); obtain ⟨ce5, hcl5, hM5, hcc5, hfr5⟩ := Kd.R_elem a4.out z27 (a2 : Int) p5 q5; obtain rfl := k27_openM hM5; have b5 : wr.cell? ⟨go5, (a2 : Int).toNat * 5, none⟩ = some (.int .i64 ((yaa a3 a2).f0)) := hcc5 0 _ rfl; have b6 : wr.cell? ⟨go5, (a2 : Int).toNat * 5 + 1, none⟩ = some (.int .i64 ((yaa a3 a2).f1)) := hcc5 1 _ rfl; have b7 : wr.cell? ⟨go5, (a2 : Int).toNat * 5 + 2, none⟩ = some (.int .i64 ((yaa a3 a2).f2)) := hcc5 2 _ rfl; have b8 : wr.cell? ⟨go5, (a2 : Int).toNat * 5 + 3, none⟩ = some (.int .i64 ((yaa a3 a2).f3)) := hcc5 3 _ rfl; have b9 : wr.cell? ⟨go5, (a2 : Int).toNat * 5 + 4, none⟩ = some (.int .i64 ((yaa a3 a2).f4)) := hcc5 4 _ rfl; have hf5_0 : wr.frozen? ⟨go5, (a2 : Int).toNat * 5, none⟩ = false := hfr5 0; have hf5_1 : wr.frozen? ⟨go5, (a2 : Int).toNat * 5 + 1, none⟩ = false := hfr5 1; have hf5_2 : wr.frozen? ⟨go5, (a2 : Int).toNat * 5 + 2, none⟩ = false := hfr5 2; have hf5_3 : wr.frozen? ⟨go5, (a2 : Int).toNat * 5 + 3, none⟩ = false := hfr5 3; have hf5_4 : wr.frozen? ⟨go5, (a2 : Int).toNat * 5 + 4, none⟩ = false := hfr5 4; clear hcl5 hcc5 hfr5 hM5; replace p5 := eq_true p5; replace q5 := eq_true q5; have HX11 := yab (show Kd.R k27 27 wr w0.heap.size (fun k_ => (P0_ k_ ∨ w.heap.size ≤ k_)) (.slice (some ⟨go5, 0, none⟩) a3.length a6) a3 from (upR a4.out))
     obtain ⟨e4, hcl11, hM11, hcc11, hfr11⟩ := Kd.R_elem HX11.out z27 (a2 : Int) (of_decide_eq_true (by first | (with_reducible assumption) | assumption)) (by have h_ : (a2 : Int) < ((a3.length : Int) : Int) := of_decide_eq_true (by first | (with_reducible assumption) | assumption); first | exact h_ | (have e_ := (Kd.R_reads' a4.out).1; omega) | simpa using h_)
     obtain rfl := k27_openM hM11
     have HP11 := Kd.R_seg HX11.out (a2 : Int) (of_decide_eq_true (by first | (with_reducible assumption) | assumption)) (by have h_ : (a2 : Int) < ((a3.length : Int) : Int) := of_decide_eq_true (by first | (with_reducible assumption) | assumption); first | exact h_ | (have e_ := (Kd.R_reads' a4.out).1; omega) | simpa using h_) (seg := [.int .i64 a5]) (j := 0) hcl11 hcc11 (show 1 ≤ 5 from by decide) (x' := (⟨a5, (yaa a3 a2).f1, (yaa a3 a2).f2, (yaa a3 a2).f3, (yaa a3 a2).f4⟩ : S27)) (k27_mkM _ _ _ (⟨a5, (yaa a3 a2).f1, (yaa a3 a2).f2, (yaa a3 a2).f3, (yaa a3 a2).f4⟩ : S27) ) (fun _ hk => hk)
     have a7 := hcc11 0 _ rfl
     (try simp only [show (k27).sz = 5 from rfl, Nat.mul_one, Nat.add_zero] at a7)
     have hf11_0 := hfr11 0
     (try simp only [show (k27).sz = 5 from rfl, Nat.mul_one, Nat.add_zero] at hf11_0)
     clear hcl11 hcc11 hfr11 hM11
     go_wp2_with (first | ((with_reducible refine gate_store (t := 3) (p := 16) rfl ?_); refine store_event (t := 3) (p := 16) (v := ?vo_w12) (w1 := (wr.setCell ⟨go5, (a2 : Int).toNat * 5, none⟩ (.int .i64 a5))) ?hg ?ho ?hn ?hr ?_; (case ho => rfl); (case hg => rfl); (case hn => rfl); (case hr => first | (go_simp; done) | (go_simp; rfl)); intro w12 hw; have hg : wr.grownBy w12 (some go5) := (by rw [hw]; exact HP11.2); have hp_ : Kd.R k27 27 w12 w0.heap.size (fun k_ => (P0_ k_ ∨ w.heap.size ≤ k_)) (.slice (some ⟨go5, 0, none⟩) a3.length a6) y101 := (by rw [hw, Ny101.out]; exact HP11.1); clear HP11; replace HB := yab ((by rw [hw]; exact below_set (HB.out) GB5.out : Below w0.heap.size w0 w12)); replace HK := yab (Kept.of_grown (S := (fun k_ => P0_ k_)) hg (by repeat (with_reducible first | exact HK.out | apply Kept.alloc | apply Kept.drewN | apply Kept.drew)) (fun k_ e_ => (a4.out.1 k_ e_))); replace a4 := yab (hp_); clear hg hw hp_; have p6 : 0 ≤ (a2 : Int) := of_decide_eq_true (by first | (with_reducible assumption) | assumption); have q6 : (a2 : Int) < ((a3.length : Int) : Int) := of_decide_eq_true (by first | (with_reducible assumption) | assumption); obtain ⟨ce6, hcl6, hM6, hcc6, hfr6⟩ := Kd.R_elem a4.out z27 (a2 : Int) p6 q6; obtain rfl := k27_openM hM6; have c0 : w12.cell? ⟨go5, (a2 : Int).toNat * 5, none⟩ = some (.int .i64 ((yaa y101 a2).f0)) := hcc6 0 _ rfl; have c1 : w12.cell? ⟨go5, (a2 : Int).toNat * 5 + 1, none⟩ = some (.int .i64 ((yaa y101 a2).f1)) := hcc6 1 _ rfl; have c2 : w12.cell? ⟨go5, (a2 : Int).toNat * 5 + 2, none⟩ = some (.int .i64 ((yaa y101 a2).f2)) := hcc6 2 _ rfl; have c5 : w12.cell? ⟨go5, (a2 : Int).toNat * 5 + 3, none⟩ = some (.int .i64 ((yaa y101 a2).f3)) := hcc6 3 _ rfl; have c6 : w12.cell? ⟨go5, (a2 : Int).toNat * 5 + 4, none⟩ = some (.int .i64 ((yaa y101 a2).f4)) := hcc6 4 _ rfl; have hf6_0 : w12.frozen? ⟨go5, (a2 : Int).toNat * 5, none⟩ = false := hfr6 0; have hf6_1 : w12.frozen? ⟨go5, (a2 : Int).toNat * 5 + 1, none⟩ = false := hfr6 1; have hf6_2 : w12.frozen? ⟨go5, (a2 : Int).toNat * 5 + 2, none⟩ = false := hfr6 2; have hf6_3 : w12.frozen? ⟨go5, (a2 : Int).toNat * 5 + 3, none⟩ = false := hfr6 3; have hf6_4 : w12.frozen? ⟨go5, (a2 : Int).toNat * 5 + 4, none⟩ = false := hfr6 4; clear hcl6 hcc6 hfr6 hM6; replace p6 := eq_true p6; replace q6 := eq_true q6; have HX13 := yab (show Kd.R k27 27 w12 w0.heap.size (fun k_ => (P0_ k_ ∨ w.heap.size ≤ k_)) (.slice (some ⟨go5, 0, none⟩) a3.length a6) y101 from (upR a4.out)); obtain ⟨e5, hcl13, hM13, hcc13, hfr13⟩ := Kd.R_elem HX13.out z27 (a2 : Int) (of_decide_eq_true (by first | (with_reducible assumption) | assumption)) (by have h_ : (a2 : Int) < ((a3.length : Int) : Int) := of_decide_eq_true (by first | (with_reducible assumption) | assumption); first | exact h_ | (have e_ := (Kd.R_reads' a4.out).1; omega) | simpa using h_); obtain rfl := k27_openM hM13; have HP13 := Kd.R_seg HX13.out (a2 : Int) (of_decide_eq_true (by first | (with_reducible assumption) | assumption)) (by have h_ : (a2 : Int) < ((a3.length : Int) : Int) := of_decide_eq_true (by first | (with_reducible assumption) | assumption); first | exact h_ | (have e_ := (Kd.R_reads' a4.out).1; omega) | simpa using h_) (seg := [.int .i64 (wrap64 (a5 + 1))]) (j := 1) hcl13 hcc13 (show 2 ≤ 5 from by decide) (x' := (⟨(yaa y101 a2).f0, wrap64 (a5 + 1), (yaa y101 a2).f2, (yaa y101 a2).f3, (yaa y101 a2).f4⟩ : S27)) (k27_mkM _ _ _ (⟨(yaa y101 a2).f0, wrap64 (a5 + 1), (yaa y101 a2).f2, (yaa y101 a2).f3, (yaa y101 a2).f4⟩ : S27) ) (fun _ hk => hk); have a8 := hcc13 1 _ rfl; (try simp only [show (k27).sz = 5 from rfl, Nat.mul_one, Nat.add_zero] at a8); have hf13_1 := hfr13 1; (try simp only [show (k27).sz = 5 from rfl, Nat.mul_one, Nat.add_zero] at hf13_1); clear hcl13 hcc13 hfr13 hM13) | ((with_reducible refine gate_store (t := 3) (p := 23) rfl ?_); refine store_event (t := 3) (p := 23) (v := ?vo_w14) (w1 := (w12.setCell ⟨go5, (a2 : Int).toNat * 5 + 1, none⟩ (.int .i64 (wrap64 (a5 + 1))))) ?hg ?ho ?hn ?hr ?_; (case ho => rfl); (case hg => rfl); (case hn => rfl); (case hr => first | (go_simp; done) | (go_simp; rfl)); intro w14 hw; have hg : w12.grownBy w14 (some go5) := (by rw [hw]; exact HP13.2); have hp_ : Kd.R k27 27 w14 w0.heap.size (fun k_ => (P0_ k_ ∨ w.heap.size ≤ k_)) (.slice (some ⟨go5, 0, none⟩) a3.length a6) y102 := (by rw [hw, Ny102.out]; exact HP13.1); clear HP13; replace HB := yab ((by rw [hw]; exact below_set (HB.out) GB5.out : Below w0.heap.size w0 w14)); replace HK := yab (Kept.of_grown (S := (fun k_ => P0_ k_)) hg (by repeat (with_reducible first | exact HK.out | apply Kept.alloc | apply Kept.drewN | apply Kept.drew)) (fun k_ e_ => (a4.out.1 k_ e_))); replace a4 := yab (hp_); clear hg hw hp_; have p7 : 0 ≤ (a2 : Int) := of_decide_eq_true (by first | (with_reducible assumption) | assumption); have q7 : (a2 : Int) < ((a3.length : Int) : Int) := of_decide_eq_true (by first | (with_reducible assumption) | assumption); obtain ⟨ce7, hcl7, hM7, hcc7, hfr7⟩ := Kd.R_elem a4.out z27 (a2 : Int) p7 q7; obtain rfl := k27_openM hM7; have c7 : w14.cell? ⟨go5, (a2 : Int).toNat * 5, none⟩ = some (.int .i64 ((yaa y102 a2).f0)) := hcc7 0 _ rfl; have c8 : w14.cell? ⟨go5, (a2 : Int).toNat * 5 + 1, none⟩ = some (.int .i64 ((yaa y102 a2).f1)) := hcc7 1 _ rfl; have c9 : w14.cell? ⟨go5, (a2 : Int).toNat * 5 + 2, none⟩ = some (.int .i64 ((yaa y102 a2).f2)) := hcc7 2 _ rfl; have d0 : w14.cell? ⟨go5, (a2 : Int).toNat * 5 + 3, none⟩ = some (.int .i64 ((yaa y102 a2).f3)) := hcc7 3 _ rfl; have d1 : w14.cell? ⟨go5, (a2 : Int).toNat * 5 + 4, none⟩ = some (.int .i64 ((yaa y102 a2).f4)) := hcc7 4 _ rfl; have hf7_0 : w14.frozen? ⟨go5, (a2 : Int).toNat * 5, none⟩ = false := hfr7 0; have hf7_1 : w14.frozen? ⟨go5, (a2 : Int).toNat * 5 + 1, none⟩ = false := hfr7 1; have hf7_2 : w14.frozen? ⟨go5, (a2 : Int).toNat * 5 + 2, none⟩ = false := hfr7 2; have hf7_3 : w14.frozen? ⟨go5, (a2 : Int).toNat * 5 + 3, none⟩ = false := hfr7 3; have hf7_4 : w14.frozen? ⟨go5, (a2 : Int).toNat * 5 + 4, none⟩ = false := hfr7 4; clear hcl7 hcc7 hfr7 hM7; replace p7 := eq_true p7; replace q7 := eq_true q7; have HX15 := yab (show Kd.R k27 27 w14 w0.heap.size (fun k_ => (P0_ k_ ∨ w.heap.size ≤ k_)) (.slice (some ⟨go5, 0, none⟩) a3.length a6) y102 from (upR a4.out)); obtain ⟨e6, hcl15, hM15, hcc15, hfr15⟩ := Kd.R_elem HX15.out z27 (a2 : Int) (of_decide_eq_true (by first | (with_reducible assumption) | assumption)) (by have h_ : (a2 : Int) < ((a3.length : Int) : Int) := of_decide_eq_true (by first | (with_reducible assumption) | assumption); first | exact h_ | (have e_ := (Kd.R_reads' a4.out).1; omega) | simpa using h_); obtain rfl := k27_openM hM15; have HP15 := Kd.R_seg HX15.out (a2 : Int) (of_decide_eq_true (by first | (with_reducible assumption) | assumption)) (by have h_ : (a2 : Int) < ((a3.length : Int) : Int) := of_decide_eq_true (by first | (with_reducible assumption) | assumption); first | exact h_ | (have e_ := (Kd.R_reads' a4.out).1; omega) | simpa using h_) (seg := [.int .i64 (wrap64 ((wrap64 (a5 + 1)) + 1))]) (j := 2) hcl15 hcc15 (show 3 ≤ 5 from by decide) (x' := (⟨(yaa y102 a2).f0, (yaa y102 a2).f1, wrap64 ((wrap64 (a5 + 1)) + 1), (yaa y102 a2).f3, (yaa y102 a2).f4⟩ : S27)) (k27_mkM _ _ _ (⟨(yaa y102 a2).f0, (yaa y102 a2).f1, wrap64 ((wrap64 (a5 + 1)) + 1), (yaa y102 a2).f3, (yaa y102 a2).f4⟩ : S27) ) (fun _ hk => hk); have a9 := hcc15 2 _ rfl; (try simp only [show (k27).sz = 5 from rfl, Nat.mul_one, Nat.add_zero] at a9); have hf15_2 := hfr15 2; (try simp only [show (k27).sz = 5 from rfl, Nat.mul_one, Nat.add_zero] at hf15_2); clear hcl15 hcc15 hfr15 hM15) | ((with_reducible refine gate_store (t := 3) (p := 30) rfl ?_); refine store_event (t := 3) (p := 30) (v := ?vo_w16) (w1 := (w14.setCell ⟨go5, (a2 : Int).toNat * 5 + 2, none⟩ (.int .i64 (wrap64 ((wrap64 (a5 + 1)) + 1))))) ?hg ?ho ?hn ?hr ?_; (case ho => rfl); (case hg => rfl); (case hn => rfl); (case hr => first | (go_simp; done) | (go_simp; rfl)); intro w16 hw; have hg : w14.grownBy w16 (some go5) := (by rw [hw]; exact HP15.2); have hp_ : Kd.R k27 27 w16 w0.heap.size (fun k_ => (P0_ k_ ∨ w.heap.size ≤ k_)) (.slice (some ⟨go5, 0, none⟩) a3.length a6) y103 := (by rw [hw, Ny103.out]; exact HP15.1); clear HP15; replace HB := yab ((by rw [hw]; exact below_set (HB.out) GB5.out : Below w0.heap.size w0 w16)); replace HK := yab (Kept.of_grown (S := (fun k_ => P0_ k_)) hg (by repeat (with_reducible first | exact HK.out | apply Kept.alloc | apply Kept.drewN | apply Kept.drew)) (fun k_ e_ => (a4.out.1 k_ e_))); replace a4 := yab (hp_); clear hg hw hp_; have p8 : 0 ≤ (a2 : Int) := of_decide_eq_true (by first | (with_reducible assumption) | assumption); have q8 : (a2 : Int) < ((a3.length : Int) : Int) := of_decide_eq_true (by first | (with_reducible assumption) | assumption); obtain ⟨ce8, hcl8, hM8, hcc8, hfr8⟩ := Kd.R_elem a4.out z27 (a2 : Int) p8 q8; obtain rfl := k27_openM hM8; have d2 : w16.cell? ⟨go5, (a2 : Int).toNat * 5, none⟩ = some (.int .i64 ((yaa y103 a2).f0)) := hcc8 0 _ rfl; have d3 : w16.cell? ⟨go5, (a2 : Int).toNat * 5 + 1, none⟩ = some (.int .i64 ((yaa y103 a2).f1)) := hcc8 1 _ rfl; have d4 : w16.cell? ⟨go5, (a2 : Int).toNat * 5 + 2, none⟩ = some (.int .i64 ((yaa y103 a2).f2)) := hcc8 2 _ rfl; have d5 : w16.cell? ⟨go5, (a2 : Int).toNat * 5 + 3, none⟩ = some (.int .i64 ((yaa y103 a2).f3)) := hcc8 3 _ rfl; have d6 : w16.cell? ⟨go5, (a2 : Int).toNat * 5 + 4, none⟩ = some (.int .i64 ((yaa y103 a2).f4)) := hcc8 4 _ rfl; have hf8_0 : w16.frozen? ⟨go5, (a2 : Int).toNat * 5, none⟩ = false := hfr8 0; have hf8_1 : w16.frozen? ⟨go5, (a2 : Int).toNat * 5 + 1, none⟩ = false := hfr8 1; have hf8_2 : w16.frozen? ⟨go5, (a2 : Int).toNat * 5 + 2, none⟩ = false := hfr8 2; have hf8_3 : w16.frozen? ⟨go5, (a2 : Int).toNat * 5 + 3, none⟩ = false := hfr8 3; have hf8_4 : w16.frozen? ⟨go5, (a2 : Int).toNat * 5 + 4, none⟩ = false := hfr8 4; clear hcl8 hcc8 hfr8 hM8; replace p8 := eq_true p8; replace q8 := eq_true q8; have HX17 := yab (show Kd.R k27 27 w16 w0.heap.size (fun k_ => (P0_ k_ ∨ w.heap.size ≤ k_)) (.slice (some ⟨go5, 0, none⟩) a3.length a6) y103 from (upR a4.out)); obtain ⟨e7, hcl17, hM17, hcc17, hfr17⟩ := Kd.R_elem HX17.out z27 (a2 : Int) (of_decide_eq_true (by first | (with_reducible assumption) | assumption)) (by have h_ : (a2 : Int) < ((a3.length : Int) : Int) := of_decide_eq_true (by first | (with_reducible assumption) | assumption); first | exact h_ | (have e_ := (Kd.R_reads' a4.out).1; omega) | simpa using h_); obtain rfl := k27_openM hM17; have HP17 := Kd.R_seg HX17.out (a2 : Int) (of_decide_eq_true (by first | (with_reducible assumption) | assumption)) (by have h_ : (a2 : Int) < ((a3.length : Int) : Int) := of_decide_eq_true (by first | (with_reducible assumption) | assumption); first | exact h_ | (have e_ := (Kd.R_reads' a4.out).1; omega) | simpa using h_) (seg := [.int .i64 (wrap64 ((wrap64 ((wrap64 (a5 + 1)) + 1)) + 1))]) (j := 3) hcl17 hcc17 (show 4 ≤ 5 from by decide) (x' := (⟨(yaa y103 a2).f0, (yaa y103 a2).f1, (yaa y103 a2).f2, wrap64 ((wrap64 ((wrap64 (a5 + 1)) + 1)) + 1), (yaa y103 a2).f4⟩ : S27)) (k27_mkM _ _ _ (⟨(yaa y103 a2).f0, (yaa y103 a2).f1, (yaa y103 a2).f2, wrap64 ((wrap64 ((wrap64 (a5 + 1)) + 1)) + 1), (yaa y103 a2).f4⟩ : S27) ) (fun _ hk => hk); have b0 := hcc17 3 _ rfl; (try simp only [show (k27).sz = 5 from rfl, Nat.mul_one, Nat.add_zero] at b0); have hf17_3 := hfr17 3; (try simp only [show (k27).sz = 5 from rfl, Nat.mul_one, Nat.add_zero] at hf17_3); clear hcl17 hcc17 hfr17 hM17) | ((with_reducible refine gate_store (t := 3) (p := 37) rfl ?_); refine store_event (t := 3) (p := 37) (v := ?vo_w18) (w1 := (w16.setCell ⟨go5, (a2 : Int).toNat * 5 + 3, none⟩ (.int .i64 (wrap64 ((wrap64 ((wrap64 (a5 + 1)) + 1)) + 1))))) ?hg ?ho ?hn ?hr ?_; (case ho => rfl); (case hg => rfl); (case hn => rfl); (case hr => first | (go_simp; done) | (go_simp; rfl)); intro w18 hw; have hg : w16.grownBy w18 (some go5) := (by rw [hw]; exact HP17.2); have hp_ : Kd.R k27 27 w18 w0.heap.size (fun k_ => (P0_ k_ ∨ w.heap.size ≤ k_)) (.slice (some ⟨go5, 0, none⟩) a3.length a6) y104 := (by rw [hw, Ny104.out]; exact HP17.1); clear HP17; replace HB := yab ((by rw [hw]; exact below_set (HB.out) GB5.out : Below w0.heap.size w0 w18)); replace HK := yab (Kept.of_grown (S := (fun k_ => P0_ k_)) hg (by repeat (with_reducible first | exact HK.out | apply Kept.alloc | apply Kept.drewN | apply Kept.drew)) (fun k_ e_ => (a4.out.1 k_ e_))); replace a4 := yab (hp_); clear hg hw hp_; have p9 : 0 ≤ (a2 : Int) := of_decide_eq_true (by first | (with_reducible assumption) | assumption); have q9 : (a2 : Int) < ((a3.length : Int) : Int) := of_decide_eq_true (by first | (with_reducible assumption) | assumption); obtain ⟨ce9, hcl9, hM9, hcc9, hfr9⟩ := Kd.R_elem a4.out z27 (a2 : Int) p9 q9; obtain rfl := k27_openM hM9; have d7 : w18.cell? ⟨go5, (a2 : Int).toNat * 5, none⟩ = some (.int .i64 ((yaa y104 a2).f0)) := hcc9 0 _ rfl; have d8 : w18.cell? ⟨go5, (a2 : Int).toNat * 5 + 1, none⟩ = some (.int .i64 ((yaa y104 a2).f1)) := hcc9 1 _ rfl; have d9 : w18.cell? ⟨go5, (a2 : Int).toNat * 5 + 2, none⟩ = some (.int .i64 ((yaa y104 a2).f2)) := hcc9 2 _ rfl; have e0 : w18.cell? ⟨go5, (a2 : Int).toNat * 5 + 3, none⟩ = some (.int .i64 ((yaa y104 a2).f3)) := hcc9 3 _ rfl; have e1 : w18.cell? ⟨go5, (a2 : Int).toNat * 5 + 4, none⟩ = some (.int .i64 ((yaa y104 a2).f4)) := hcc9 4 _ rfl; have hf9_0 : w18.frozen? ⟨go5, (a2 : Int).toNat * 5, none⟩ = false := hfr9 0; have hf9_1 : w18.frozen? ⟨go5, (a2 : Int).toNat * 5 + 1, none⟩ = false := hfr9 1; have hf9_2 : w18.frozen? ⟨go5, (a2 : Int).toNat * 5 + 2, none⟩ = false := hfr9 2; have hf9_3 : w18.frozen? ⟨go5, (a2 : Int).toNat * 5 + 3, none⟩ = false := hfr9 3; have hf9_4 : w18.frozen? ⟨go5, (a2 : Int).toNat * 5 + 4, none⟩ = false := hfr9 4; clear hcl9 hcc9 hfr9 hM9; replace p9 := eq_true p9; replace q9 := eq_true q9; have HX19 := yab (show Kd.R k27 27 w18 w0.heap.size (fun k_ => (P0_ k_ ∨ w.heap.size ≤ k_)) (.slice (some ⟨go5, 0, none⟩) a3.length a6) y104 from (upR a4.out)); obtain ⟨e8, hcl19, hM19, hcc19, hfr19⟩ := Kd.R_elem HX19.out z27 (a2 : Int) (of_decide_eq_true (by first | (with_reducible assumption) | assumption)) (by have h_ : (a2 : Int) < ((a3.length : Int) : Int) := of_decide_eq_true (by first | (with_reducible assumption) | assumption); first | exact h_ | (have e_ := (Kd.R_reads' a4.out).1; omega) | simpa using h_); obtain rfl := k27_openM hM19; have HP19 := Kd.R_seg HX19.out (a2 : Int) (of_decide_eq_true (by first | (with_reducible assumption) | assumption)) (by have h_ : (a2 : Int) < ((a3.length : Int) : Int) := of_decide_eq_true (by first | (with_reducible assumption) | assumption); first | exact h_ | (have e_ := (Kd.R_reads' a4.out).1; omega) | simpa using h_) (seg := [.int .i64 (wrap64 ((wrap64 ((wrap64 ((wrap64 (a5 + 1)) + 1)) + 1)) + 1))]) (j := 4) hcl19 hcc19 (show 5 ≤ 5 from by decide) (x' := (⟨(yaa y104 a2).f0, (yaa y104 a2).f1, (yaa y104 a2).f2, (yaa y104 a2).f3, wrap64 ((wrap64 ((wrap64 ((wrap64 (a5 + 1)) + 1)) + 1)) + 1)⟩ : S27)) (k27_mkM _ _ _ (⟨(yaa y104 a2).f0, (yaa y104 a2).f1, (yaa y104 a2).f2, (yaa y104 a2).f3, wrap64 ((wrap64 ((wrap64 ((wrap64 (a5 + 1)) + 1)) + 1)) + 1)⟩ : S27) ) (fun _ hk => hk); have b1 := hcc19 4 _ rfl; (try simp only [show (k27).sz = 5 from rfl, Nat.mul_one, Nat.add_zero] at b1); have hf19_4 := hfr19 4; (try simp only [show (k27).sz = 5 from rfl, Nat.mul_one, Nat.add_zero] at hf19_4); clear hcl19 hcc19 hfr19 hM19) | ((with_reducible refine gate_store (t := 3) (p := 44) rfl ?_); refine store_event (t := 3) (p := 44) (v := ?vo_w20) (w1 := (w18.setCell ⟨go5, (a2 : Int).toNat * 5 + 4, none⟩ (.int .i64 (wrap64 ((wrap64 ((wrap64 ((wrap64 (a5 + 1)) + 1)) + 1)) + 1))))) ?hg ?ho ?hn ?hr ?_; (case ho => rfl); (case hg => rfl); (case hn => rfl); (case hr => first | (go_simp; done) | (go_simp; rfl)); intro w20 hw; have hg : w18.grownBy w20 (some go5) := (by rw [hw]; exact HP19.2); have hp_ : Kd.R k27 27 w20 w0.heap.size (fun k_ => (P0_ k_ ∨ w.heap.size ≤ k_)) (.slice (some ⟨go5, 0, none⟩) a3.length a6) y105 := (by rw [hw, Ny105.out]; exact HP19.1); clear HP19; replace HB := yab ((by rw [hw]; exact below_set (HB.out) GB5.out : Below w0.heap.size w0 w20)); replace HK := yab (Kept.of_grown (S := (fun k_ => P0_ k_)) hg (by repeat (with_reducible first | exact HK.out | apply Kept.alloc | apply Kept.drewN | apply Kept.drew)) (fun k_ e_ => (a4.out.1 k_ e_))); replace a4 := yab (hp_); clear hg hw hp_))
     go_roundg k1
     case measure => have := HK1.out; omega
     case rel => exact ⟨(y105), (wrap64 ((wrap64 ((wrap64 ((wrap64 ((wrap64 (a5 + 1)) + 1)) + 1)) + 1)) + 1)), (wrap64 (a2 + 1)), (by first | rfl | (simp; done) | (simp [*]; done)), (by first | rfl | (simp; done) | (simp [*]; done)), H', ⟨by have := HK1.out; omega⟩, ⟨by first | exact a4.out | exact upR a4.out⟩, ⟨by repeat (with_reducible first | exact HK.out | apply Kept.alloc | apply Kept.drewN | apply Kept.drew)⟩, ⟨upH HB.out⟩⟩
    ·
     rw [if_neg c4] at H
     exact absurd H (by simp)
   ·
    rw [if_neg c3] at H
    have b2 : decide (a2 < (a3.length : Int)) = false := decide_eq_false c3; clear c3
    simp only [Option.some.injEq, Prod.mk.injEq] at H
    obtain ⟨rfl, rfl⟩ := H; obtain ⟨e9, f5, b4⟩ := Kd.R_slice a4.out; subst b4
    go_wp2
    go_ret
    exact ⟨by first | rfl | (simp [*, errW_none, errW_some] <;> rfl), by first | exact a4.out | exact upR a4.out, upH HB.out, by repeat (with_reducible first | exact HK.out | apply Kept.alloc | apply Kept.drewN | apply Kept.drew)⟩

end Go.Proofs.Ytoifpgkfpdeglaa.X

namespace Go.Proofs.Ytoifpgkfpdeglaa.Opn
open Go.RowKit Go.Proofs.YtoifpgkfpdeglaaW.PrintWords

/-- Every reading of type t is a reading of kind d, of a datum that is good. -/
def Opens (P : Program) (t : TypeId) {α : Type} (d : Kd α) (good : α → Prop) : Prop :=
  P.cellsOf t = d.sz ∧ ∀ (H : Type) (enc : TypeId × Value → H) (w : World) (n : Nat) (cs : List Value) (x : DataW H × List MemPlace),
    DataW.trod enc P w 0 (fun _ => true) true n t cs = some x → ∃ a : α, d.K w a cs ∧ good a

theorem opens_int {P : Program} {t : TypeId} {k : IntKind} (ht : P.underlying t = some (.int k)) (hc : P.cellsOf t = 1) :
    Opens P t (Kd.int k) (fun x => (Lit.int k x).wf = true) :=
  ⟨hc, fun H enc w n cs x h => by
    obtain ⟨m, rfl, _, hw⟩ := DataW.trod_int ht h
    exact ⟨m, rfl, hw⟩⟩

theorem list_of_get {α : Type} {n : Nat} {R : Nat → α → Prop} : (∀ i, i < n → ∃ a, R i a) → ∃ l : List α, l.length = n ∧ ∀ (i : Nat) (a : α), l[i]? = some a → R i a := by
  induction n with
  | zero => intro _; exact ⟨[], rfl, fun i a h => by simp at h⟩
  | succ n ih =>
    intro h
    obtain ⟨l, hl, hr⟩ := ih (fun i hi => h i (by omega))
    obtain ⟨a, ha⟩ := h n (by omega)
    refine ⟨l ++ [a], by simp [hl], fun i b hb => ?_⟩
    rcases Nat.lt_or_ge i n with hi | hi
    · rw [List.getElem?_append_left (by omega)] at hb
      exact hr i b hb
    · have : i = n := by
        have := (List.getElem?_eq_some_iff.1 hb).1
        simp at this
        omega
      subst this
      subst hl
      have : a = b := by simpa using hb
      subst this
      exact ha

theorem opens_slice {P : Program} {t e : TypeId} {α : Type} {d : Kd α} {good : α → Prop} (ht : P.underlying t = some (.slice e)) (hc : P.cellsOf t = 1) (he : Opens P e d good) :
    Opens P t (Kd.slice e d) (fun l => l.length ≤ maxLen ∧ ∀ a ∈ l, good a) :=
  ⟨hc, fun H enc w n cs x h => by
    rcases DataW.trod_slice ht h with ⟨rfl, _⟩ | ⟨a, len, cap, elems, rest, m, _, rfl, _, _, hlc, hcm, hel, hget, _, _⟩
    · exact ⟨[], ⟨none, 0, rfl, Nat.le_refl _, rfl, by simp, fun h => by simp at h⟩, by simp, by simp⟩
    · have each : ∀ i, i < len → ∃ y : α, good y ∧ ∃ c : List Value, c.length = d.sz ∧ d.K w y c ∧ ∀ j u, c[j]? = some u → w.cell? (a.add (i * d.sz + j)) = some u := by
        intro i hi
        have hg := hget i hi
        rw [List.getElem?_eq_getElem (by omega), he.1] at hg
        obtain ⟨c, hcs, htr⟩ := Option.bind_eq_some_iff.1 hg
        obtain ⟨_, hcl, hcell⟩ := World.cells?_some hcs
        obtain ⟨y, hK, hgood⟩ := he.2 H enc w m c _ htr
        refine ⟨y, hgood, c, hcl, hK, fun j u hu => ?_⟩
        have hj : j < d.sz := by
          have := (List.getElem?_eq_some_iff.1 hu).1
          omega
        rw [← Addr.add_add, hcell j hj, hu]
      obtain ⟨l, hl, hr⟩ := list_of_get each
      refine ⟨l, ⟨some a, cap, ?_, by omega, rfl, ?_, fun _ => ⟨a, rfl, fun j p hj => (hr j p hj).2⟩⟩, by omega, fun y hy => ?_⟩
      · rw [hl]
      · have : maxLen = 9223372036854775807 := rfl
        omega
      · obtain ⟨i, hi⟩ := List.getElem?_of_mem hy
        exact (hr i y hi).1⟩

/-- The fields from offset 'off' on. -/
def OpensF (P : Program) (fs : List Field) (off : Nat) {α : Type} (d : Kd α) (good : α → Prop) : Prop :=
  ∀ (H : Type) (enc : TypeId × Value → H) (w : World) (n : Nat) (cs : List Value), cs.length = off + d.sz →
    (∀ f ∈ fs, ∃ x, DataW.trod enc P w 0 (fun _ => true) true n f.type ((cs.drop f.offset).take (P.cellsOf f.type)) = some x) →
    ∃ a : α, d.K w a (cs.drop off) ∧ good a

theorem opensF_one {P : Program} {f : Field} {off : Nat} {α : Type} {d : Kd α} {good : α → Prop} (ho : f.offset = off) (h : Opens P f.type d good) : OpensF P [f] off d good := by
  intro H enc w n cs hl hx
  obtain ⟨x, hx⟩ := hx f (by simp)
  obtain ⟨a, hK, hg⟩ := h.2 H enc w n _ x hx
  rw [ho, h.1, List.take_of_length_le (by rw [List.length_drop]; omega)] at hK
  exact ⟨a, hK, hg⟩

theorem opensF_cons {P : Program} {f : Field} {fs : List Field} {off : Nat} {α β : Type} {d : Kd α} {d2 : Kd β} {good : α → Prop} {good2 : β → Prop} (ho : f.offset = off) (h : Opens P f.type d good) (h2 : OpensF P fs (off + d.sz) d2 good2) :
    OpensF P (f :: fs) off (Kd.pair d d2) (fun x => good x.1 ∧ good2 x.2) := by
  intro H enc w n cs hl hx
  have hs : (Kd.pair d d2).sz = d.sz + d2.sz := rfl
  obtain ⟨x, hx0⟩ := hx f (by simp)
  obtain ⟨a, hK, hg⟩ := h.2 H enc w n _ x hx0
  obtain ⟨b, hK2, hg2⟩ := h2 H enc w n cs (by omega) (fun f' hf' => hx f' (by simp [hf']))
  rw [ho, h.1] at hK
  refine ⟨(a, b), ⟨_, _, ?_, hK, hK2⟩, hg, hg2⟩
  rw [← List.drop_drop, List.take_append_drop]

theorem opens_struct {P : Program} {t : TypeId} {fs : Array Field} {α : Type} {d : Kd α} {good : α → Prop} (ht : P.underlying t = some (.struct fs)) (hc : P.cellsOf t = d.sz) (h : OpensF P fs.toList 0 d good) : Opens P t d good :=
  ⟨hc, fun H enc w n cs x hx => by
    obtain ⟨xs, m, _, _, hl, hxl, hget⟩ := DataW.trod_struct ht hx
    have := h H enc w m cs (by omega) (fun f hf => by
      obtain ⟨i, hi⟩ := List.getElem?_of_mem hf
      have hi' : fs[i]? = some f := by simpa using hi
      have hlt : i < xs.length := by
        have := (List.getElem?_eq_some_iff.1 hi).1
        simp at this
        omega
      exact ⟨xs[i], by rw [hget i f hi', List.getElem?_eq_getElem hlt]⟩)
    simpa using this⟩

theorem opens_iso {P : Program} {t : TypeId} {α β : Type} {d : Kd α} {good : α → Prop} {f : β → α} (g : α → β) (hfg : ∀ a, f (g a) = a) (h : Opens P t d good) : Opens P t (Kd.iso d f) (fun x => good (f x)) :=
  ⟨h.1, fun H enc w n cs x hx => by
    obtain ⟨a, hK, hg⟩ := h.2 H enc w n cs x hx
    exact ⟨g a, by show d.K w (f (g a)) cs; rw [hfg]; exact hK, by show good (f (g a)); rw [hfg]; exact hg⟩⟩

/-- A weaker word on what is good. -/
theorem Opens.imp {P : Program} {t : TypeId} {α : Type} {d : Kd α} {good good2 : α → Prop} (h : Opens P t d good) (hi : ∀ a, good a → good2 a) : Opens P t d good2 :=
  ⟨h.1, fun H enc w n cs x hx => by
    obtain ⟨a, hK, hg⟩ := h.2 H enc w n cs x hx
    exact ⟨a, hK, hi a hg⟩⟩

theorem Opens.of_trod {P : Program} {t : TypeId} {α : Type} {d : Kd α} {good : α → Prop} (h : Opens P t d good) {H : Type} {enc : TypeId × Value → H} {w : World} {v : Value} {x : DataW H} {ps : List MemPlace}
    (ht : DataW.Trod enc P w 0 (fun _ => true) true t v x ps) : ∃ a : α, d.K w a v.cells.toList ∧ good a := by
  obtain ⟨n, hn⟩ := ht
  exact h.2 H enc w n _ _ hn

end Go.Proofs.Ytoifpgkfpdeglaa.Opn

namespace Go.Proofs.Ytoifpgkfpdeglaa.X
open Go.RowKit Go.Proofs.YtoifpgkfpdeglaaW.PrintWords Go.Proofs.Ytoifpgkfpdeglaa.Opn
set_option linter.unusedVariables false
def g94 (x : S94) : Prop := (Lit.int .i64 x.f0).wf = true ∧ (Lit.int .i64 x.f1).wf = true ∧ (Lit.int .i64 x.f2).wf = true ∧ (Lit.int .i64 x.f3).wf = true
set_option maxRecDepth 100000 in
theorem op94 : Opens Try.prog 94 k94 g94 :=
  opens_iso (d := (Kd.pair (Kd.int .i64) (Kd.pair (Kd.int .i64) (Kd.pair (Kd.int .i64) (Kd.int .i64))))) (fun p => ⟨p.1, p.2.1, p.2.2.1, p.2.2.2⟩) (fun _ => rfl) (good := fun p => (Lit.int .i64 p.1).wf = true ∧ (Lit.int .i64 p.2.1).wf = true ∧ (Lit.int .i64 p.2.2.1).wf = true ∧ (Lit.int .i64 p.2.2.2).wf = true) (opens_struct Try.underlying94 (by kernel_rfl) (opensF_cons rfl (opens_int Try.underlying3 (by kernel_rfl)) (opensF_cons rfl (opens_int Try.underlying3 (by kernel_rfl)) (opensF_cons rfl (opens_int Try.underlying3 (by kernel_rfl)) (opensF_one rfl (opens_int Try.underlying3 (by kernel_rfl)))))))
def g45 (x : S45) : Prop := (Lit.int .i64 x.f0).wf = true ∧ (Lit.int .i64 x.f1).wf = true ∧ (Lit.int .i64 x.f2).wf = true ∧ (Lit.int .i64 x.f3).wf = true ∧ (Lit.int .i64 x.f4).wf = true
set_option maxRecDepth 100000 in
theorem op45 : Opens Try.prog 45 k45 g45 :=
  opens_iso (d := (Kd.pair (Kd.int .i64) (Kd.pair (Kd.int .i64) (Kd.pair (Kd.int .i64) (Kd.pair (Kd.int .i64) (Kd.int .i64)))))) (fun p => ⟨p.1, p.2.1, p.2.2.1, p.2.2.2.1, p.2.2.2.2⟩) (fun _ => rfl) (good := fun p => (Lit.int .i64 p.1).wf = true ∧ (Lit.int .i64 p.2.1).wf = true ∧ (Lit.int .i64 p.2.2.1).wf = true ∧ (Lit.int .i64 p.2.2.2.1).wf = true ∧ (Lit.int .i64 p.2.2.2.2).wf = true) (opens_struct Try.underlying45 (by kernel_rfl) (opensF_cons rfl (opens_int Try.underlying3 (by kernel_rfl)) (opensF_cons rfl (opens_int Try.underlying3 (by kernel_rfl)) (opensF_cons rfl (opens_int Try.underlying3 (by kernel_rfl)) (opensF_cons rfl (opens_int Try.underlying3 (by kernel_rfl)) (opensF_one rfl (opens_int Try.underlying3 (by kernel_rfl))))))))
end Go.Proofs.Ytoifpgkfpdeglaa.X

namespace Go.Proofs.Ytoifpgkfpdeglaa.X
open Go.RowKit Go.Proofs.YtoifpgkfpdeglaaW.PrintWords Go.Proofs.YtoifpgkfpdeglaaW.PrintLast Go.Proofs.YtoifpgkfpdeglaaW.PrintMore
attribute [local go_sem] max2_int min2_int max_two min_two max_three min_three max_four min_four
set_option linter.unusedVariables false
set_option linter.unusedSimpArgs false

open Go.Proofs.YtoifpgkfpdeglaaW.PrintWords.Aside0 renaming mk → yaa
open Go.Proofs.YtoifpgkfpdeglaaW.PrintWords renaming pw_below_drewN → yab, below_alloc → yac, below_drew1 → yad, blk_below → yae, below_set → yaf, below_step → yag

/-! ### spec_OpDo: function 12 -/

end Go.Proofs.Ytoifpgkfpdeglaa.X
