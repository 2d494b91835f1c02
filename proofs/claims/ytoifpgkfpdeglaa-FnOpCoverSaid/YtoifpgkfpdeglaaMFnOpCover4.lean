/- Lemmas and contracts for the law FnOpCover, part 4: of the program's functions, and over data alone. No condition. -/
import Derived.Test.YtoifpgkfpdeglaaMFnOpCover2
import Derived.Test.YtoifpgkfpdeglaaMFnOpCover3
namespace Go.Proofs.Ytoifpgkfpdeglaa.X
open Go.RowKit Go.Proofs.YtoifpgkfpdeglaaW.PrintWords Go.Proofs.YtoifpgkfpdeglaaW.PrintLast Go.Proofs.YtoifpgkfpdeglaaW.PrintMore
attribute [local go_sem] max2_int min2_int max_two min_two max_three min_three max_four min_four
set_option linter.unusedVariables false
set_option linter.unusedSimpArgs false
section
open Go.Proofs.YtoifpgkfpdeglaaW.PrintWords.Aside0 renaming mk → yaa
open Go.Proofs.YtoifpgkfpdeglaaW.PrintWords renaming pw_below_drewN → yab
abbrev q76_0 : Array Bool := Array.replicate 20 false
abbrev q76_1 : Array Bool := bl_ 20 1
abbrev q76_2 : Array Bool := bl_ 20 5
abbrev q76_3 : Array Bool := bl_ 20 21
abbrev q76_4 : Array Bool := bl_ 20 149
abbrev q76_5 : Array Bool := bl_ 20 661
abbrev q76_6 : Array Bool := bl_ 20 4757
abbrev q76_7 : Array Bool := bl_ 20 4759
abbrev q76_8 : Array Bool := bl_ 20 4767
abbrev q76_9 : Array Bool := bl_ 20 4799
abbrev q76_10 : Array Bool := bl_ 20 4863
abbrev q76_11 : Array Bool := bl_ 20 5119
abbrev q76_12 : Array Bool := bl_ 20 6143
abbrev q76_13 : Array Bool := bl_ 20 8191
abbrev q76_14 : Array Bool := bl_ 20 16383
abbrev q76_15 : Array Bool := bl_ 20 32767
abbrev q76_16 : Array Bool := bl_ 20 65535
abbrev q76_17 : Array Bool := bl_ 20 131071
abbrev q76_18 : Array Bool := bl_ 20 262143
abbrev q76_19 : Array Bool := bl_ 20 524287
abbrev q76_20 : Array Bool := bl_ 20 1048575
mutual
def spec_l6Turn.l0 : Nat → Int → Int → Int → List (S36) → Int → Int → List (S36) → Option (Int × Int × (List (S36)))
 | 0, _, _, _, _, _, _, _ => none
 | k + 1, x4, x102000, x102001, x102002, x104000, x104001, x104002 => if x4 < x104001 then (spec_l6Turn.l1 k x4 0 x102000 x102001 x102002 x104000 x104001 x104002) else (some (x104000, x104001, x104002))
def spec_l6Turn.l1 : Nat → Int → Int → Int → Int → List (S36) → Int → Int → List (S36) → Option (Int × Int × (List (S36)))
 | 0, _, _, _, _, _, _, _, _ => none
 | k + 1, x4, x5, x102000, x102001, x102002, x104000, x104001, x104002 => if x5 < x104000 then (if 0 ≤ (wrap64 ((wrap64 ((wrap64 ((wrap64 (x102001 - 1)) - x5)) * x102000)) + x4)) then (if (wrap64 ((wrap64 ((wrap64 ((wrap64 (x102001 - 1)) - x5)) * x102000)) + x4)) < (x102002.length : Int) then (if x104002.length < 4398046511104 then (spec_l6Turn.l1 k x4 (wrap64 (x5 + 1)) x102000 x102001 x102002 x104000 x104001 (x104002 ++ [(⟨(rd_T36 x102002 (wrap64 ((wrap64 ((wrap64 ((wrap64 (x102001 - 1)) - x5)) * x102000)) + x4))).f0, (rd_T36 x102002 (wrap64 ((wrap64 ((wrap64 ((wrap64 (x102001 - 1)) - x5)) * x102000)) + x4))).f1, (rd_T36 x102002 (wrap64 ((wrap64 ((wrap64 ((wrap64 (x102001 - 1)) - x5)) * x102000)) + x4))).f2, (rd_T36 x102002 (wrap64 ((wrap64 ((wrap64 ((wrap64 (x102001 - 1)) - x5)) * x102000)) + x4))).f3⟩ : S36)])) else (none)) else (none)) else (none)) else (spec_l6Turn.l0 k (wrap64 (x4 + 1)) x102000 x102001 x102002 x104000 x104001 x104002)
end
def spec_l6Turn.f (k : Nat) (a0_0 : Int) (a0_1 : Int) (l0_2 : List (S36)) : Option (Int × Int × (List (S36))) := spec_l6Turn.l0 k 0 a0_0 a0_1 l0_2 a0_1 a0_0 ([] : List (S36))
def spec_l6Turn.T8 : Bool × List (List Nat × List Nat) := (true, [([], []), ([0], [0]), ([], []), ([2], [2]), ([], []), ([4], [4]), ([5], [5]), ([], []), ([6, 7], [6, 7]), ([], []), ([9], [9]), ([8, 10], [8, 10]), ([], []), ([11, 12], [11, 12]), ([3, 13], [3, 13]), ([14], [14]), ([15], [15]), ([1, 16], [1, 16]), ([0, 1, 2, 3, 4, 5, 6, 7, 8, 9, 10, 11, 12, 13, 14, 15, 16, 17], []), ([18, 17, 17, 0, 1, 2, 3, 4, 5, 6, 7, 8, 9, 10, 11, 12, 13, 14, 15, 16, 17], [17, 18])])
def spec_l6Turn.B8 : List Nat := [0, 1, 0, 4, 0, 16, 48, 0, 240, 0, 512, 2032, 0, 8176, 16380, 32764, 65532, 131071, 262143, 524287]
theorem spec_l6Turn.tab8 : rtab .any (opsOf Try.f76 8) = spec_l6Turn.T8 := by kernel_rfl
theorem spec_l6Turn.bits8 : waitsOk spec_l6Turn.T8.2 spec_l6Turn.B8 = true := by kernel_rfl
set_option maxHeartbeats 8000000 in
set_option maxRecDepth 100000 in
theorem spec_l6Turn.calls (k : Nat) (a0_0 : Int) (a0_1 : Int) (A0_2 : Option Addr) (c0_2 : Nat) (l0_2 : List (S36)) (r1 : Int) (r2 : Int) (r3 : List (S36)) (w : World) (hr0_2 : Kd.C k36 w A0_2 l0_2.length l0_2) (hc0_2 : l0_2.length ≤ c0_2) (h : spec_l6Turn.f k a0_0 a0_1 l0_2 = some (r1, r2, r3)) :
  Calls Try.prog 76 #[.agg #[.int .i64 a0_0, .int .i64 a0_1, .slice A0_2 l0_2.length c0_2]] w fun e w' => ∃ v2_ : Value, e = .returned (.agg #[.int .i64 r1, .int .i64 r2, v2_]) ∧ Kd.R k36 36 w' w.heap.size (fun _ => True) v2_ r3 ∧ Below w.heap.size w w' := by
 have hu25 := Try.underlying25; have hu36 := Try.underlying36; have HR0_2 := yaa hr0_2; have HC0_2 := yaa hc0_2; clear hr0_2 hc0_2; have HB := yaa (Below.refl w.heap.size w); have H : (spec_l6Turn.l0 k 0 a0_0 a0_1 l0_2 a0_1 a0_0 ([] : List (S36))) = some (r1, r2, r3) := h; clear h; have H' := yaa H; clear H
 go_enter Try.func76, Try.ntmps76
 go_wp2_with (first | ((with_reducible refine gd_ 1 rfl ?_); refine bx_ 1 rfl #[.int .i64 a0_0, .int .i64 a0_1, .slice A0_2 l0_2.length c0_2] 25 ?_; intro b6 hg w2 hbox hb; have a5 := yaa (hbox); have f8 := yaa ((by rw [hg]; exact (below_size (upH HB.out)) : w.heap.size ≤ b6)); replace HB := yaa (below_step (upH HB.out) hb); have j8 := f8; clear hb hbox hg) | ((with_reducible refine gd_ 2 rfl ?_); refine bx_ 2 rfl #[.int .i64 0, .int .i64 0, .slice none 0 0] 25 ?_; intro b4 hg w3 hbox hb; have a9 := yaa (hbox); have f9 := yaa ((by rw [hg]; exact (below_size (by repeat (with_reducible first | exact HB.out | apply below_alloc | apply yab | apply below_drew1 | refine below_set ?_ (Aside0.out ‹_›)))) : w.heap.size ≤ b4)); replace HB := yaa (below_step (by repeat (with_reducible first | exact HB.out | apply below_alloc | apply yab | apply below_drew1 | refine below_set ?_ (Aside0.out ‹_›))) hb); have j9 := f9; have b5 := yaa ((by rw [hg]; exact Nat.ne_of_lt (blk_lt (upB a5.out)) : b6 ≠ b4)); replace a5 := yaa (blk_below (upB a5.out) hb); have d1 := yaa b5.out.symm; clear hb hbox hg; have m4 := b5.out; have m5 := d1.out; obtain ⟨d3, d4, d5⟩ := cc3_ a5.out; obtain ⟨d6, d7⟩ := cf2_ a5.out; have d8 := blk_frozen a5.out 2) | ((with_reducible refine gd_ 3 rfl ?_); refine bx_ 3 rfl #[.int .i64 0, .int .i64 0, .slice none 0 0] 25 ?_; intro b3 hg w6 hbox hb; have a4 := yaa (hbox); have g0 := yaa ((by rw [hg]; exact (below_size (by repeat (with_reducible first | exact HB.out | apply below_alloc | apply yab | apply below_drew1 | refine below_set ?_ (Aside0.out ‹_›)))) : w.heap.size ≤ b3)); replace HB := yaa (below_step (by repeat (with_reducible first | exact HB.out | apply below_alloc | apply yab | apply below_drew1 | refine below_set ?_ (Aside0.out ‹_›))) hb); have k0 := g0; have a6 := yaa ((by rw [hg]; exact Nat.ne_of_lt (blk_lt (upB a5.out)) : b6 ≠ b3)); replace a5 := yaa (blk_below (upB a5.out) hb); have b0 := yaa a6.out.symm; have a7 := yaa ((by rw [hg]; exact Nat.ne_of_lt (blk_lt (upB a9.out)) : b4 ≠ b3)); replace a9 := yaa (blk_below (upB a9.out) hb); have b1 := yaa a7.out.symm; clear hb hbox hg; have m6 := b0.out; have m7 := a6.out; have m8 := b1.out; have m9 := a7.out; obtain ⟨d9, e0, e1⟩ := cc3_ a4.out; obtain ⟨e2, e3⟩ := cf2_ a4.out; have e4 := blk_frozen a4.out 2))
 (try simp only [Act.put, List.setIfInBounds_toArray, List.set_cons_zero, List.set_cons_succ])
 go_loopg [4] k (fun kq v4 w' => ∃ (b7 : Int) (b2 : List (S36)) (u104002 : Value), v4 = .int .i64 b7 ∧ Aside0 (spec_l6Turn.l0 kq b7 a0_0 a0_1 l0_2 a0_1 a0_0 b2 = some (r1, r2, r3)) ∧ Aside0 (kq ≤ k) ∧ Aside0 (Kd.R k36 36 w' w.heap.size (fun _ => True) u104002 b2) ∧ Aside0 (w'.heap[b6]? = some (.cells #[.int .i64 a0_0, .int .i64 a0_1, (.slice A0_2 l0_2.length c0_2)] 25 (0, 0))) ∧ Aside0 (w'.heap[b4]? = some (.cells #[.int .i64 0, .int .i64 0, (.slice none 0 0)] 25 (0, 0))) ∧ Aside0 (w'.heap[b3]? = some (.cells #[.int .i64 a0_1, .int .i64 a0_0, u104002] 25 (0, 0))) ∧ Aside0 (Below w.heap.size w w'))
 case atStart => exact ⟨(0), (([] : List (S36))), (.slice none 0 0), (by first | rfl | (simp; done) | (simp [*]; done)), H', ⟨Nat.le_refl _⟩, ⟨by first | exact Kd.R_nil _ _ _ _ _ | exact Kd.N_nil _ _ _ _ _ | exact Kd.V_nil _ _ _ _ _ | exact Kd.Q_nil _ _ _ _ _ | exact Kd.S_nil _ _ _ _ _⟩, ⟨by repeat (with_reducible first | exact a5.out | refine oneB ?_ | refine blk_far ?_ a6.out _)⟩, ⟨by repeat (with_reducible first | exact a9.out | refine oneB ?_ | refine blk_far ?_ a7.out _)⟩, ⟨by (repeat refine oneB ?_); refine blk_put (cs := #[.int .i64 a0_1, .int .i64 a0_0, .slice none 0 0]) ?_ 2 _ rfl; refine blk_put (cs := #[.int .i64 a0_1, .int .i64 0, .slice none 0 0]) ?_ 1 _ rfl; refine blk_put (cs := #[.int .i64 0, .int .i64 0, .slice none 0 0]) ?_ 0 _ rfl; exact upB a4.out⟩, ⟨by repeat (with_reducible first | exact HB.out | apply below_alloc | apply yab | apply below_drew1 | refine below_set ?_ (Aside0.out ‹_›))⟩⟩
 case round =>
  clear H'; (try clear p2); (try clear c4); (try clear c7); (try clear c8); (try clear d3); (try clear d4); (try clear d5); (try clear d9); (try clear e0); (try clear e1); (try clear d6); (try clear d7); (try clear d8); (try clear e2); (try clear e3); (try clear e4); obtain ⟨b7, b2, u104002, rfl, HA, HK1, a3, a5, a9, a4, HB⟩ := hrel
  cases gk with
  | zero => exact absurd HA.out (by simp [spec_l6Turn.l0])
  | succ k1 =>
   have H := HA.out; clear HA
   simp only [spec_l6Turn.l0] at H
   by_cases c10 : b7 < a0_0
   rotate_left
   ·
    rw [if_neg c10] at H
    have f6 : decide (b7 < a0_0) = false := decide_eq_false c10; clear c10
    simp only [Option.some.injEq, Prod.mk.injEq] at H
    obtain ⟨rfl, rfl, rfl⟩ := H; have l8 := b0.out; have l9 := a6.out; have m0 := b1.out; have m1 := a7.out; obtain ⟨i3, i4, i5⟩ := cc3_ a4.out; obtain ⟨i6, i7, i8⟩ := cf3_ a4.out; have m2 := d1.out; have m3 := b5.out; obtain ⟨i9, j0, j1⟩ := cc3_ a9.out; obtain ⟨j2, j3, j4⟩ := cf3_ a9.out; obtain ⟨g5, g6, j7⟩ := Kd.R_slice a3.out; subst j7
    go_wp2
    refine bodyPost_ret (results_cell_row rfl _ _ b4 25 #[.int .i64 a0_1, .int .i64 a0_0, .slice g5 b2.length g6] (0, 0) _ rfl (by (repeat refine oneB ?_); refine blk_put (cs := #[.int .i64 a0_1, .int .i64 a0_0, .slice none 0 0]) ?_ 2 _ rfl; refine blk_put (cs := #[.int .i64 a0_1, .int .i64 0, .slice none 0 0]) ?_ 1 _ rfl; refine blk_put (cs := #[.int .i64 0, .int .i64 0, .slice none 0 0]) ?_ 0 _ rfl; exact upB a9.out) Try.underlying25 rfl (by kernel_rfl)) rfl ?_
    exact ⟨_, by first | rfl | (simp [*, errW_none, errW_some] <;> rfl), by (with_reducible repeat (first | apply Kd.R_alloc | apply Kd.R_drewN | apply Kd.R_drew)); exact Kd.R_mono (Kd.R_far (p := ⟨b4, 2, none⟩) (Kd.R_far (p := ⟨b4, 1, none⟩) (Kd.R_far (p := ⟨b4, 0, none⟩) (Kd.R_types a3.out a9.out (by decide)) (fun _ hk => hk.2) (.int .i64 a0_1)) (fun _ hk => hk.2) (.int .i64 a0_0)) (fun _ hk => hk.2) (.slice g5 b2.length g6)) (fun _ hk => trivial), by repeat (with_reducible first | exact HB.out | apply below_alloc | apply yab | apply below_drew1 | refine below_set ?_ (Aside0.out ‹_›))⟩
   rw [if_pos c10] at H
   have f6 : decide (b7 < a0_0) = true := decide_eq_true c10; clear c10; have H' := yaa H; clear H; have k3 := b0.out; have k4 := a6.out; have k5 := b1.out; have k6 := a7.out; obtain ⟨e5, e6, e7⟩ := cc3_ a4.out; obtain ⟨e8, e9, f4⟩ := cf3_ a4.out
   go_wp2
   (try simp only [Act.put, List.setIfInBounds_toArray, List.set_cons_zero, List.set_cons_succ])
   go_loopg [5] k1 (fun kq v5 w' => ∃ (d0 : Int) (a8 : List (S36)) (u104002 : Value), v5 = .int .i64 d0 ∧ Aside0 (spec_l6Turn.l1 kq b7 d0 a0_0 a0_1 l0_2 a0_1 a0_0 a8 = some (r1, r2, r3)) ∧ Aside0 (kq ≤ k1) ∧ Aside0 (Kd.R k36 36 w' w.heap.size (fun _ => True) u104002 a8) ∧ Aside0 (w'.heap[b6]? = some (.cells #[.int .i64 a0_0, .int .i64 a0_1, (.slice A0_2 l0_2.length c0_2)] 25 (0, 0))) ∧ Aside0 (w'.heap[b4]? = some (.cells #[.int .i64 0, .int .i64 0, (.slice none 0 0)] 25 (0, 0))) ∧ Aside0 (w'.heap[b3]? = some (.cells #[.int .i64 a0_1, .int .i64 a0_0, u104002] 25 (0, 0))) ∧ Aside0 (Below w.heap.size w w'))
   case atStart => exact ⟨(0), (b2), (u104002), (by first | rfl | (simp; done) | (simp [*]; done)), H', ⟨Nat.le_refl _⟩, ⟨by first | exact a3.out | exact upR a3.out⟩, ⟨by exact upB a5.out⟩, ⟨by exact upB a9.out⟩, ⟨by exact upB a4.out⟩, ⟨by repeat (with_reducible first | exact HB.out | apply below_alloc | apply yab | apply below_drew1 | refine below_set ?_ (Aside0.out ‹_›))⟩⟩
   case round =>
    clear H'; (try clear c1); (try clear p2); (try clear c4); (try clear c7); (try clear c8); (try clear c10); (try clear f6); (try clear c11); (try clear c12); (try clear e5); (try clear e6); (try clear e7); (try clear d3); (try clear d4); (try clear d5); (try clear d9); (try clear e0); (try clear e1); (try clear e8); (try clear e9); (try clear f4); (try clear d6); (try clear d7); (try clear d8); (try clear e2); (try clear e3); (try clear e4); (try clear p2); obtain ⟨d0, a8, u104002, rfl, HA, HK2, a3, a5, a9, a4, HB⟩ := hrel
    cases gk with
    | zero => exact absurd HA.out (by simp [spec_l6Turn.l1])
    | succ k2 =>
     have H := HA.out; clear HA
     simp only [spec_l6Turn.l1] at H
     by_cases c14 : d0 < a0_1
     rotate_left
     ·
      rw [if_neg c14] at H
      have g1 : decide (d0 < a0_1) = false := decide_eq_false c14; clear c14; have H' := yaa H; clear H; have l4 := b0.out; have l5 := a6.out; have l6 := b1.out; have l7 := a7.out; obtain ⟨h7, h8, h9⟩ := cc3_ a4.out; obtain ⟨i0, i1, i2⟩ := cf3_ a4.out
      go_wp2
      go_roundg k2
      case measure => have := HK1.out; have := HK2.out; omega
      case rel => exact ⟨(wrap64 (b7 + 1)), (a8), (u104002), (by first | rfl | (simp; done) | (simp [*]; done)), H', ⟨by have := HK1.out; have := HK2.out; omega⟩, ⟨by first | exact a3.out | exact upR a3.out⟩, ⟨by exact upB a5.out⟩, ⟨by exact upB a9.out⟩, ⟨by exact upB a4.out⟩, ⟨by repeat (with_reducible first | exact HB.out | apply below_alloc | apply yab | apply below_drew1 | refine below_set ?_ (Aside0.out ‹_›))⟩⟩
     rw [if_pos c14] at H
     have g1 : decide (d0 < a0_1) = true := decide_eq_true c14; clear c14; obtain ⟨ji15, hji15⟩ : ∃ j_ : Int, (wrap64 ((wrap64 ((wrap64 ((wrap64 (a0_1 - 1)) - d0)) * a0_0)) + b7)) = j_ := ⟨_, rfl⟩
     replace H : (if 0 ≤ (ji15) then (if (ji15) < (l0_2.length : Int) then (if a8.length < 4398046511104 then (spec_l6Turn.l1 k2 b7 (wrap64 (d0 + 1)) a0_0 a0_1 l0_2 a0_1 a0_0 (a8 ++ [(⟨(rd_T36 l0_2 (ji15)).f0, (rd_T36 l0_2 (ji15)).f1, (rd_T36 l0_2 (ji15)).f2, (rd_T36 l0_2 (ji15)).f3⟩ : S36)])) else (none)) else (none)) else (none)) = some (r1, r2, r3) := by first | (rw [hji15] at H; exact H) | (simp only [hji15] at H ⊢; exact H)
     have hji15w : (IntKind.i64.wrap ((wrap64 ((wrap64 ((wrap64 (a0_1 - 1)) - d0)) * a0_0)) + b7)) = ji15 := (i64_w _).trans hji15
     by_cases c16 : 0 ≤ (ji15)
     rotate_left
     ·
      rw [if_neg c16] at H
      exact absurd H (by simp)
     rw [if_pos c16] at H
     replace c16 := decide_eq_true c16
     by_cases c17 : (ji15) < (l0_2.length : Int)
     rotate_left
     ·
      rw [if_neg c17] at H
      exact absurd H (by simp)
     rw [if_pos c17] at H
     replace c17 := decide_eq_true c17
     by_cases c18 : a8.length < 4398046511104
     rotate_left
     ·
      rw [if_neg c18] at H
      exact absurd H (by simp)
     rw [if_pos c18] at H
     have LMc18 := yaa c18; clear c18; obtain ⟨y105, hy105⟩ : ∃ y_ : List (S36), y_ = (a8 ++ [(⟨(rd_T36 l0_2 (ji15)).f0, (rd_T36 l0_2 (ji15)).f1, (rd_T36 l0_2 (ji15)).f2, (rd_T36 l0_2 (ji15)).f3⟩ : S36)]) := ⟨_, rfl⟩
     replace H : (spec_l6Turn.l1 k2 b7 (wrap64 (d0 + 1)) a0_0 a0_1 l0_2 a0_1 a0_0 y105) = some (r1, r2, r3) := by first | (rw [hy105]; with_reducible exact H) | (have H2_ := (Option.bind_some _ _).symm.trans H; rw [hy105]; with_reducible exact H2_) | (have H2_ := (Option.bind_some _ _).symm.trans H; with_reducible exact H2_) | with_reducible exact H | (rw [hy105]; exact H) | exact H
     have Ny105 := yaa hy105; clear hy105; have H' := yaa H; clear H; have k7 := b0.out; have k8 := a6.out; have k9 := b1.out; have l2 := a7.out; obtain ⟨g7, g8, g9⟩ := cc3_ a4.out; obtain ⟨h0, h1, h2⟩ := cf3_ a4.out
     try go_wp2
     replace a3 := yaa (Kd.R_drew a3.out); replace a5 := yaa (blk_drew a5.out); replace a9 := yaa (blk_drew a9.out); replace a4 := yaa (blk_drew a4.out); replace HB := yaa (below_drew1 HB.out); have p104 : 0 ≤ ((ji15) : Int) := of_decide_eq_true (by assumption); have q104 : (ji15) < (l0_2.length : Int) := of_decide_eq_true (by assumption); obtain ⟨ad104, j6, b8, b9, c0, c2⟩ := at_T36 HR0_2.out (ji15) p104 q104; have c3 := c2; have c5 := c0; have c6 := b9; have c9 := b8
     cases j6
     replace b8 := (upc_ HB.out b8 :); replace b9 := (upc_ HB.out b9 :); replace c0 := (upc_ HB.out c0 :); replace c2 := (upc_ HB.out c2 :); replace p104 := eq_true p104; replace q104 := eq_true q104
     refine start_ (n := 20) (S := fun w' => w'.cell? ⟨b3, 0, none⟩ = some (.int .i64 a0_1) ∧ w'.cell? ⟨b3, 1, none⟩ = some (.int .i64 a0_0) ∧ w'.cell? ⟨b3, 2, none⟩ = some (u104002) ∧ w'.cell? ⟨b6, 0, none⟩ = some (.int .i64 a0_0) ∧ w'.cell? ⟨b6, 1, none⟩ = some (.int .i64 a0_1) ∧ w'.cell? ⟨b6, 2, none⟩ = some (.slice (some ad104) l0_2.length c0_2) ∧ w'.cell? (ad104.add (((ji15)).toNat * 4)) = some (.int .i64 ((rd_T36 l0_2 (ji15)).f0)) ∧ w'.cell? ⟨(ad104.add (((ji15)).toNat * 4)).block, (ad104.add (((ji15)).toNat * 4)).off + 1, none⟩ = some (.int .i64 ((rd_T36 l0_2 (ji15)).f1)) ∧ w'.cell? ⟨(ad104.add (((ji15)).toNat * 4)).block, (ad104.add (((ji15)).toNat * 4)).off + 2, none⟩ = some (.int .i64 ((rd_T36 l0_2 (ji15)).f2)) ∧ w'.cell? ⟨(ad104.add (((ji15)).toNat * 4)).block, (ad104.add (((ji15)).toNat * 4)).off + 3, none⟩ = some (.int .i64 ((rd_T36 l0_2 (ji15)).f3))) (ds := [19]) q76_0 (by kernel_rfl) rfl rfl ⟨(blk_cell a4.out 0).trans rfl, (blk_cell a4.out 1).trans rfl, (blk_cell a4.out 2).trans rfl, (blk_cell a5.out 0).trans rfl, (blk_cell a5.out 1).trans rfl, (blk_cell a5.out 2).trans rfl, (upc_ HB.out c9 :), (upc_ HB.out c6 :), (upc_ HB.out c5 :), (upc_ HB.out c3 :)⟩ (fun hHeld => ?_); refine with_tabW spec_l6Turn.tab8 spec_l6Turn.bits8 (fun HT_ HW_ => ?_)
     generalize wr.drew = w22 at a3 a5 a9 a4 HB b8 b9 c0 c2 hHeld ⊢
     refine pz_ 0 23 q76_1 HT_ (by kernel_rfl) ?_
     refine pz_ 2 25 q76_2 HT_ (by kernel_rfl) ?_
     refine pz_ 4 27 q76_3 HT_ (by kernel_rfl) ?_
     refine pz_ 7 30 q76_4 HT_ (by kernel_rfl) ?_
     refine pz_ 9 32 q76_5 HT_ (by kernel_rfl) ?_
     refine pz_ 12 35 q76_6 HT_ (by kernel_rfl) ?_
     refine tz_ 1 24 q76_7 HT_ HW_ (by kernel_rfl) hHeld ?_
     refine tz_ 3 26 q76_8 HT_ HW_ (by kernel_rfl) hHeld ?_
     refine tz_ 5 28 q76_9 HT_ HW_ (by kernel_rfl) hHeld ?_
     refine pz_ 6 29 q76_10 HT_ (by kernel_rfl) ?_
     refine pz_ 8 31 q76_11 HT_ (by kernel_rfl) ?_
     refine tz_ 10 33 q76_12 HT_ HW_ (by kernel_rfl) hHeld ?_
     refine pz_ 11 34 q76_13 HT_ (by kernel_rfl) ?_
     refine pz_ 13 36 q76_14 HT_ (by kernel_rfl) ?_
     refine pz_ 14 37 q76_15 HT_ (by kernel_rfl) ?_
     refine tz_ 15 38 q76_16 HT_ HW_ (by kernel_rfl) hHeld ?_
     refine one_ (i := 16) (N := some 39) q76_17 rfl rfl (one_of HT_.out (by kernel_rfl)) (by decide) (fun K hK => ?_)
     refine value_ (w1 := ?_) (v := ?_) (by rfl) rfl ?_ ?_
     rotate_left 2
     ·
      go_simp
      constructor
      ·
       rfl
      ·
       rfl
     refine hK.out _ _ ⟨(blk_cell (blk_alloc a4.out _) 0).trans rfl, (blk_cell (blk_alloc a4.out _) 1).trans rfl, (blk_cell (blk_alloc a4.out _) 2).trans rfl, (blk_cell (blk_alloc a5.out _) 0).trans rfl, (blk_cell (blk_alloc a5.out _) 1).trans rfl, (blk_cell (blk_alloc a5.out _) 2).trans rfl, (World.cell?_alloc_lt _ _ _ (World.block_lt_of_cell? _ _ ((upc_ HB.out c9 :)))).trans ((upc_ HB.out c9 :)), (World.cell?_alloc_lt _ _ _ (World.block_lt_of_cell? _ _ ((upc_ HB.out c6 :)))).trans ((upc_ HB.out c6 :)), (World.cell?_alloc_lt _ _ _ (World.block_lt_of_cell? _ _ ((upc_ HB.out c5 :)))).trans ((upc_ HB.out c5 :)), (World.cell?_alloc_lt _ _ _ (World.block_lt_of_cell? _ _ ((upc_ HB.out c3 :)))).trans ((upc_ HB.out c3 :))⟩ (fun hHeld => ?_)
     clear hK K
     refine norm_ (a' := ?_) ?_ ?_
     rotate_left
     ·
      show Act.put _ (some 39) _ = _
      simp only [Act.put, List.setIfInBounds_toArray, List.set_cons_zero, List.set_cons_succ, i64_w, i32_w]
      rfl
     refine one_ (i := 17) (N := some 40) q76_18 rfl rfl (one_of HT_.out (by kernel_rfl)) (by decide) (fun K hK => ?_)
     refine Kd.R_append_step k36 (w0 := w) w.heap.size (by rfl) (.tmp 24) (.tmp 39) 23 36 (.agg #[(.int .i64 0), (.int .i64 0), (.int .i64 0), (.int .i64 0)]) 32 rfl Try.underlying23 info36 rfl (by decide) (by omega) u104002 a8 (⟨(rd_T36 l0_2 (ji15)).f0, (rd_T36 l0_2 (ji15)).f1, (rd_T36 l0_2 (ji15)).f2, (rd_T36 l0_2 (ji15)).f3⟩ : S36) [.int .i64 ((rd_T36 l0_2 (ji15)).f0), .int .i64 ((rd_T36 l0_2 (ji15)).f1), .int .i64 ((rd_T36 l0_2 (ji15)).f2), .int .i64 ((rd_T36 l0_2 (ji15)).f3)] (fun _ => True) (fun _ => False) rfl rfl ?aP (fun _ hk => hk.elim) ?aF ?aO ?aB ?aS ?aL ?_
     (case aP => exact k36_mkM _ _ _ (⟨(rd_T36 l0_2 (ji15)).f0, (rd_T36 l0_2 (ji15)).f1, (rd_T36 l0_2 (ji15)).f2, (rd_T36 l0_2 (ji15)).f3⟩ : S36))
     (case aB => exact (by repeat (with_reducible first | exact HB.out | apply below_alloc | apply yab | apply below_drew1 | refine below_set ?_ (Aside0.out ‹_›))))
     (case aF => exact (fun _ _ => trivial))
     (case aO => exact (upR a3.out))
     (case aS => exact (below_size (by repeat (with_reducible first | exact HB.out | apply below_alloc | apply yab | apply below_drew1 | refine below_set ?_ (Aside0.out ‹_›)))))
     (case aL => have := LMc18.out; omega)
     intro n0 w23 ho hb hg hat
     rw [← Ny105.out] at ho
     replace a5 := yaa (blk_grown (upB a5.out) hg (Kd.R_ne a3.out a5.out (by decide))); replace a9 := yaa (blk_grown (upB a9.out) hg (Kd.R_ne a3.out a9.out (by decide))); replace a4 := yaa (blk_grown (upB a4.out) hg (Kd.R_ne a3.out a4.out (by decide))); replace HB := yaa (hb); have f7 := yaa (ho); clear a3; clear ho hb hg hat; obtain ⟨g2, g3, g4⟩ := Kd.R_slice f7.out
     (first | subst g4 | (injection g4 with f1_ f2_ f3_; have f4_ := f1_.symm; have f5_ := f3_.symm; clear f1_ f2_ f3_; subst f4_; subst f5_))
     refine hK.out _ _ ⟨(blk_cell a4.out 0).trans rfl, (blk_cell a4.out 1).trans rfl, (blk_cell a4.out 2).trans rfl, (blk_cell a5.out 0).trans rfl, (blk_cell a5.out 1).trans rfl, (blk_cell a5.out 2).trans rfl, (upc_ HB.out c9 :), (upc_ HB.out c6 :), (upc_ HB.out c5 :), (upc_ HB.out c3 :)⟩ (fun hHeld => ?_)
     clear hK K
     refine norm_ (a' := ?_) ?_ ?_
     rotate_left
     ·
      show Act.put _ (some 40) _ = _
      simp only [Act.put, List.setIfInBounds_toArray, List.set_cons_zero, List.set_cons_succ, i64_w, i32_w]
      rfl
     refine pz_ 18 41 q76_19 HT_ (by kernel_rfl) ?_
     refine last_ (i := 19) (N := none) q76_20 rfl rfl (one_of HT_.out (by kernel_rfl)) (by decide) (fun K hK => ?_)
     have n1 : w23.cell? ⟨b3, 2, none⟩ = some (u104002) := (blk_cell a4.out 2).trans rfl; have l3 := blk_frozen a4.out 2; have h3 := a6.out; have h4 := a7.out; have h5 := b0.out; have h6 := b1.out
     refine skip_ (w1 := ?_) (by rfl) rfl ?_ ?_
     rotate_left
     ·
      go_simp
      rfl
     refine hK.out _ _ ?_
     clear hK K
     refine done_ (done_of HT_.out (by kernel_rfl)) ?_
     try go_wp2
     go_roundg k2
     case measure => have := HK1.out; have := HK2.out; omega
     case rel => exact ⟨(wrap64 (d0 + 1)), (y105), (.slice g2 y105.length g3), (by first | rfl | (simp; done) | (simp [*]; done)), H', ⟨by have := HK1.out; have := HK2.out; omega⟩, ⟨by (with_reducible repeat (first | apply Kd.R_alloc | apply Kd.R_drewN | apply Kd.R_drew)); exact Kd.R_mono (Kd.R_far (p := ⟨b3, 2, none⟩) (Kd.R_types f7.out a4.out (by decide)) (fun _ hk => hk.2) (.slice g2 y105.length g3)) (fun _ hk => trivial)⟩, ⟨by repeat (with_reducible first | exact a5.out | refine oneB ?_ | refine blk_far ?_ a6.out _)⟩, ⟨by repeat (with_reducible first | exact a9.out | refine oneB ?_ | refine blk_far ?_ a7.out _)⟩, ⟨by (repeat refine oneB ?_); refine blk_put (cs := #[.int .i64 a0_1, .int .i64 a0_0, u104002]) ?_ 2 _ rfl; exact upB a4.out⟩, ⟨by repeat (with_reducible first | exact HB.out | apply below_alloc | apply yab | apply below_drew1 | refine below_set ?_ (Aside0.out ‹_›))⟩⟩
end
section
open Go.Proofs.YtoifpgkfpdeglaaW.PrintWords.Aside0 renaming mk → yaa
open Go.Proofs.YtoifpgkfpdeglaaW.PrintWords renaming blk_cell → yab, pw_below_drewN → yac, below_drew1 → yad, below_alloc → yae
abbrev q77_0 : Array Bool := Array.replicate 34 false
abbrev q77_1 : Array Bool := bl_ 34 1
abbrev q77_2 : Array Bool := bl_ 34 5
abbrev q77_3 : Array Bool := bl_ 34 21
abbrev q77_4 : Array Bool := bl_ 34 53
abbrev q77_5 : Array Bool := bl_ 34 117
abbrev q77_6 : Array Bool := bl_ 34 245
abbrev q77_7 : Array Bool := bl_ 34 1269
abbrev q77_8 : Array Bool := bl_ 34 17653
abbrev q77_9 : Array Bool := bl_ 34 148725
abbrev q77_10 : Array Bool := bl_ 34 410869
abbrev q77_11 : Array Bool := bl_ 34 935157
abbrev q77_12 : Array Bool := bl_ 34 1983733
abbrev q77_13 : Array Bool := bl_ 34 10372341
abbrev q77_14 : Array Bool := bl_ 34 10372343
abbrev q77_15 : Array Bool := bl_ 34 10372351
abbrev q77_16 : Array Bool := bl_ 34 10372607
abbrev q77_17 : Array Bool := bl_ 34 10373119
abbrev q77_18 : Array Bool := bl_ 34 10375167
abbrev q77_19 : Array Bool := bl_ 34 10379263
abbrev q77_20 : Array Bool := bl_ 34 10387455
abbrev q77_21 : Array Bool := bl_ 34 10420223
abbrev q77_22 : Array Bool := bl_ 34 10485759
abbrev q77_23 : Array Bool := bl_ 34 12582911
abbrev q77_24 : Array Bool := bl_ 34 16777215
abbrev q77_25 : Array Bool := bl_ 34 33554431
abbrev q77_26 : Array Bool := bl_ 34 67108863
abbrev q77_27 : Array Bool := bl_ 34 134217727
abbrev q77_28 : Array Bool := bl_ 34 268435455
abbrev q77_29 : Array Bool := bl_ 34 536870911
abbrev q77_30 : Array Bool := bl_ 34 1073741823
abbrev q77_31 : Array Bool := bl_ 34 2147483647
abbrev q77_32 : Array Bool := bl_ 34 4294967295
abbrev q77_33 : Array Bool := bl_ 34 8589934591
abbrev q77_34 : Array Bool := bl_ 34 17179869183
mutual
def spec_l6Size.l0 : Nat → Int → Int → Int → List (S36) → Int → Int → Int → Int → Int → Int → Int → List (S36) → Option (Int × Int × (List (S36)))
 | 0, _, _, _, _, _, _, _, _, _, _, _, _ => none
 | k + 1, x6, x102000, x102001, x102002, x103000, x103001, x103002, x103003, x103004, x105000, x105001, x105002 => if x6 < x103002 then (spec_l6Size.l1 k x6 0 x102000 x102001 x102002 x103000 x103001 x103002 x103003 x103004 x105000 x105001 x105002) else (some (x105000, x105001, x105002))
def spec_l6Size.l1 : Nat → Int → Int → Int → Int → List (S36) → Int → Int → Int → Int → Int → Int → Int → List (S36) → Option (Int × Int × (List (S36)))
 | 0, _, _, _, _, _, _, _, _, _, _, _, _, _ => none
 | k + 1, x6, x7, x102000, x102001, x102002, x103000, x103001, x103002, x103003, x103004, x105000, x105001, x105002 => if x7 < x103001 then (if (wrap64 (2 * x103002)) = 0 then (none) else (if (wrap64 (2 * x103001)) = 0 then (none) else (if 0 ≤ (wrap64 ((wrap64 ((wrap64 (Int.tdiv (wrap64 ((wrap64 ((wrap64 (2 * x6)) + 1)) * x102001)) (wrap64 (2 * x103002)))) * x102000)) + (wrap64 (Int.tdiv (wrap64 ((wrap64 ((wrap64 (2 * x7)) + 1)) * x102000)) (wrap64 (2 * x103001)))))) then (if (wrap64 ((wrap64 ((wrap64 (Int.tdiv (wrap64 ((wrap64 ((wrap64 (2 * x6)) + 1)) * x102001)) (wrap64 (2 * x103002)))) * x102000)) + (wrap64 (Int.tdiv (wrap64 ((wrap64 ((wrap64 (2 * x7)) + 1)) * x102000)) (wrap64 (2 * x103001)))))) < (x102002.length : Int) then (if x105002.length < 4398046511104 then (spec_l6Size.l1 k x6 (wrap64 (x7 + 1)) x102000 x102001 x102002 x103000 x103001 x103002 x103003 x103004 x105000 x105001 (x105002 ++ [(⟨(rd_T36 x102002 (wrap64 ((wrap64 ((wrap64 (Int.tdiv (wrap64 ((wrap64 ((wrap64 (2 * x6)) + 1)) * x102001)) (wrap64 (2 * x103002)))) * x102000)) + (wrap64 (Int.tdiv (wrap64 ((wrap64 ((wrap64 (2 * x7)) + 1)) * x102000)) (wrap64 (2 * x103001))))))).f0, (rd_T36 x102002 (wrap64 ((wrap64 ((wrap64 (Int.tdiv (wrap64 ((wrap64 ((wrap64 (2 * x6)) + 1)) * x102001)) (wrap64 (2 * x103002)))) * x102000)) + (wrap64 (Int.tdiv (wrap64 ((wrap64 ((wrap64 (2 * x7)) + 1)) * x102000)) (wrap64 (2 * x103001))))))).f1, (rd_T36 x102002 (wrap64 ((wrap64 ((wrap64 (Int.tdiv (wrap64 ((wrap64 ((wrap64 (2 * x6)) + 1)) * x102001)) (wrap64 (2 * x103002)))) * x102000)) + (wrap64 (Int.tdiv (wrap64 ((wrap64 ((wrap64 (2 * x7)) + 1)) * x102000)) (wrap64 (2 * x103001))))))).f2, (rd_T36 x102002 (wrap64 ((wrap64 ((wrap64 (Int.tdiv (wrap64 ((wrap64 ((wrap64 (2 * x6)) + 1)) * x102001)) (wrap64 (2 * x103002)))) * x102000)) + (wrap64 (Int.tdiv (wrap64 ((wrap64 ((wrap64 (2 * x7)) + 1)) * x102000)) (wrap64 (2 * x103001))))))).f3⟩ : S36)])) else (none)) else (none)) else (none)))) else (spec_l6Size.l0 k (wrap64 (x6 + 1)) x102000 x102001 x102002 x103000 x103001 x103002 x103003 x103004 x105000 x105001 x105002)
end
def spec_l6Size.f (k : Nat) (a0_0 : Int) (a0_1 : Int) (l0_2 : List (S36)) (a1_0 : Int) (a1_1 : Int) (a1_2 : Int) (a1_3 : Int) (a1_4 : Int) : Option (Int × Int × (List (S36))) := spec_l6Size.l0 k 0 a0_0 a0_1 l0_2 a1_0 a1_1 a1_2 a1_3 a1_4 a1_1 a1_2 ([] : List (S36))
def spec_l6Size.T8 : Bool × List (List Nat × List Nat) := (true, [([], []), ([0], [0]), ([], []), ([2], [2]), ([], []), ([4], [4]), ([5], [5]), ([], []), ([7], [7]), ([6, 8], [6, 8]), ([], []), ([10], [10]), ([11], [11]), ([9, 12], [9, 12]), ([], []), ([14], [14]), ([13, 15], [13, 15]), ([], []), ([17], [17]), ([18], [18]), ([], []), ([20], [20]), ([19, 21], [19, 21]), ([], []), ([23], [23]), ([24], [24]), ([22, 25], [22, 25]), ([16, 26], [16, 26]), ([3, 27], [3, 27]), ([28], [28]), ([29], [29]), ([1, 30], [1, 30]), ([0, 1, 2, 3, 4, 5, 6, 7, 8, 9, 10, 11, 12, 13, 14, 15, 16, 17, 18, 19, 20, 21, 22, 23, 24, 25, 26, 27, 28, 29, 30, 31], []), ([32, 31, 31, 0, 1, 2, 3, 4, 5, 6, 7, 8, 9, 10, 11, 12, 13, 14, 15, 16, 17, 18, 19, 20, 21, 22, 23, 24, 25, 26, 27, 28, 29, 30, 31], [31, 32])])
def spec_l6Size.B8 : List Nat := [0, 1, 0, 4, 0, 16, 48, 0, 128, 496, 0, 1024, 3072, 8176, 0, 16384, 65520, 0, 131072, 393216, 0, 1048576, 4063232, 0, 8388608, 25165824, 66977792, 134217712, 268435452, 536870908, 1073741820, 2147483647, 4294967295, 8589934591]
theorem spec_l6Size.tab8 : rtab .any (opsOf Try.f77 8) = spec_l6Size.T8 := by kernel_rfl
theorem spec_l6Size.bits8 : waitsOk spec_l6Size.T8.2 spec_l6Size.B8 = true := by kernel_rfl
set_option maxHeartbeats 8000000 in
set_option maxRecDepth 100000 in
theorem spec_l6Size.calls (k : Nat) (a0_0 : Int) (a0_1 : Int) (A0_2 : Option Addr) (c0_2 : Nat) (l0_2 : List (S36)) (a1_0 : Int) (a1_1 : Int) (a1_2 : Int) (a1_3 : Int) (a1_4 : Int) (r1 : Int) (r2 : Int) (r3 : List (S36)) (w : World) (hr0_2 : Kd.C k36 w A0_2 l0_2.length l0_2) (hc0_2 : l0_2.length ≤ c0_2) (h : spec_l6Size.f k a0_0 a0_1 l0_2 a1_0 a1_1 a1_2 a1_3 a1_4 = some (r1, r2, r3)) :
  Calls Try.prog 77 #[.agg #[.int .i64 a0_0, .int .i64 a0_1, .slice A0_2 l0_2.length c0_2], .agg #[.int .i64 a1_0, .int .i64 a1_1, .int .i64 a1_2, .int .i64 a1_3, .int .i64 a1_4]] w fun e w' => ∃ v2_ : Value, e = .returned (.agg #[.int .i64 r1, .int .i64 r2, v2_]) ∧ Kd.R k36 36 w' w.heap.size (fun _ => True) v2_ r3 ∧ Below w.heap.size w w' := by
 have hu25 := Try.underlying25; have hu27 := Try.underlying27; have hu36 := Try.underlying36; have HR0_2 := yaa hr0_2; have HC0_2 := yaa hc0_2; clear hr0_2 hc0_2; have HB := yaa (Below.refl w.heap.size w); have H : (spec_l6Size.l0 k 0 a0_0 a0_1 l0_2 a1_0 a1_1 a1_2 a1_3 a1_4 a1_1 a1_2 ([] : List (S36))) = some (r1, r2, r3) := h; clear h; have H' := yaa H; clear H
 go_enter Try.func77, Try.ntmps77
 go_wp2_with (first | ((with_reducible refine gd_ 2 rfl ?_); refine bx_ 2 rfl #[.int .i64 a0_0, .int .i64 a0_1, .slice A0_2 l0_2.length c0_2] 25 ?_; intro c9 hg w3 hbox hb; have b0 := yaa (hbox); have h8 := yaa ((by rw [hg]; exact (below_size (upH HB.out)) : w.heap.size ≤ c9)); replace HB := yaa (below_step (upH HB.out) hb); have o4 := h8; clear hb hbox hg) | ((with_reducible refine gd_ 3 rfl ?_); refine bx_ 3 rfl #[.int .i64 a1_0, .int .i64 a1_1, .int .i64 a1_2, .int .i64 a1_3, .int .i64 a1_4] 27 ?_; intro c4 hg w4 hbox hb; have a8 := yaa (hbox); have h9 := yaa ((by rw [hg]; exact (below_size (by repeat (with_reducible first | exact HB.out | apply yae | apply yac | apply yad | refine below_set ?_ (Aside0.out ‹_›)))) : w.heap.size ≤ c4)); replace HB := yaa (below_step (by repeat (with_reducible first | exact HB.out | apply yae | apply yac | apply yad | refine below_set ?_ (Aside0.out ‹_›))) hb); have o5 := h9; have b5 := yaa ((by rw [hg]; exact Nat.ne_of_lt (blk_lt (upB b0.out)) : c9 ≠ c4)); replace b0 := yaa (blk_below (upB b0.out) hb); have c2 := yaa b5.out.symm; clear hb hbox hg) | ((with_reducible refine gd_ 4 rfl ?_); refine bx_ 4 rfl #[.int .i64 0, .int .i64 0, .slice none 0 0] 25 ?_; intro c8 hg w5 hbox hb; have b4 := yaa (hbox); have i0 := yaa ((by rw [hg]; exact (below_size (by repeat (with_reducible first | exact HB.out | apply yae | apply yac | apply yad | refine below_set ?_ (Aside0.out ‹_›)))) : w.heap.size ≤ c8)); replace HB := yaa (below_step (by repeat (with_reducible first | exact HB.out | apply yae | apply yac | apply yad | refine below_set ?_ (Aside0.out ‹_›))) hb); have o6 := i0; have e2 := yaa ((by rw [hg]; exact Nat.ne_of_lt (blk_lt (upB b0.out)) : c9 ≠ c8)); replace b0 := yaa (blk_below (upB b0.out) hb); have e9 := yaa e2.out.symm; have b6 := yaa ((by rw [hg]; exact Nat.ne_of_lt (blk_lt (upB a8.out)) : c4 ≠ c8)); replace a8 := yaa (blk_below (upB a8.out) hb); have c3 := yaa b6.out.symm; clear hb hbox hg; have t3 := c2.out; have t4 := b5.out; have t5 := b6.out; have t6 := c3.out; obtain ⟨f4, f5, f6, f7, f8⟩ := cc5_ a8.out; obtain ⟨f9, g0, g1, g2⟩ := cf4_ a8.out; have g3 := blk_frozen a8.out 4) | ((with_reducible refine gd_ 5 rfl ?_); refine bx_ 5 rfl #[.int .i64 0, .int .i64 0, .slice none 0 0] 25 ?_; intro c5 hg w9 hbox hb; have b1 := yaa (hbox); have i1 := yaa ((by rw [hg]; exact (below_size (by repeat (with_reducible first | exact HB.out | apply yae | apply yac | apply yad | refine below_set ?_ (Aside0.out ‹_›)))) : w.heap.size ≤ c5)); replace HB := yaa (below_step (by repeat (with_reducible first | exact HB.out | apply yae | apply yac | apply yad | refine below_set ?_ (Aside0.out ‹_›))) hb); have o7 := i1; have b7 := yaa ((by rw [hg]; exact Nat.ne_of_lt (blk_lt (upB b0.out)) : c9 ≠ c5)); replace b0 := yaa (blk_below (upB b0.out) hb); have d0 := yaa b7.out.symm; have b2 := yaa ((by rw [hg]; exact Nat.ne_of_lt (blk_lt (upB a8.out)) : c4 ≠ c5)); replace a8 := yaa (blk_below (upB a8.out) hb); have b8 := yaa b2.out.symm; have b9 := yaa ((by rw [hg]; exact Nat.ne_of_lt (blk_lt (upB b4.out)) : c8 ≠ c5)); replace b4 := yaa (blk_below (upB b4.out) hb); have d1 := yaa b9.out.symm; clear hb hbox hg; have o8 := d0.out; have o9 := b7.out; have p0 := b8.out; have p1 := b2.out; have p3 := d1.out; have p4 := b9.out; obtain ⟨e3, e4, e5⟩ := cc3_ b1.out; obtain ⟨e6, e7⟩ := cf2_ b1.out; have e8 := blk_frozen b1.out 2))
 (try simp only [Act.put, List.setIfInBounds_toArray, List.set_cons_zero, List.set_cons_succ])
 go_loopg [6] k (fun kq v6 w' => ∃ (d2 : Int) (c0 : List (S36)) (u105002 : Value), v6 = .int .i64 d2 ∧ Aside0 (spec_l6Size.l0 kq d2 a0_0 a0_1 l0_2 a1_0 a1_1 a1_2 a1_3 a1_4 a1_1 a1_2 c0 = some (r1, r2, r3)) ∧ Aside0 (kq ≤ k) ∧ Aside0 (Kd.R k36 36 w' w.heap.size (fun _ => True) u105002 c0) ∧ Aside0 (w'.heap[c9]? = some (.cells #[.int .i64 a0_0, .int .i64 a0_1, (.slice A0_2 l0_2.length c0_2)] 25 (0, 0))) ∧ Aside0 (w'.heap[c4]? = some (.cells #[.int .i64 a1_0, .int .i64 a1_1, .int .i64 a1_2, .int .i64 a1_3, .int .i64 a1_4] 27 (0, 0))) ∧ Aside0 (w'.heap[c8]? = some (.cells #[.int .i64 0, .int .i64 0, (.slice none 0 0)] 25 (0, 0))) ∧ Aside0 (w'.heap[c5]? = some (.cells #[.int .i64 a1_1, .int .i64 a1_2, u105002] 25 (0, 0))) ∧ Aside0 (Below w.heap.size w w'))
 case atStart => exact ⟨(0), (([] : List (S36))), (.slice none 0 0), (by first | rfl | (simp; done) | (simp [*]; done)), H', ⟨Nat.le_refl _⟩, ⟨by first | exact Kd.R_nil _ _ _ _ _ | exact Kd.N_nil _ _ _ _ _ | exact Kd.V_nil _ _ _ _ _ | exact Kd.Q_nil _ _ _ _ _ | exact Kd.S_nil _ _ _ _ _⟩, ⟨by repeat (with_reducible first | exact b0.out | refine oneB ?_ | refine blk_far ?_ b7.out _)⟩, ⟨by repeat (with_reducible first | exact a8.out | refine oneB ?_ | refine blk_far ?_ b2.out _)⟩, ⟨by repeat (with_reducible first | exact b4.out | refine oneB ?_ | refine blk_far ?_ b9.out _)⟩, ⟨by (repeat refine oneB ?_); refine blk_put (cs := #[.int .i64 a1_1, .int .i64 a1_2, .slice none 0 0]) ?_ 2 _ rfl; refine blk_put (cs := #[.int .i64 a1_1, .int .i64 0, .slice none 0 0]) ?_ 1 _ rfl; refine blk_put (cs := #[.int .i64 0, .int .i64 0, .slice none 0 0]) ?_ 0 _ rfl; exact upB b1.out⟩, ⟨by repeat (with_reducible first | exact HB.out | apply yae | apply yac | apply yad | refine below_set ?_ (Aside0.out ‹_›))⟩⟩
 case round =>
  clear H'; (try clear c1); (try clear p2); (try clear c6); (try clear c7); (try clear c10); (try clear c11); (try clear c12); (try clear e3); (try clear e4); (try clear e5); (try clear f4); (try clear f5); (try clear f6); (try clear f7); (try clear f8); (try clear e6); (try clear e7); (try clear e8); (try clear f9); (try clear g0); (try clear g1); (try clear g2); (try clear g3); obtain ⟨d2, c0, u105002, rfl, HA, HK1, a9, b0, a8, b4, b1, HB⟩ := hrel
  cases gk with
  | zero => exact absurd HA.out (by simp [spec_l6Size.l0])
  | succ k1 =>
   have H := HA.out; clear HA
   simp only [spec_l6Size.l0] at H
   by_cases c14 : d2 < a1_2
   rotate_left
   ·
    rw [if_neg c14] at H
    have h5 : decide (d2 < a1_2) = false := decide_eq_false c14; clear c14
    simp only [Option.some.injEq, Prod.mk.injEq] at H
    obtain ⟨rfl, rfl, rfl⟩ := H; have s1 := c2.out; have s2 := b5.out; have s3 := b6.out; have s4 := c3.out; have s5 := b2.out; have s6 := b8.out; obtain ⟨l9, m0, m1, m2, m3⟩ := cc5_ a8.out; obtain ⟨m4, m5, m6, m7, m8⟩ := cf5_ a8.out; have s7 := d0.out; have s8 := b7.out; have s9 := d1.out; have t0 := b9.out; obtain ⟨m9, n0, n1⟩ := cc3_ b1.out; obtain ⟨n2, n3, n4⟩ := cf3_ b1.out; have t1 := e9.out; have t2 := e2.out; obtain ⟨n5, n6, n7⟩ := cc3_ b4.out; obtain ⟨n8, n9, o0⟩ := cf3_ b4.out; obtain ⟨i7, i8, o3⟩ := Kd.R_slice a9.out; subst o3
    go_wp2
    refine bodyPost_ret (results_cell_row rfl _ _ c8 25 #[.int .i64 a1_1, .int .i64 a1_2, .slice i7 c0.length i8] (0, 0) _ rfl (by (repeat refine oneB ?_); refine blk_put (cs := #[.int .i64 a1_1, .int .i64 a1_2, .slice none 0 0]) ?_ 2 _ rfl; refine blk_put (cs := #[.int .i64 a1_1, .int .i64 0, .slice none 0 0]) ?_ 1 _ rfl; refine blk_put (cs := #[.int .i64 0, .int .i64 0, .slice none 0 0]) ?_ 0 _ rfl; exact upB b4.out) Try.underlying25 rfl (by kernel_rfl)) rfl ?_
    exact ⟨_, by first | rfl | (simp [*, errW_none, errW_some] <;> rfl), by (with_reducible repeat (first | apply Kd.R_alloc | apply Kd.R_drewN | apply Kd.R_drew)); exact Kd.R_mono (Kd.R_far (p := ⟨c8, 2, none⟩) (Kd.R_far (p := ⟨c8, 1, none⟩) (Kd.R_far (p := ⟨c8, 0, none⟩) (Kd.R_types a9.out b4.out (by decide)) (fun _ hk => hk.2) (.int .i64 a1_1)) (fun _ hk => hk.2) (.int .i64 a1_2)) (fun _ hk => hk.2) (.slice i7 c0.length i8)) (fun _ hk => trivial), by repeat (with_reducible first | exact HB.out | apply yae | apply yac | apply yad | refine below_set ?_ (Aside0.out ‹_›))⟩
   rw [if_pos c14] at H
   have h5 : decide (d2 < a1_2) = true := decide_eq_true c14; clear c14; have H' := yaa H; clear H; have p5 := c2.out; have p6 := b5.out; have p7 := b6.out; have p8 := c3.out; have p9 := b2.out; have q0 := b8.out; obtain ⟨g5, g6, g7, g8, g9⟩ := cc5_ a8.out; obtain ⟨h0, h1, h2, h3, h4⟩ := cf5_ a8.out
   go_wp2
   (try simp only [Act.put, List.setIfInBounds_toArray, List.set_cons_zero, List.set_cons_succ])
   go_loopg [7] k1 (fun kq v7 w' => ∃ (e1 : Int) (b3 : List (S36)) (u105002 : Value), v7 = .int .i64 e1 ∧ Aside0 (spec_l6Size.l1 kq d2 e1 a0_0 a0_1 l0_2 a1_0 a1_1 a1_2 a1_3 a1_4 a1_1 a1_2 b3 = some (r1, r2, r3)) ∧ Aside0 (kq ≤ k1) ∧ Aside0 (Kd.R k36 36 w' w.heap.size (fun _ => True) u105002 b3) ∧ Aside0 (w'.heap[c9]? = some (.cells #[.int .i64 a0_0, .int .i64 a0_1, (.slice A0_2 l0_2.length c0_2)] 25 (0, 0))) ∧ Aside0 (w'.heap[c4]? = some (.cells #[.int .i64 a1_0, .int .i64 a1_1, .int .i64 a1_2, .int .i64 a1_3, .int .i64 a1_4] 27 (0, 0))) ∧ Aside0 (w'.heap[c8]? = some (.cells #[.int .i64 0, .int .i64 0, (.slice none 0 0)] 25 (0, 0))) ∧ Aside0 (w'.heap[c5]? = some (.cells #[.int .i64 a1_1, .int .i64 a1_2, u105002] 25 (0, 0))) ∧ Aside0 (Below w.heap.size w w'))
   case atStart => exact ⟨(0), (c0), (u105002), (by first | rfl | (simp; done) | (simp [*]; done)), H', ⟨Nat.le_refl _⟩, ⟨by first | exact a9.out | exact upR a9.out⟩, ⟨by exact upB b0.out⟩, ⟨by exact upB a8.out⟩, ⟨by exact upB b4.out⟩, ⟨by exact upB b1.out⟩, ⟨by repeat (with_reducible first | exact HB.out | apply yae | apply yac | apply yad | refine below_set ?_ (Aside0.out ‹_›))⟩⟩
   case round =>
    clear H'; (try clear c1); (try clear p2); (try clear c6); (try clear c7); (try clear c10); (try clear c11); (try clear c12); (try clear c14); (try clear h5); (try clear c15); (try clear c16); (try clear c17); (try clear e3); (try clear e4); (try clear e5); (try clear g5); (try clear g6); (try clear g7); (try clear g8); (try clear g9); (try clear f4); (try clear f5); (try clear f6); (try clear f7); (try clear f8); (try clear e6); (try clear e7); (try clear e8); (try clear h0); (try clear h1); (try clear h2); (try clear h3); (try clear h4); (try clear f9); (try clear g0); (try clear g1); (try clear g2); (try clear g3); (try clear p2); obtain ⟨e1, b3, u105002, rfl, HA, HK2, a9, b0, a8, b4, b1, HB⟩ := hrel
    cases gk with
    | zero => exact absurd HA.out (by simp [spec_l6Size.l1])
    | succ k2 =>
     have H := HA.out; clear HA
     simp only [spec_l6Size.l1] at H
     by_cases c19 : e1 < a1_1
     rotate_left
     ·
      rw [if_neg c19] at H
      have i3 : decide (e1 < a1_1) = false := decide_eq_false c19; clear c19; have H' := yaa H; clear H; have r5 := c2.out; have r6 := b5.out; have r7 := b6.out; have r8 := c3.out; have r9 := b2.out; have s0 := b8.out; obtain ⟨k7, k8, k9, l2, l3⟩ := cc5_ a8.out; obtain ⟨l4, l5, l6, l7, l8⟩ := cf5_ a8.out
      go_wp2
      go_roundg k2
      case measure => have := HK1.out; have := HK2.out; omega
      case rel => exact ⟨(wrap64 (d2 + 1)), (b3), (u105002), (by first | rfl | (simp; done) | (simp [*]; done)), H', ⟨by have := HK1.out; have := HK2.out; omega⟩, ⟨by first | exact a9.out | exact upR a9.out⟩, ⟨by exact upB b0.out⟩, ⟨by exact upB a8.out⟩, ⟨by exact upB b4.out⟩, ⟨by exact upB b1.out⟩, ⟨by repeat (with_reducible first | exact HB.out | apply yae | apply yac | apply yad | refine below_set ?_ (Aside0.out ‹_›))⟩⟩
     rw [if_pos c19] at H
     have i3 : decide (e1 < a1_1) = true := decide_eq_true c19; clear c19
     by_cases c20 : (wrap64 (2 * a1_2)) = 0
     ·
      rw [if_pos c20] at H
      exact absurd H (by simp)
     rw [if_neg c20] at H
     have q1 := beq_eq_false_iff_ne.mpr c20; have q2 := bne_iff_ne.mpr c20
     by_cases c21 : (wrap64 (2 * a1_1)) = 0
     ·
      rw [if_pos c21] at H
      exact absurd H (by simp)
     rw [if_neg c21] at H
     have q3 := beq_eq_false_iff_ne.mpr c21; have q4 := bne_iff_ne.mpr c21; obtain ⟨ji22, hji22⟩ : ∃ j_ : Int, (wrap64 ((wrap64 ((wrap64 (Int.tdiv (wrap64 ((wrap64 ((wrap64 (2 * d2)) + 1)) * a0_1)) (wrap64 (2 * a1_2)))) * a0_0)) + (wrap64 (Int.tdiv (wrap64 ((wrap64 ((wrap64 (2 * e1)) + 1)) * a0_0)) (wrap64 (2 * a1_1)))))) = j_ := ⟨_, rfl⟩
     replace H : (if 0 ≤ (ji22) then (if (ji22) < (l0_2.length : Int) then (if b3.length < 4398046511104 then (spec_l6Size.l1 k2 d2 (wrap64 (e1 + 1)) a0_0 a0_1 l0_2 a1_0 a1_1 a1_2 a1_3 a1_4 a1_1 a1_2 (b3 ++ [(⟨(rd_T36 l0_2 (ji22)).f0, (rd_T36 l0_2 (ji22)).f1, (rd_T36 l0_2 (ji22)).f2, (rd_T36 l0_2 (ji22)).f3⟩ : S36)])) else (none)) else (none)) else (none)) = some (r1, r2, r3) := by first | (rw [hji22] at H; exact H) | (simp only [hji22] at H ⊢; exact H)
     have hji22w : (IntKind.i64.wrap ((wrap64 ((wrap64 (Int.tdiv (wrap64 ((wrap64 ((wrap64 (2 * d2)) + 1)) * a0_1)) (wrap64 (2 * a1_2)))) * a0_0)) + (wrap64 (Int.tdiv (wrap64 ((wrap64 ((wrap64 (2 * e1)) + 1)) * a0_0)) (wrap64 (2 * a1_1)))))) = ji22 := (i64_w _).trans hji22
     by_cases c23 : 0 ≤ (ji22)
     rotate_left
     ·
      rw [if_neg c23] at H
      exact absurd H (by simp)
     rw [if_pos c23] at H
     replace c23 := decide_eq_true c23
     by_cases c24 : (ji22) < (l0_2.length : Int)
     rotate_left
     ·
      rw [if_neg c24] at H
      exact absurd H (by simp)
     rw [if_pos c24] at H
     replace c24 := decide_eq_true c24
     by_cases c25 : b3.length < 4398046511104
     rotate_left
     ·
      rw [if_neg c25] at H
      exact absurd H (by simp)
     rw [if_pos c25] at H
     have LMc25 := yaa c25; clear c25; obtain ⟨y106, hy106⟩ : ∃ y_ : List (S36), y_ = (b3 ++ [(⟨(rd_T36 l0_2 (ji22)).f0, (rd_T36 l0_2 (ji22)).f1, (rd_T36 l0_2 (ji22)).f2, (rd_T36 l0_2 (ji22)).f3⟩ : S36)]) := ⟨_, rfl⟩
     replace H : (spec_l6Size.l1 k2 d2 (wrap64 (e1 + 1)) a0_0 a0_1 l0_2 a1_0 a1_1 a1_2 a1_3 a1_4 a1_1 a1_2 y106) = some (r1, r2, r3) := by first | (rw [hy106]; with_reducible exact H) | (have H2_ := (Option.bind_some _ _).symm.trans H; rw [hy106]; with_reducible exact H2_) | (have H2_ := (Option.bind_some _ _).symm.trans H; with_reducible exact H2_) | with_reducible exact H | (rw [hy106]; exact H) | exact H
     have Ny106 := yaa hy106; clear hy106; have H' := yaa H; clear H; have q5 := c2.out; have q6 := b5.out; have q7 := b6.out; have q8 := c3.out; have q9 := b2.out; have r0 := b8.out; obtain ⟨i9, j0, j1, j2, j3⟩ := cc5_ a8.out; obtain ⟨j4, j5, j6, j7, j8⟩ := cf5_ a8.out
     try go_wp2
     replace a9 := yaa (Kd.R_drew a9.out); replace b0 := yaa (blk_drew b0.out); replace a8 := yaa (blk_drew a8.out); replace b4 := yaa (blk_drew b4.out); replace b1 := yaa (blk_drew b1.out); replace HB := yaa (yad HB.out); have p105 : 0 ≤ ((ji22) : Int) := of_decide_eq_true (by assumption); have q105 : (ji22) < (l0_2.length : Int) := of_decide_eq_true (by assumption); obtain ⟨ad105, o1, d3, d4, d5, d6⟩ := at_T36 HR0_2.out (ji22) p105 q105; have d7 := d6; have d8 := d5; have d9 := d4; have e0 := d3
     cases o1
     replace d3 := (upc_ HB.out d3 :); replace d4 := (upc_ HB.out d4 :); replace d5 := (upc_ HB.out d5 :); replace d6 := (upc_ HB.out d6 :); replace p105 := eq_true p105; replace q105 := eq_true q105
     refine start_ (n := 34) (S := fun w' => w'.cell? ⟨c5, 0, none⟩ = some (.int .i64 a1_1) ∧ w'.cell? ⟨c5, 1, none⟩ = some (.int .i64 a1_2) ∧ w'.cell? ⟨c5, 2, none⟩ = some (u105002) ∧ w'.cell? ⟨c9, 0, none⟩ = some (.int .i64 a0_0) ∧ w'.cell? ⟨c9, 1, none⟩ = some (.int .i64 a0_1) ∧ w'.cell? ⟨c9, 2, none⟩ = some (.slice (some ad105) l0_2.length c0_2) ∧ w'.cell? ⟨c4, 0, none⟩ = some (.int .i64 a1_0) ∧ w'.cell? ⟨c4, 1, none⟩ = some (.int .i64 a1_1) ∧ w'.cell? ⟨c4, 2, none⟩ = some (.int .i64 a1_2) ∧ w'.cell? ⟨c4, 3, none⟩ = some (.int .i64 a1_3) ∧ w'.cell? ⟨c4, 4, none⟩ = some (.int .i64 a1_4) ∧ w'.cell? (ad105.add (((ji22)).toNat * 4)) = some (.int .i64 ((rd_T36 l0_2 (ji22)).f0)) ∧ w'.cell? ⟨(ad105.add (((ji22)).toNat * 4)).block, (ad105.add (((ji22)).toNat * 4)).off + 1, none⟩ = some (.int .i64 ((rd_T36 l0_2 (ji22)).f1)) ∧ w'.cell? ⟨(ad105.add (((ji22)).toNat * 4)).block, (ad105.add (((ji22)).toNat * 4)).off + 2, none⟩ = some (.int .i64 ((rd_T36 l0_2 (ji22)).f2)) ∧ w'.cell? ⟨(ad105.add (((ji22)).toNat * 4)).block, (ad105.add (((ji22)).toNat * 4)).off + 3, none⟩ = some (.int .i64 ((rd_T36 l0_2 (ji22)).f3))) (ds := [33]) q77_0 (by kernel_rfl) rfl rfl ⟨(yab b1.out 0).trans rfl, (yab b1.out 1).trans rfl, (yab b1.out 2).trans rfl, (yab b0.out 0).trans rfl, (yab b0.out 1).trans rfl, (yab b0.out 2).trans rfl, (yab a8.out 0).trans rfl, (yab a8.out 1).trans rfl, (yab a8.out 2).trans rfl, (yab a8.out 3).trans rfl, (yab a8.out 4).trans rfl, (upc_ HB.out e0 :), (upc_ HB.out d9 :), (upc_ HB.out d8 :), (upc_ HB.out d7 :)⟩ (fun hHeld => ?_); refine with_tabW spec_l6Size.tab8 spec_l6Size.bits8 (fun HT_ HW_ => ?_)
     generalize wr.drew = w30 at a9 b0 a8 b4 b1 HB d3 d4 d5 d6 hHeld ⊢
     refine pz_ 0 25 q77_1 HT_ (by kernel_rfl) ?_
     refine pz_ 2 27 q77_2 HT_ (by kernel_rfl) ?_
     refine pz_ 4 29 q77_3 HT_ (by kernel_rfl) ?_
     refine pz_ 5 30 q77_4 HT_ (by kernel_rfl) ?_
     refine pz_ 6 31 q77_5 HT_ (by kernel_rfl) ?_
     refine pz_ 7 32 q77_6 HT_ (by kernel_rfl) ?_
     refine pz_ 10 35 q77_7 HT_ (by kernel_rfl) ?_
     refine pz_ 14 39 q77_8 HT_ (by kernel_rfl) ?_
     refine pz_ 17 42 q77_9 HT_ (by kernel_rfl) ?_
     refine pz_ 18 43 q77_10 HT_ (by kernel_rfl) ?_
     refine pz_ 19 44 q77_11 HT_ (by kernel_rfl) ?_
     refine pz_ 20 45 q77_12 HT_ (by kernel_rfl) ?_
     refine pz_ 23 48 q77_13 HT_ (by kernel_rfl) ?_
     refine tz_ 1 26 q77_14 HT_ HW_ (by kernel_rfl) hHeld ?_
     refine tz_ 3 28 q77_15 HT_ HW_ (by kernel_rfl) hHeld ?_
     refine tz_ 8 33 q77_16 HT_ HW_ (by kernel_rfl) hHeld ?_
     refine pz_ 9 34 q77_17 HT_ (by kernel_rfl) ?_
     refine tz_ 11 36 q77_18 HT_ HW_ (by kernel_rfl) hHeld ?_
     refine pz_ 12 37 q77_19 HT_ (by kernel_rfl) ?_
     refine pz_ 13 38 q77_20 HT_ (by kernel_rfl) ?_
     refine tz_ 15 40 q77_21 HT_ HW_ (by kernel_rfl) hHeld ?_
     refine pz_ 16 41 q77_22 HT_ (by kernel_rfl) ?_
     refine tz_ 21 46 q77_23 HT_ HW_ (by kernel_rfl) hHeld ?_
     refine pz_ 22 47 q77_24 HT_ (by kernel_rfl) ?_
     refine tz_ 24 49 q77_25 HT_ HW_ (by kernel_rfl) hHeld ?_
     refine pz_ 25 50 q77_26 HT_ (by kernel_rfl) ?_
     refine pz_ 26 51 q77_27 HT_ (by kernel_rfl) ?_
     refine pz_ 27 52 q77_28 HT_ (by kernel_rfl) ?_
     refine pz_ 28 53 q77_29 HT_ (by kernel_rfl) ?_
     refine tz_ 29 54 q77_30 HT_ HW_ (by kernel_rfl) hHeld ?_
     refine one_ (i := 30) (N := some 55) q77_31 rfl rfl (one_of HT_.out (by kernel_rfl)) (by decide) (fun K hK => ?_)
     refine value_ (w1 := ?_) (v := ?_) (by rfl) rfl ?_ ?_
     rotate_left 2
     ·
      go_simp
      constructor
      ·
       rfl
      ·
       rfl
     refine hK.out _ _ ⟨(yab (blk_alloc b1.out _) 0).trans rfl, (yab (blk_alloc b1.out _) 1).trans rfl, (yab (blk_alloc b1.out _) 2).trans rfl, (yab (blk_alloc b0.out _) 0).trans rfl, (yab (blk_alloc b0.out _) 1).trans rfl, (yab (blk_alloc b0.out _) 2).trans rfl, (yab (blk_alloc a8.out _) 0).trans rfl, (yab (blk_alloc a8.out _) 1).trans rfl, (yab (blk_alloc a8.out _) 2).trans rfl, (yab (blk_alloc a8.out _) 3).trans rfl, (yab (blk_alloc a8.out _) 4).trans rfl, (World.cell?_alloc_lt _ _ _ (World.block_lt_of_cell? _ _ ((upc_ HB.out e0 :)))).trans ((upc_ HB.out e0 :)), (World.cell?_alloc_lt _ _ _ (World.block_lt_of_cell? _ _ ((upc_ HB.out d9 :)))).trans ((upc_ HB.out d9 :)), (World.cell?_alloc_lt _ _ _ (World.block_lt_of_cell? _ _ ((upc_ HB.out d8 :)))).trans ((upc_ HB.out d8 :)), (World.cell?_alloc_lt _ _ _ (World.block_lt_of_cell? _ _ ((upc_ HB.out d7 :)))).trans ((upc_ HB.out d7 :))⟩ (fun hHeld => ?_)
     clear hK K
     refine norm_ (a' := ?_) ?_ ?_
     rotate_left
     ·
      show Act.put _ (some 55) _ = _
      simp only [Act.put, List.setIfInBounds_toArray, List.set_cons_zero, List.set_cons_succ, i64_w, i32_w]
      rfl
     refine one_ (i := 31) (N := some 56) q77_32 rfl rfl (one_of HT_.out (by kernel_rfl)) (by decide) (fun K hK => ?_)
     refine Kd.R_append_step k36 (w0 := w) w.heap.size (by rfl) (.tmp 26) (.tmp 55) 23 36 (.agg #[(.int .i64 0), (.int .i64 0), (.int .i64 0), (.int .i64 0)]) 32 rfl Try.underlying23 info36 rfl (by decide) (by omega) u105002 b3 (⟨(rd_T36 l0_2 (ji22)).f0, (rd_T36 l0_2 (ji22)).f1, (rd_T36 l0_2 (ji22)).f2, (rd_T36 l0_2 (ji22)).f3⟩ : S36) [.int .i64 ((rd_T36 l0_2 (ji22)).f0), .int .i64 ((rd_T36 l0_2 (ji22)).f1), .int .i64 ((rd_T36 l0_2 (ji22)).f2), .int .i64 ((rd_T36 l0_2 (ji22)).f3)] (fun _ => True) (fun _ => False) rfl rfl ?aP (fun _ hk => hk.elim) ?aF ?aO ?aB ?aS ?aL ?_
     (case aP => exact k36_mkM _ _ _ (⟨(rd_T36 l0_2 (ji22)).f0, (rd_T36 l0_2 (ji22)).f1, (rd_T36 l0_2 (ji22)).f2, (rd_T36 l0_2 (ji22)).f3⟩ : S36))
     (case aB => exact (by repeat (with_reducible first | exact HB.out | apply yae | apply yac | apply yad | refine below_set ?_ (Aside0.out ‹_›))))
     (case aF => exact (fun _ _ => trivial))
     (case aO => exact (upR a9.out))
     (case aS => exact (below_size (by repeat (with_reducible first | exact HB.out | apply yae | apply yac | apply yad | refine below_set ?_ (Aside0.out ‹_›)))))
     (case aL => have := LMc25.out; omega)
     intro t9 w31 ho hb hg hat
     rw [← Ny106.out] at ho
     replace b0 := yaa (blk_grown (upB b0.out) hg (Kd.R_ne a9.out b0.out (by decide))); replace a8 := yaa (blk_grown (upB a8.out) hg (Kd.R_ne a9.out a8.out (by decide))); replace b4 := yaa (blk_grown (upB b4.out) hg (Kd.R_ne a9.out b4.out (by decide))); replace b1 := yaa (blk_grown (upB b1.out) hg (Kd.R_ne a9.out b1.out (by decide))); replace HB := yaa (hb); have h6 := yaa (ho); clear a9; clear ho hb hg hat; obtain ⟨i4, i5, i6⟩ := Kd.R_slice h6.out
     (first | subst i6 | (injection i6 with f1_ f2_ f3_; have f4_ := f1_.symm; have f5_ := f3_.symm; clear f1_ f2_ f3_; subst f4_; subst f5_))
     refine hK.out _ _ ⟨(yab b1.out 0).trans rfl, (yab b1.out 1).trans rfl, (yab b1.out 2).trans rfl, (yab b0.out 0).trans rfl, (yab b0.out 1).trans rfl, (yab b0.out 2).trans rfl, (yab a8.out 0).trans rfl, (yab a8.out 1).trans rfl, (yab a8.out 2).trans rfl, (yab a8.out 3).trans rfl, (yab a8.out 4).trans rfl, (upc_ HB.out e0 :), (upc_ HB.out d9 :), (upc_ HB.out d8 :), (upc_ HB.out d7 :)⟩ (fun hHeld => ?_)
     clear hK K
     refine norm_ (a' := ?_) ?_ ?_
     rotate_left
     ·
      show Act.put _ (some 56) _ = _
      simp only [Act.put, List.setIfInBounds_toArray, List.set_cons_zero, List.set_cons_succ, i64_w, i32_w]
      rfl
     refine pz_ 32 57 q77_33 HT_ (by kernel_rfl) ?_
     refine last_ (i := 33) (N := none) q77_34 rfl rfl (one_of HT_.out (by kernel_rfl)) (by decide) (fun K hK => ?_)
     have u0 : w31.cell? ⟨c5, 2, none⟩ = some (u105002) := (yab b1.out 2).trans rfl; have r4 := blk_frozen b1.out 2; have j9 := b7.out; have k0 := b2.out; have k3 := b9.out; have k4 := d0.out; have k5 := b8.out; have k6 := d1.out
     refine skip_ (w1 := ?_) (by rfl) rfl ?_ ?_
     rotate_left
     ·
      go_simp
      rfl
     refine hK.out _ _ ?_
     clear hK K
     refine done_ (done_of HT_.out (by kernel_rfl)) ?_
     try go_wp2
     go_roundg k2
     case measure => have := HK1.out; have := HK2.out; omega
     case rel => exact ⟨(wrap64 (e1 + 1)), (y106), (.slice i4 y106.length i5), (by first | rfl | (simp; done) | (simp [*]; done)), H', ⟨by have := HK1.out; have := HK2.out; omega⟩, ⟨by (with_reducible repeat (first | apply Kd.R_alloc | apply Kd.R_drewN | apply Kd.R_drew)); exact Kd.R_mono (Kd.R_far (p := ⟨c5, 2, none⟩) (Kd.R_types h6.out b1.out (by decide)) (fun _ hk => hk.2) (.slice i4 y106.length i5)) (fun _ hk => trivial)⟩, ⟨by repeat (with_reducible first | exact b0.out | refine oneB ?_ | refine blk_far ?_ b7.out _)⟩, ⟨by repeat (with_reducible first | exact a8.out | refine oneB ?_ | refine blk_far ?_ b2.out _)⟩, ⟨by repeat (with_reducible first | exact b4.out | refine oneB ?_ | refine blk_far ?_ b9.out _)⟩, ⟨by (repeat refine oneB ?_); refine blk_put (cs := #[.int .i64 a1_1, .int .i64 a1_2, u105002]) ?_ 2 _ rfl; exact upB b1.out⟩, ⟨by repeat (with_reducible first | exact HB.out | apply yae | apply yac | apply yad | refine below_set ?_ (Aside0.out ‹_›))⟩⟩
end
section
def spec_l6Gray.f (a0_0 : Int) (a0_1 : Int) (a0_2 : Int) (a0_3 : Int) : Option (Int × Int × Int × Int) := some (wrap64 (Int.tdiv (wrap64 ((wrap64 ((wrap64 (77 * a0_0)) + (wrap64 (150 * a0_1)))) + (wrap64 (29 * a0_2)))) 256), wrap64 (Int.tdiv (wrap64 ((wrap64 ((wrap64 (77 * a0_0)) + (wrap64 (150 * a0_1)))) + (wrap64 (29 * a0_2)))) 256), wrap64 (Int.tdiv (wrap64 ((wrap64 ((wrap64 (77 * a0_0)) + (wrap64 (150 * a0_1)))) + (wrap64 (29 * a0_2)))) 256), a0_3)
set_option maxHeartbeats 8000000 in
set_option maxRecDepth 100000 in
theorem spec_l6Gray.calls (a0_0 : Int) (a0_1 : Int) (a0_2 : Int) (a0_3 : Int) (r1 : Int) (r2 : Int) (r3 : Int) (r4 : Int) (w : World) (h : spec_l6Gray.f a0_0 a0_1 a0_2 a0_3 = some (r1, r2, r3, r4)) :
    Calls Try.prog 94 #[.agg #[.int .i64 a0_0, .int .i64 a0_1, .int .i64 a0_2, .int .i64 a0_3]] w fun e w' => e = .returned (.agg #[.int .i64 r1, .int .i64 r2, .int .i64 r3, .int .i64 r4]) ∧ Below w.heap.size w w' := by
  have hu36 := Try.underlying36; have HB := Aside0.mk (Below.refl w.heap.size w); have H : (some (wrap64 (Int.tdiv (wrap64 ((wrap64 ((wrap64 (77 * a0_0)) + (wrap64 (150 * a0_1)))) + (wrap64 (29 * a0_2)))) 256), wrap64 (Int.tdiv (wrap64 ((wrap64 ((wrap64 (77 * a0_0)) + (wrap64 (150 * a0_1)))) + (wrap64 (29 * a0_2)))) 256), wrap64 (Int.tdiv (wrap64 ((wrap64 ((wrap64 (77 * a0_0)) + (wrap64 (150 * a0_1)))) + (wrap64 (29 * a0_2)))) 256), a0_3)) = some (r1, r2, r3, r4) := h; clear h
  simp only [Option.some.injEq, Prod.mk.injEq] at H
  obtain ⟨rfl, rfl, rfl, rfl⟩ := H
  go_enter Try.func94, Try.ntmps94
  go_wp2_with (first | ((with_reducible refine gd_ 1 rfl ?_); refine bx_ 1 rfl #[.int .i64 a0_0, .int .i64 a0_1, .int .i64 a0_2, .int .i64 a0_3] 36 ?_; intro gb101 hg w2 hbox hb; have BK101 := Aside0.mk (hbox); have GW101 := Aside0.mk ((by rw [hg]; exact (below_size (upH HB.out)) : w.heap.size ≤ gb101)); replace HB := Aside0.mk (below_step (upH HB.out) hb); have GE101 := GW101; clear hb hbox hg) | ((with_reducible refine gd_ 2 rfl ?_); refine bx_ 2 rfl #[.int .i64 0, .int .i64 0, .int .i64 0, .int .i64 0] 36 ?_; intro gb102 hg w3 hbox hb; have BK102 := Aside0.mk (hbox); have GW102 := Aside0.mk ((by rw [hg]; exact (below_size (by repeat (with_reducible first | exact HB.out | apply below_alloc | apply pw_below_drewN | apply below_drew1 | refine below_set ?_ (Aside0.out ‹_›)))) : w.heap.size ≤ gb102)); replace HB := Aside0.mk (below_step (by repeat (with_reducible first | exact HB.out | apply below_alloc | apply pw_below_drewN | apply below_drew1 | refine below_set ?_ (Aside0.out ‹_›))) hb); have GE102 := GW102; have NB101_102 := Aside0.mk ((by rw [hg]; exact Nat.ne_of_lt (blk_lt (upB BK101.out)) : gb101 ≠ gb102)); replace BK101 := Aside0.mk (blk_below (upB BK101.out) hb); have NB102_101 := Aside0.mk NB101_102.out.symm; clear hb hbox hg; have hnb4 := NB101_102.out; have hnc4 := NB102_101.out; obtain ⟨hcz5_0, hcz5_1, hcz5_2, hcz5_3⟩ := cc4_ BK101.out; obtain ⟨hfz5_0, hfz5_1, hfz5_2, hfz5_3⟩ := cf4_ BK101.out; obtain ⟨hcz6_0, hcz6_1, hcz6_2, hcz6_3⟩ := cc4_ BK102.out; obtain ⟨hfz6_0, hfz6_1, hfz6_2⟩ := cf3_ BK102.out; have hfz6_3 := blk_frozen BK102.out 3))
  refine bodyPost_ret (results_cell_row rfl _ _ gb102 36 #[.int .i64 (wrap64 (Int.tdiv (wrap64 ((wrap64 ((wrap64 (77 * a0_0)) + (wrap64 (150 * a0_1)))) + (wrap64 (29 * a0_2)))) 256)), .int .i64 (wrap64 (Int.tdiv (wrap64 ((wrap64 ((wrap64 (77 * a0_0)) + (wrap64 (150 * a0_1)))) + (wrap64 (29 * a0_2)))) 256)), .int .i64 (wrap64 (Int.tdiv (wrap64 ((wrap64 ((wrap64 (77 * a0_0)) + (wrap64 (150 * a0_1)))) + (wrap64 (29 * a0_2)))) 256)), .int .i64 a0_3] (0, 0) _ rfl (by (repeat refine oneB ?_); refine blk_put (cs := #[.int .i64 (wrap64 (Int.tdiv (wrap64 ((wrap64 ((wrap64 (77 * a0_0)) + (wrap64 (150 * a0_1)))) + (wrap64 (29 * a0_2)))) 256)), .int .i64 (wrap64 (Int.tdiv (wrap64 ((wrap64 ((wrap64 (77 * a0_0)) + (wrap64 (150 * a0_1)))) + (wrap64 (29 * a0_2)))) 256)), .int .i64 (wrap64 (Int.tdiv (wrap64 ((wrap64 ((wrap64 (77 * a0_0)) + (wrap64 (150 * a0_1)))) + (wrap64 (29 * a0_2)))) 256)), .int .i64 0]) ?_ 3 _ rfl; refine blk_put (cs := #[.int .i64 (wrap64 (Int.tdiv (wrap64 ((wrap64 ((wrap64 (77 * a0_0)) + (wrap64 (150 * a0_1)))) + (wrap64 (29 * a0_2)))) 256)), .int .i64 (wrap64 (Int.tdiv (wrap64 ((wrap64 ((wrap64 (77 * a0_0)) + (wrap64 (150 * a0_1)))) + (wrap64 (29 * a0_2)))) 256)), .int .i64 0, .int .i64 0]) ?_ 2 _ rfl; refine blk_put (cs := #[.int .i64 (wrap64 (Int.tdiv (wrap64 ((wrap64 ((wrap64 (77 * a0_0)) + (wrap64 (150 * a0_1)))) + (wrap64 (29 * a0_2)))) 256)), .int .i64 0, .int .i64 0, .int .i64 0]) ?_ 1 _ rfl; refine blk_put (cs := #[.int .i64 0, .int .i64 0, .int .i64 0, .int .i64 0]) ?_ 0 _ rfl; exact upB BK102.out) Try.underlying36 rfl (by kernel_rfl)) rfl ?_
  exact ⟨by first | rfl | (simp [*, errW_none, errW_some] <;> rfl), by repeat (with_reducible first | exact HB.out | apply below_alloc | apply pw_below_drewN | apply below_drew1 | refine below_set ?_ (Aside0.out ‹_›))⟩
end
section
open Go.Proofs.YtoifpgkfpdeglaaW.PrintWords.Aside0 renaming mk → yaa
open Go.Proofs.YtoifpgkfpdeglaaW.PrintWords renaming pw_below_drewN → yab
abbrev q95_0 : Array Bool := Array.replicate 18 false
abbrev q95_1 : Array Bool := bl_ 18 1
abbrev q95_2 : Array Bool := bl_ 18 5
abbrev q95_3 : Array Bool := bl_ 18 21
abbrev q95_4 : Array Bool := bl_ 18 85
abbrev q95_5 : Array Bool := bl_ 18 341
abbrev q95_6 : Array Bool := bl_ 18 1365
abbrev q95_7 : Array Bool := bl_ 18 5461
abbrev q95_8 : Array Bool := bl_ 18 21845
abbrev q95_9 : Array Bool := bl_ 18 21847
abbrev q95_10 : Array Bool := bl_ 18 21855
abbrev q95_11 : Array Bool := bl_ 18 21887
abbrev q95_12 : Array Bool := bl_ 18 22015
abbrev q95_13 : Array Bool := bl_ 18 22527
abbrev q95_14 : Array Bool := bl_ 18 24575
abbrev q95_15 : Array Bool := bl_ 18 32767
abbrev q95_16 : Array Bool := bl_ 18 65535
abbrev q95_17 : Array Bool := bl_ 18 131071
abbrev q95_18 : Array Bool := bl_ 18 262143
mutual
def spec_l6Mean.l0 : Nat → Int → Int → Int → Int → Int → Int → List (S36) → Int → Int → Int → Int → Option (Int × Int × Int × Int)
 | 0, _, _, _, _, _, _, _, _, _, _, _ => none
 | k + 1, x1, x2, x7, x9, x102000, x102001, x102002, x104000, x104001, x104002, x104003 => if x9 ≤ (mn (wrap64 (x102001 - 1)) (wrap64 (x2 + 1))) then (spec_l6Mean.l1 k x1 x2 x7 x9 (mx 0 (wrap64 (x1 - 1))) x102000 x102001 x102002 x104000 x104001 x104002 x104003) else (if x7 = 0 then (none) else (some (wrap64 (Int.tdiv x104000 x7), wrap64 (Int.tdiv x104001 x7), wrap64 (Int.tdiv x104002 x7), wrap64 (Int.tdiv x104003 x7))))
def spec_l6Mean.l1 : Nat → Int → Int → Int → Int → Int → Int → Int → List (S36) → Int → Int → Int → Int → Option (Int × Int × Int × Int)
 | 0, _, _, _, _, _, _, _, _, _, _, _, _ => none
 | k + 1, x1, x2, x7, x9, x10, x102000, x102001, x102002, x104000, x104001, x104002, x104003 => if x10 ≤ (mn (wrap64 (x102000 - 1)) (wrap64 (x1 + 1))) then (if 0 ≤ (wrap64 ((wrap64 (x9 * x102000)) + x10)) then (if (wrap64 ((wrap64 (x9 * x102000)) + x10)) < (x102002.length : Int) then (spec_l6Mean.l1 k x1 x2 (wrap64 (x7 + 1)) x9 (wrap64 (x10 + 1)) x102000 x102001 x102002 (wrap64 (x104000 + ((rd_T36 x102002 (wrap64 ((wrap64 (x9 * x102000)) + x10))).f0))) (wrap64 (x104001 + ((rd_T36 x102002 (wrap64 ((wrap64 (x9 * x102000)) + x10))).f1))) (wrap64 (x104002 + ((rd_T36 x102002 (wrap64 ((wrap64 (x9 * x102000)) + x10))).f2))) (wrap64 (x104003 + ((rd_T36 x102002 (wrap64 ((wrap64 (x9 * x102000)) + x10))).f3)))) else (none)) else (none)) else (spec_l6Mean.l0 k x1 x2 x7 (wrap64 (x9 + 1)) x102000 x102001 x102002 x104000 x104001 x104002 x104003)
end
def spec_l6Mean.f (k : Nat) (a0_0 : Int) (a0_1 : Int) (l0_2 : List (S36)) (a1 : Int) (a2 : Int) : Option (Int × Int × Int × Int) := spec_l6Mean.l0 k a1 a2 0 (mx 0 (wrap64 (a2 - 1))) a0_0 a0_1 l0_2 0 0 0 0
def spec_l6Mean.T12 : Bool × List (List Nat × List Nat) := (true, [([], []), ([0], [0]), ([], []), ([1, 2], [1, 2]), ([], []), ([4], [4]), ([], []), ([5, 6], [5, 6]), ([], []), ([8], [8]), ([], []), ([9, 10], [9, 10]), ([], []), ([12], [12]), ([], []), ([13, 14], [13, 14]), ([3, 7, 11, 15], [3, 7, 11, 15]), ([16, 0, 1, 2, 3, 4, 5, 6, 7, 8, 9, 10, 11, 12, 13, 14, 15, 16], [16])])
def spec_l6Mean.B12 : List Nat := [0, 1, 0, 7, 0, 16, 0, 112, 0, 256, 0, 1792, 0, 4096, 0, 28672, 65535, 131071]
theorem spec_l6Mean.tab12 : rtab .any (opsOf Try.f95 12) = spec_l6Mean.T12 := by kernel_rfl
theorem spec_l6Mean.bits12 : waitsOk spec_l6Mean.T12.2 spec_l6Mean.B12 = true := by kernel_rfl
set_option maxHeartbeats 8000000 in
set_option maxRecDepth 100000 in
theorem spec_l6Mean.calls (k : Nat) (a0_0 : Int) (a0_1 : Int) (A0_2 : Option Addr) (c0_2 : Nat) (l0_2 : List (S36)) (a1 : Int) (a2 : Int) (r1 : Int) (r2 : Int) (r3 : Int) (r4 : Int) (w : World) (hr0_2 : Kd.C k36 w A0_2 l0_2.length l0_2) (hc0_2 : l0_2.length ≤ c0_2) (h : spec_l6Mean.f k a0_0 a0_1 l0_2 a1 a2 = some (r1, r2, r3, r4)) :
  Calls Try.prog 95 #[.agg #[.int .i64 a0_0, .int .i64 a0_1, .slice A0_2 l0_2.length c0_2], .int .i64 a1, .int .i64 a2] w fun e w' => e = .returned (.agg #[.int .i64 r1, .int .i64 r2, .int .i64 r3, .int .i64 r4]) ∧ Below w.heap.size w w' := by
 have hu25 := Try.underlying25; have hu36 := Try.underlying36; have HR0_2 := yaa hr0_2; have HC0_2 := yaa hc0_2; clear hr0_2 hc0_2; have HB := yaa (Below.refl w.heap.size w); have H : (spec_l6Mean.l0 k a1 a2 0 (mx 0 (wrap64 (a2 - 1))) a0_0 a0_1 l0_2 0 0 0 0) = some (r1, r2, r3, r4) := h; clear h; obtain ⟨ji4, hji4⟩ : ∃ j_ : Int, (mx 0 (wrap64 (a2 - 1))) = j_ := ⟨_, rfl⟩
 replace H : (spec_l6Mean.l0 k a1 a2 0 ji4 a0_0 a0_1 l0_2 0 0 0 0) = some (r1, r2, r3, r4) := by first | (rw [hji4] at H; exact H) | (simp only [hji4] at H ⊢; exact H)
 (try (have hji4l : 0 ≤ ji4 := by (rw [← hji4]; unfold mx; (repeat' split) <;> omega)))
 (try (have hji4m : 0 ≤ ji4 := by omega))
 have hji4_ : (if 0 < (wrap64 (a2 - 1)) then (wrap64 (a2 - 1)) else 0) = ji4 := hji4; have H' := yaa H; clear H
 go_enter Try.func95, Try.ntmps95
 go_wp2_with (first | ((with_reducible refine gd_ 3 rfl ?_); refine bx_ 3 rfl #[.int .i64 a0_0, .int .i64 a0_1, .slice A0_2 l0_2.length c0_2] 25 ?_; intro d3 hg w5 hbox hb; have b3 := yaa (hbox); have g5 := yaa ((by rw [hg]; exact (below_size (upH HB.out)) : w.heap.size ≤ d3)); replace HB := yaa (below_step (upH HB.out) hb); have m6 := g5; clear hb hbox hg) | ((with_reducible refine gd_ 6 rfl ?_); refine bx_ 6 rfl #[.int .i64 0, .int .i64 0, .int .i64 0, .int .i64 0] 36 ?_; intro b1 hg w6 hbox hb; have b5 := yaa (hbox); have g6 := yaa ((by rw [hg]; exact (below_size (by repeat (with_reducible first | exact HB.out | apply below_alloc | apply yab | apply below_drew1 | refine below_set ?_ (Aside0.out ‹_›)))) : w.heap.size ≤ b1)); replace HB := yaa (below_step (by repeat (with_reducible first | exact HB.out | apply below_alloc | apply yab | apply below_drew1 | refine below_set ?_ (Aside0.out ‹_›))) hb); have m7 := g6; have b6 := yaa ((by rw [hg]; exact Nat.ne_of_lt (blk_lt (upB b3.out)) : d3 ≠ b1)); replace b3 := yaa (blk_below (upB b3.out) hb); have c0 := yaa b6.out.symm; clear hb hbox hg) | ((with_reducible refine gd_ 8 rfl ?_); refine bx_ 8 rfl #[.int .i64 0, .int .i64 0, .int .i64 0, .int .i64 0] 36 ?_; intro d0 hg w7 hbox hb; have b9 := yaa (hbox); have g7 := yaa ((by rw [hg]; exact (below_size (by repeat (with_reducible first | exact HB.out | apply below_alloc | apply yab | apply below_drew1 | refine below_set ?_ (Aside0.out ‹_›)))) : w.heap.size ≤ d0)); replace HB := yaa (below_step (by repeat (with_reducible first | exact HB.out | apply below_alloc | apply yab | apply below_drew1 | refine below_set ?_ (Aside0.out ‹_›))) hb); have m8 := g7; have c2 := yaa ((by rw [hg]; exact Nat.ne_of_lt (blk_lt (upB b3.out)) : d3 ≠ d0)); replace b3 := yaa (blk_below (upB b3.out) hb); have c7 := yaa c2.out.symm; have b7 := yaa ((by rw [hg]; exact Nat.ne_of_lt (blk_lt (upB b5.out)) : b1 ≠ d0)); replace b5 := yaa (blk_below (upB b5.out) hb); have a5 := yaa b7.out.symm; clear hb hbox hg; have q2 := c7.out; have q3 := c2.out; have q4 := a5.out; have q5 := b7.out; obtain ⟨d5, d6, d7, d8⟩ := cc4_ b9.out; obtain ⟨d9, e0, e1⟩ := cf3_ b9.out; have e2 := blk_frozen b9.out 3))
 (try simp only [Act.put, List.setIfInBounds_toArray, List.set_cons_zero, List.set_cons_succ])
 go_loopg [7, 9] k (fun kq v7 v9 w' => ∃ (c5 : Int) (c6 : Int) (a6 : Int) (b2 : Int) (b4 : Int) (b8 : Int), v7 = .int .i64 c5 ∧ v9 = .int .i64 c6 ∧ Aside0 (spec_l6Mean.l0 kq a1 a2 c5 c6 a0_0 a0_1 l0_2 a6 b2 b4 b8 = some (r1, r2, r3, r4)) ∧ Aside0 (kq ≤ k) ∧ Aside0 (w'.heap[d3]? = some (.cells #[.int .i64 a0_0, .int .i64 a0_1, (.slice A0_2 l0_2.length c0_2)] 25 (0, 0))) ∧ Aside0 (w'.heap[b1]? = some (.cells #[.int .i64 0, .int .i64 0, .int .i64 0, .int .i64 0] 36 (0, 0))) ∧ Aside0 (w'.heap[d0]? = some (.cells #[.int .i64 a6, .int .i64 b2, .int .i64 b4, .int .i64 b8] 36 (0, 0))) ∧ Aside0 (Below w.heap.size w w'))
 case atStart => exact ⟨(0), (ji4), (0), (0), (0), (0), (by first | rfl | (simp; done) | (simp [*]; done)), (by first | rfl | (simp; done) | (simp only [← hji4] <;> (first | rfl | simp)) | (simp [*]; done)), H', ⟨Nat.le_refl _⟩, ⟨by repeat (with_reducible first | exact b3.out | refine oneB ?_ | refine blk_far ?_ c2.out _)⟩, ⟨by repeat (with_reducible first | exact b5.out | refine oneB ?_ | refine blk_far ?_ b7.out _)⟩, ⟨by (repeat refine oneB ?_); refine blk_put (cs := #[.int .i64 0, .int .i64 0, .int .i64 0, .int .i64 0]) ?_ 3 _ rfl; refine blk_put (cs := #[.int .i64 0, .int .i64 0, .int .i64 0, .int .i64 0]) ?_ 2 _ rfl; refine blk_put (cs := #[.int .i64 0, .int .i64 0, .int .i64 0, .int .i64 0]) ?_ 1 _ rfl; refine blk_put (cs := #[.int .i64 0, .int .i64 0, .int .i64 0, .int .i64 0]) ?_ 0 _ rfl; exact upB b9.out⟩, ⟨by repeat (with_reducible first | exact HB.out | apply below_alloc | apply yab | apply below_drew1 | refine below_set ?_ (Aside0.out ‹_›))⟩⟩
 case round =>
  clear H'; (try clear p2); (try clear p6); (try clear c8); (try clear c9); (try clear d5); (try clear d6); (try clear d7); (try clear d8); (try clear d9); (try clear e0); (try clear e1); (try clear e2); obtain ⟨c5, c6, a6, b2, b4, b8, rfl, rfl, HA, HK1, b3, b5, b9, HB⟩ := hrel
  cases gk with
  | zero => exact absurd HA.out (by simp [spec_l6Mean.l0])
  | succ k1 =>
   have H := HA.out; clear HA
   simp only [spec_l6Mean.l0] at H
   obtain ⟨ji11, hji11⟩ : ∃ j_ : Int, (mn (wrap64 (a0_1 - 1)) (wrap64 (a2 + 1))) = j_ := ⟨_, rfl⟩
   replace H : (if c6 ≤ (ji11) then (spec_l6Mean.l1 k1 a1 a2 c5 c6 (mx 0 (wrap64 (a1 - 1))) a0_0 a0_1 l0_2 a6 b2 b4 b8) else (if c5 = 0 then (none) else (some (wrap64 (Int.tdiv a6 c5), wrap64 (Int.tdiv b2 c5), wrap64 (Int.tdiv b4 c5), wrap64 (Int.tdiv b8 c5))))) = some (r1, r2, r3, r4) := by first | (rw [hji11] at H; exact H) | (simp only [hji11] at H ⊢; exact H)
   have hji11_ : (if (wrap64 (a2 + 1)) < (wrap64 (a0_1 - 1)) then (wrap64 (a2 + 1)) else (wrap64 (a0_1 - 1))) = ji11 := hji11
   by_cases c12 : c6 ≤ (ji11)
   ·
    rw [if_pos c12] at H
    have g2 : decide (c6 ≤ (ji11)) = true := decide_eq_true c12; clear c12; obtain ⟨ji13, hji13⟩ : ∃ j_ : Int, (mx 0 (wrap64 (a1 - 1))) = j_ := ⟨_, rfl⟩
    replace H : (spec_l6Mean.l1 k1 a1 a2 c5 c6 ji13 a0_0 a0_1 l0_2 a6 b2 b4 b8) = some (r1, r2, r3, r4) := by first | (rw [hji13] at H; exact H) | (simp only [hji13] at H ⊢; exact H)
    have hji13_ : (if 0 < (wrap64 (a1 - 1)) then (wrap64 (a1 - 1)) else 0) = ji13 := hji13; have H' := yaa H; clear H; have m9 := b6.out; have n0 := c0.out; have n1 := c2.out; have n2 := c7.out; obtain ⟨f6, f7, f8⟩ := cc3_ b3.out; obtain ⟨f9, g0, g1⟩ := cf3_ b3.out
    go_wp2
    (try simp only [Act.put, List.setIfInBounds_toArray, List.set_cons_zero, List.set_cons_succ])
    go_loopg [7, 10] k1 (fun kq v7 v10 w' => ∃ (d4 : Int) (c3 : Int) (a7 : Int) (a8 : Int) (a9 : Int) (b0 : Int), v7 = .int .i64 d4 ∧ v10 = .int .i64 c3 ∧ Aside0 (spec_l6Mean.l1 kq a1 a2 d4 c6 c3 a0_0 a0_1 l0_2 a7 a8 a9 b0 = some (r1, r2, r3, r4)) ∧ Aside0 (kq ≤ k1) ∧ Aside0 (w'.heap[d3]? = some (.cells #[.int .i64 a0_0, .int .i64 a0_1, (.slice A0_2 l0_2.length c0_2)] 25 (0, 0))) ∧ Aside0 (w'.heap[b1]? = some (.cells #[.int .i64 0, .int .i64 0, .int .i64 0, .int .i64 0] 36 (0, 0))) ∧ Aside0 (w'.heap[d0]? = some (.cells #[.int .i64 a7, .int .i64 a8, .int .i64 a9, .int .i64 b0] 36 (0, 0))) ∧ Aside0 (Below w.heap.size w w'))
    case atStart => exact ⟨(c5), (ji13), (a6), (b2), (b4), (b8), (by first | rfl | (simp; done) | (simp [*]; done)), (by first | rfl | (simp; done) | (simp only [← hji13] <;> (first | rfl | simp)) | (simp [*]; done)), H', ⟨Nat.le_refl _⟩, ⟨by exact upB b3.out⟩, ⟨by exact upB b5.out⟩, ⟨by exact upB b9.out⟩, ⟨by repeat (with_reducible first | exact HB.out | apply below_alloc | apply yab | apply below_drew1 | refine below_set ?_ (Aside0.out ‹_›))⟩⟩
    case round =>
     clear H'; (try clear c1); (try clear p2); (try clear p6); (try clear c8); (try clear c9); (try clear c12); (try clear g2); (try clear c14); (try clear c15); (try clear d5); (try clear d6); (try clear d7); (try clear d8); (try clear f6); (try clear f7); (try clear f8); (try clear d9); (try clear e0); (try clear e1); (try clear e2); (try clear f9); (try clear g0); (try clear g1); (try clear p2); (try clear p6); obtain ⟨d4, c3, a7, a8, a9, b0, rfl, rfl, HA, HK2, b3, b5, b9, HB⟩ := hrel
     cases gk with
     | zero => exact absurd HA.out (by simp [spec_l6Mean.l1])
     | succ k2 =>
      have H := HA.out; clear HA
      simp only [spec_l6Mean.l1] at H
      obtain ⟨ji17, hji17⟩ : ∃ j_ : Int, (mn (wrap64 (a0_0 - 1)) (wrap64 (a1 + 1))) = j_ := ⟨_, rfl⟩
      replace H : (if c3 ≤ (ji17) then (if 0 ≤ (wrap64 ((wrap64 (c6 * a0_0)) + c3)) then (if (wrap64 ((wrap64 (c6 * a0_0)) + c3)) < (l0_2.length : Int) then (spec_l6Mean.l1 k2 a1 a2 (wrap64 (d4 + 1)) c6 (wrap64 (c3 + 1)) a0_0 a0_1 l0_2 (wrap64 (a7 + ((rd_T36 l0_2 (wrap64 ((wrap64 (c6 * a0_0)) + c3))).f0))) (wrap64 (a8 + ((rd_T36 l0_2 (wrap64 ((wrap64 (c6 * a0_0)) + c3))).f1))) (wrap64 (a9 + ((rd_T36 l0_2 (wrap64 ((wrap64 (c6 * a0_0)) + c3))).f2))) (wrap64 (b0 + ((rd_T36 l0_2 (wrap64 ((wrap64 (c6 * a0_0)) + c3))).f3)))) else (none)) else (none)) else (spec_l6Mean.l0 k2 a1 a2 d4 (wrap64 (c6 + 1)) a0_0 a0_1 l0_2 a7 a8 a9 b0)) = some (r1, r2, r3, r4) := by first | (rw [hji17] at H; exact H) | (simp only [hji17] at H ⊢; exact H)
      have hji17_ : (if (wrap64 (a1 + 1)) < (wrap64 (a0_0 - 1)) then (wrap64 (a1 + 1)) else (wrap64 (a0_0 - 1))) = ji17 := hji17
      by_cases c18 : c3 ≤ (ji17)
      ·
       rw [if_pos c18] at H
       have g9 : decide (c3 ≤ (ji17)) = true := decide_eq_true c18; clear c18; obtain ⟨ji19, hji19⟩ : ∃ j_ : Int, (wrap64 ((wrap64 (c6 * a0_0)) + c3)) = j_ := ⟨_, rfl⟩
       replace H : (if 0 ≤ (ji19) then (if (ji19) < (l0_2.length : Int) then (spec_l6Mean.l1 k2 a1 a2 (wrap64 (d4 + 1)) c6 (wrap64 (c3 + 1)) a0_0 a0_1 l0_2 (wrap64 (a7 + ((rd_T36 l0_2 (ji19)).f0))) (wrap64 (a8 + ((rd_T36 l0_2 (ji19)).f1))) (wrap64 (a9 + ((rd_T36 l0_2 (ji19)).f2))) (wrap64 (b0 + ((rd_T36 l0_2 (ji19)).f3)))) else (none)) else (none)) = some (r1, r2, r3, r4) := by first | (rw [hji19] at H; exact H) | (simp only [hji19] at H ⊢; exact H)
       have hji19w : (IntKind.i64.wrap ((wrap64 (c6 * a0_0)) + c3)) = ji19 := (i64_w _).trans hji19
       by_cases c20 : 0 ≤ (ji19)
       ·
        rw [if_pos c20] at H
        replace c20 := decide_eq_true c20
        by_cases c21 : (ji19) < (l0_2.length : Int)
        ·
         rw [if_pos c21] at H
         replace c21 := decide_eq_true c21; have H' := yaa H; clear H; have n3 := b6.out; have n4 := c0.out; have n5 := c2.out; have n6 := c7.out; obtain ⟨h1, h2, h3⟩ := cc3_ b3.out; obtain ⟨h4, h5, h6⟩ := cf3_ b3.out; have p104 : 0 ≤ ((ji19) : Int) := of_decide_eq_true (by assumption); have q104 : (ji19) < (l0_2.length : Int) := of_decide_eq_true (by assumption); obtain ⟨ad104, m5, e3, e4, e5, e6⟩ := at_T36 HR0_2.out (ji19) p104 q104
         cases m5
         replace e3 := (upc_ HB.out e3 :); replace e4 := (upc_ HB.out e4 :); replace e5 := (upc_ HB.out e5 :); replace e6 := (upc_ HB.out e6 :); replace p104 := eq_true p104; replace q104 := eq_true q104
         go_wp2_with (first | ((with_reducible refine gd_ 11 rfl ?_); refine bx_ 11 rfl #[.int .i64 0, .int .i64 0, .int .i64 0, .int .i64 0] 36 ?_; intro e7 hg w25 hbox hb; have g3 := yaa (hbox); have h0 := yaa ((by rw [hg]; exact (below_size (by repeat (with_reducible first | exact HB.out | apply below_alloc | apply yab | apply below_drew1 | refine below_set ?_ (Aside0.out ‹_›)))) : w.heap.size ≤ e7)); replace HB := yaa (below_step (by repeat (with_reducible first | exact HB.out | apply below_alloc | apply yab | apply below_drew1 | refine below_set ?_ (Aside0.out ‹_›))) hb); have n7 := h0; have d1 := yaa ((by rw [hg]; exact Nat.ne_of_lt (blk_lt (upB b3.out)) : d3 ≠ e7)); replace b3 := yaa (blk_below (upB b3.out) hb); have e8 := yaa d1.out.symm; have d2 := yaa ((by rw [hg]; exact Nat.ne_of_lt (blk_lt (upB b5.out)) : b1 ≠ e7)); replace b5 := yaa (blk_below (upB b5.out) hb); have e9 := yaa d2.out.symm; have c4 := yaa ((by rw [hg]; exact Nat.ne_of_lt (blk_lt (upB b9.out)) : d0 ≠ e7)); replace b9 := yaa (blk_below (upB b9.out) hb); have f4 := yaa c4.out.symm; clear hb hbox hg; have n8 := e8.out; have n9 := d1.out; have o0 := e9.out; have o1 := d2.out; have o2 := f4.out; have o3 := c4.out; obtain ⟨h7, h8, h9, i0⟩ := cc4_ g3.out; obtain ⟨i1, i2, i3, i4⟩ := cf4_ g3.out; have o4 := a5.out; have o5 := b7.out; obtain ⟨i5, i6, i7, i8⟩ := cc4_ b9.out; obtain ⟨i9, j0, j1⟩ := cf3_ b9.out; have j2 := blk_frozen b9.out 3))
         go_roundg k2
         case measure => have := HK1.out; have := HK2.out; omega
         case rel => exact ⟨(wrap64 (d4 + 1)), (wrap64 (c3 + 1)), (wrap64 (a7 + ((rd_T36 l0_2 (ji19)).f0))), (wrap64 (a8 + ((rd_T36 l0_2 (ji19)).f1))), (wrap64 (a9 + ((rd_T36 l0_2 (ji19)).f2))), (wrap64 (b0 + ((rd_T36 l0_2 (ji19)).f3))), (by first | rfl | (simp; done) | (simp [*]; done)), (by first | rfl | (simp; done) | (simp [*]; done)), H', ⟨by have := HK1.out; have := HK2.out; omega⟩, ⟨by repeat (with_reducible first | exact b3.out | refine oneB ?_ | refine blk_far ?_ c2.out _ | refine blk_far ?_ d1.out _)⟩, ⟨by repeat (with_reducible first | exact b5.out | refine oneB ?_ | refine blk_far ?_ b7.out _ | refine blk_far ?_ d2.out _)⟩, ⟨by (repeat refine oneB ?_); refine blk_put (cs := #[.int .i64 (wrap64 (a7 + ((rd_T36 l0_2 (ji19)).f0))), .int .i64 (wrap64 (a8 + ((rd_T36 l0_2 (ji19)).f1))), .int .i64 (wrap64 (a9 + ((rd_T36 l0_2 (ji19)).f2))), .int .i64 b0]) ?_ 3 _ rfl; refine blk_put (cs := #[.int .i64 (wrap64 (a7 + ((rd_T36 l0_2 (ji19)).f0))), .int .i64 (wrap64 (a8 + ((rd_T36 l0_2 (ji19)).f1))), .int .i64 a9, .int .i64 b0]) ?_ 2 _ rfl; refine blk_put (cs := #[.int .i64 (wrap64 (a7 + ((rd_T36 l0_2 (ji19)).f0))), .int .i64 a8, .int .i64 a9, .int .i64 b0]) ?_ 1 _ rfl; refine blk_put (cs := #[.int .i64 a7, .int .i64 a8, .int .i64 a9, .int .i64 b0]) ?_ 0 _ rfl; (repeat refine oneB ?_); refine blk_far ?_ c4.out _; (repeat refine oneB ?_); refine blk_far ?_ c4.out _; (repeat refine oneB ?_); refine blk_far ?_ c4.out _; (repeat refine oneB ?_); refine blk_far ?_ c4.out _; exact upB b9.out⟩, ⟨by repeat (with_reducible first | exact HB.out | apply below_alloc | apply yab | apply below_drew1 | refine below_set ?_ (Aside0.out ‹_›))⟩⟩
        rw [if_neg c21] at H
        exact absurd H (by simp)
       rw [if_neg c20] at H
       exact absurd H (by simp)
      rw [if_neg c18] at H
      have g9 : decide (c3 ≤ (ji17)) = false := decide_eq_false c18; clear c18; have H' := yaa H; clear H; have o6 := b6.out; have o7 := c0.out; have o8 := c2.out; have o9 := c7.out; obtain ⟨j3, j4, j5⟩ := cc3_ b3.out; obtain ⟨j6, j7, j8⟩ := cf3_ b3.out
      go_wp2
      go_roundg k2
      case measure => have := HK1.out; have := HK2.out; omega
      case rel => exact ⟨(d4), (wrap64 (c6 + 1)), (a7), (a8), (a9), (b0), (by first | rfl | (simp; done) | (simp [*]; done)), (by first | rfl | (simp; done) | (simp [*]; done)), H', ⟨by have := HK1.out; have := HK2.out; omega⟩, ⟨by exact upB b3.out⟩, ⟨by exact upB b5.out⟩, ⟨by exact upB b9.out⟩, ⟨by repeat (with_reducible first | exact HB.out | apply below_alloc | apply yab | apply below_drew1 | refine below_set ?_ (Aside0.out ‹_›))⟩⟩
   rw [if_neg c12] at H
   have g2 : decide (c6 ≤ (ji11)) = false := decide_eq_false c12; clear c12
   by_cases c35 : c5 = 0
   ·
    rw [if_pos c35] at H
    exact absurd H (by simp)
   rw [if_neg c35] at H
   have p0 := beq_eq_false_iff_ne.mpr c35; have p1 := bne_iff_ne.mpr c35
   simp only [Option.some.injEq, Prod.mk.injEq] at H
   obtain ⟨rfl, rfl, rfl, rfl⟩ := H; have p3 := b6.out; have p4 := c0.out; have p5 := c2.out; have p7 := c7.out; obtain ⟨j9, k0, k3⟩ := cc3_ b3.out; obtain ⟨k4, k5, k6⟩ := cf3_ b3.out
   try go_wp2
   replace b3 := yaa (blk_drew b3.out); replace b5 := yaa (blk_drew b5.out); replace b9 := yaa (blk_drew b9.out); replace HB := yaa (below_drew1 HB.out)
   refine start_ (n := 18) (S := fun w' => w'.cell? ⟨d0, 0, none⟩ = some (.int .i64 a6) ∧ w'.cell? ⟨d0, 1, none⟩ = some (.int .i64 b2) ∧ w'.cell? ⟨d0, 2, none⟩ = some (.int .i64 b4) ∧ w'.cell? ⟨d0, 3, none⟩ = some (.int .i64 b8)) (ds := []) q95_0 (by kernel_rfl) rfl rfl ⟨(blk_cell b9.out 0).trans rfl, (blk_cell b9.out 1).trans rfl, (blk_cell b9.out 2).trans rfl, (blk_cell b9.out 3).trans rfl⟩ (fun hHeld => ?_); refine with_tabW spec_l6Mean.tab12 spec_l6Mean.bits12 (fun HT_ HW_ => ?_)
   generalize wr.drew = w39 at b3 b5 b9 HB hHeld ⊢
   refine pz_ 0 72 q95_1 HT_ (by kernel_rfl) ?_
   refine pz_ 2 74 q95_2 HT_ (by kernel_rfl) ?_
   refine pz_ 4 76 q95_3 HT_ (by kernel_rfl) ?_
   refine pz_ 6 78 q95_4 HT_ (by kernel_rfl) ?_
   refine pz_ 8 80 q95_5 HT_ (by kernel_rfl) ?_
   refine pz_ 10 82 q95_6 HT_ (by kernel_rfl) ?_
   refine pz_ 12 84 q95_7 HT_ (by kernel_rfl) ?_
   refine pz_ 14 86 q95_8 HT_ (by kernel_rfl) ?_
   refine tz_ 1 73 q95_9 HT_ HW_ (by kernel_rfl) hHeld ?_
   refine pz_ 3 75 q95_10 HT_ (by kernel_rfl) ?_
   refine tz_ 5 77 q95_11 HT_ HW_ (by kernel_rfl) hHeld ?_
   refine pz_ 7 79 q95_12 HT_ (by kernel_rfl) ?_
   refine tz_ 9 81 q95_13 HT_ HW_ (by kernel_rfl) hHeld ?_
   refine pz_ 11 83 q95_14 HT_ (by kernel_rfl) ?_
   refine tz_ 13 85 q95_15 HT_ HW_ (by kernel_rfl) hHeld ?_
   refine pz_ 15 87 q95_16 HT_ (by kernel_rfl) ?_
   refine pz_ 16 88 q95_17 HT_ (by kernel_rfl) ?_
   refine one_ (i := 17) (N := none) q95_18 rfl rfl (one_of HT_.out (by kernel_rfl)) (by decide) (fun K hK => ?_)
   have q7 : w39.cell? ⟨b1, 0, none⟩ = some (.int .i64 0) := (blk_cell b5.out 0).trans rfl; have p8 := blk_frozen b5.out 0; have k7 := b6.out; have k8 := a5.out; have k9 := c0.out; have l2 := b7.out; have q8 : w39.cell? ⟨b1, 1, none⟩ = some (.int .i64 0) := (blk_cell b5.out 1).trans rfl; have p9 := blk_frozen b5.out 1; have l3 := b6.out; have l4 := a5.out; have l5 := c0.out; have l6 := b7.out; have q9 : w39.cell? ⟨b1, 2, none⟩ = some (.int .i64 0) := (blk_cell b5.out 2).trans rfl; have q0 := blk_frozen b5.out 2; have l7 := b6.out; have l8 := a5.out; have l9 := c0.out; have m0 := b7.out; have r0 : w39.cell? ⟨b1, 3, none⟩ = some (.int .i64 0) := (blk_cell b5.out 3).trans rfl; have q1 := blk_frozen b5.out 3; have m1 := b6.out; have m2 := a5.out; have m3 := c0.out; have m4 := b7.out
   refine skip_ (w1 := ?_) (by rfl) rfl ?_ ?_
   rotate_left
   ·
    go_simp
    rfl
   refine hK.out _ _ ⟨((cell_far (p := ⟨b1, _, none⟩) a5.out _).trans (((cell_far (p := ⟨b1, _, none⟩) a5.out _).trans (((cell_far (p := ⟨b1, _, none⟩) a5.out _).trans (((cell_far (p := ⟨b1, _, none⟩) a5.out _).trans (hHeld.1)))))))), ((cell_far (p := ⟨b1, _, none⟩) a5.out _).trans (((cell_far (p := ⟨b1, _, none⟩) a5.out _).trans (((cell_far (p := ⟨b1, _, none⟩) a5.out _).trans (((cell_far (p := ⟨b1, _, none⟩) a5.out _).trans (hHeld.2.1)))))))), ((cell_far (p := ⟨b1, _, none⟩) a5.out _).trans (((cell_far (p := ⟨b1, _, none⟩) a5.out _).trans (((cell_far (p := ⟨b1, _, none⟩) a5.out _).trans (((cell_far (p := ⟨b1, _, none⟩) a5.out _).trans (hHeld.2.2.1)))))))), ((cell_far (p := ⟨b1, _, none⟩) a5.out _).trans (((cell_far (p := ⟨b1, _, none⟩) a5.out _).trans (((cell_far (p := ⟨b1, _, none⟩) a5.out _).trans (((cell_far (p := ⟨b1, _, none⟩) a5.out _).trans (hHeld.2.2.2))))))))⟩ (fun hHeld => ?_)
   clear hK K
   refine done_ (done_of HT_.out (by kernel_rfl)) ?_
   try go_wp2
   refine bodyPost_ret (results_cell_row rfl _ _ b1 36 #[.int .i64 (wrap64 (Int.tdiv a6 c5)), .int .i64 (wrap64 (Int.tdiv b2 c5)), .int .i64 (wrap64 (Int.tdiv b4 c5)), .int .i64 (wrap64 (Int.tdiv b8 c5))] (0, 0) _ rfl (by (repeat refine oneB ?_); refine blk_put (cs := #[.int .i64 (wrap64 (Int.tdiv a6 c5)), .int .i64 (wrap64 (Int.tdiv b2 c5)), .int .i64 (wrap64 (Int.tdiv b4 c5)), .int .i64 0]) ?_ 3 _ rfl; refine blk_put (cs := #[.int .i64 (wrap64 (Int.tdiv a6 c5)), .int .i64 (wrap64 (Int.tdiv b2 c5)), .int .i64 0, .int .i64 0]) ?_ 2 _ rfl; refine blk_put (cs := #[.int .i64 (wrap64 (Int.tdiv a6 c5)), .int .i64 0, .int .i64 0, .int .i64 0]) ?_ 1 _ rfl; refine blk_put (cs := #[.int .i64 0, .int .i64 0, .int .i64 0, .int .i64 0]) ?_ 0 _ rfl; exact upB b5.out) Try.underlying36 rfl (by kernel_rfl)) rfl ?_
   exact ⟨by first | rfl | (simp [errW_none, errW_some] <;> rfl) | (simp only [← hji4, ← hji11]; first | rfl | (simp [errW_none, errW_some] <;> rfl)) | (simp [*, errW_none, errW_some] <;> rfl), by repeat (with_reducible first | exact HB.out | apply below_alloc | apply yab | apply below_drew1 | refine below_set ?_ (Aside0.out ‹_›))⟩
end
section
open Go.Proofs.YtoifpgkfpdeglaaW.PrintWords.Aside0 renaming mk → yaa
def spec_l6Flat.f (a0_0 : Int) (a0_1 : Int) (a0_2 : Int) (a0_3 : Int) (a1_0 : Int) (a1_1 : Int) (a1_2 : Int) (a1_3 : Int) (a1_4 : Int) : Option (Int × Int × Int × Int) := some (wrap64 (Int.tdiv (wrap64 ((wrap64 (a0_0 * a0_3)) + (wrap64 (a1_1 * (wrap64 (255 - a0_3)))))) 255), wrap64 (Int.tdiv (wrap64 ((wrap64 (a0_1 * a0_3)) + (wrap64 (a1_2 * (wrap64 (255 - a0_3)))))) 255), wrap64 (Int.tdiv (wrap64 ((wrap64 (a0_2 * a0_3)) + (wrap64 (a1_3 * (wrap64 (255 - a0_3)))))) 255), 255)
set_option maxHeartbeats 8000000 in
set_option maxRecDepth 100000 in
theorem spec_l6Flat.calls (a0_0 : Int) (a0_1 : Int) (a0_2 : Int) (a0_3 : Int) (a1_0 : Int) (a1_1 : Int) (a1_2 : Int) (a1_3 : Int) (a1_4 : Int) (r1 : Int) (r2 : Int) (r3 : Int) (r4 : Int) (w : World) (h : spec_l6Flat.f a0_0 a0_1 a0_2 a0_3 a1_0 a1_1 a1_2 a1_3 a1_4 = some (r1, r2, r3, r4)) :
  Calls Try.prog 96 #[.agg #[.int .i64 a0_0, .int .i64 a0_1, .int .i64 a0_2, .int .i64 a0_3], .agg #[.int .i64 a1_0, .int .i64 a1_1, .int .i64 a1_2, .int .i64 a1_3, .int .i64 a1_4]] w fun e w' => e = .returned (.agg #[.int .i64 r1, .int .i64 r2, .int .i64 r3, .int .i64 r4]) ∧ Below w.heap.size w w' := by
 have hu36 := Try.underlying36; have hu27 := Try.underlying27; have HB := yaa (Below.refl w.heap.size w); have H : (some (wrap64 (Int.tdiv (wrap64 ((wrap64 (a0_0 * a0_3)) + (wrap64 (a1_1 * (wrap64 (255 - a0_3)))))) 255), wrap64 (Int.tdiv (wrap64 ((wrap64 (a0_1 * a0_3)) + (wrap64 (a1_2 * (wrap64 (255 - a0_3)))))) 255), wrap64 (Int.tdiv (wrap64 ((wrap64 (a0_2 * a0_3)) + (wrap64 (a1_3 * (wrap64 (255 - a0_3)))))) 255), 255)) = some (r1, r2, r3, r4) := h; clear h
 simp only [Option.some.injEq, Prod.mk.injEq] at H
 obtain ⟨rfl, rfl, rfl, rfl⟩ := H
 go_enter Try.func96, Try.ntmps96
 go_wp2_with (first | ((with_reducible refine gd_ 2 rfl ?_); refine bx_ 2 rfl #[.int .i64 a0_0, .int .i64 a0_1, .int .i64 a0_2, .int .i64 a0_3] 36 ?_; intro b0 hg w3 hbox hb; have a0 := yaa (hbox); have b2 := yaa ((by rw [hg]; exact (below_size (upH HB.out)) : w.heap.size ≤ b0)); replace HB := yaa (below_step (upH HB.out) hb); have e2 := b2; clear hb hbox hg) | ((with_reducible refine gd_ 3 rfl ?_); refine bx_ 3 rfl #[.int .i64 a1_0, .int .i64 a1_1, .int .i64 a1_2, .int .i64 a1_3, .int .i64 a1_4] 27 ?_; intro b1 hg w4 hbox hb; have a4 := yaa (hbox); have b3 := yaa ((by rw [hg]; exact (below_size (by repeat (with_reducible first | exact HB.out | apply below_alloc | apply pw_below_drewN | apply below_drew1 | refine below_set ?_ (Aside0.out ‹_›)))) : w.heap.size ≤ b1)); replace HB := yaa (below_step (by repeat (with_reducible first | exact HB.out | apply below_alloc | apply pw_below_drewN | apply below_drew1 | refine below_set ?_ (Aside0.out ‹_›))) hb); have e3 := b3; have a1 := yaa ((by rw [hg]; exact Nat.ne_of_lt (blk_lt (upB a0.out)) : b0 ≠ b1)); replace a0 := yaa (blk_below (upB a0.out) hb); have a7 := yaa a1.out.symm; clear hb hbox hg) | ((with_reducible refine gd_ 4 rfl ?_); refine bx_ 4 rfl #[.int .i64 0, .int .i64 0, .int .i64 0, .int .i64 0] 36 ?_; intro a5 hg w5 hbox hb; have a6 := yaa (hbox); have b4 := yaa ((by rw [hg]; exact (below_size (by repeat (with_reducible first | exact HB.out | apply below_alloc | apply pw_below_drewN | apply below_drew1 | refine below_set ?_ (Aside0.out ‹_›)))) : w.heap.size ≤ a5)); replace HB := yaa (below_step (by repeat (with_reducible first | exact HB.out | apply below_alloc | apply pw_below_drewN | apply below_drew1 | refine below_set ?_ (Aside0.out ‹_›))) hb); have e4 := b4; have a2 := yaa ((by rw [hg]; exact Nat.ne_of_lt (blk_lt (upB a0.out)) : b0 ≠ a5)); replace a0 := yaa (blk_below (upB a0.out) hb); have a8 := yaa a2.out.symm; have a3 := yaa ((by rw [hg]; exact Nat.ne_of_lt (blk_lt (upB a4.out)) : b1 ≠ a5)); replace a4 := yaa (blk_below (upB a4.out) hb); have a9 := yaa a3.out.symm; clear hb hbox hg; have e5 := a1.out; have e6 := a7.out; have e7 := a2.out; have e8 := a8.out; obtain ⟨d3, d4, d5, d6⟩ := cc4_ a0.out; obtain ⟨d8, d9, e0, e1⟩ := cf4_ a0.out; have f0 := a3.out; have f1 := a9.out; obtain ⟨b5, b6, b7, b8, b9⟩ := cc5_ a4.out; obtain ⟨c0, c1, c2, c3, c4⟩ := cf5_ a4.out; obtain ⟨c5, c6, c7, c8⟩ := cc4_ a6.out; obtain ⟨c9, d0, d1⟩ := cf3_ a6.out; have d2 := blk_frozen a6.out 3))
 refine bodyPost_ret (results_cell_row rfl _ _ a5 36 #[.int .i64 (wrap64 (Int.tdiv (wrap64 ((wrap64 (a0_0 * a0_3)) + (wrap64 (a1_1 * (wrap64 (255 - a0_3)))))) 255)), .int .i64 (wrap64 (Int.tdiv (wrap64 ((wrap64 (a0_1 * a0_3)) + (wrap64 (a1_2 * (wrap64 (255 - a0_3)))))) 255)), .int .i64 (wrap64 (Int.tdiv (wrap64 ((wrap64 (a0_2 * a0_3)) + (wrap64 (a1_3 * (wrap64 (255 - a0_3)))))) 255)), .int .i64 255] (0, 0) _ rfl (by (repeat refine oneB ?_); refine blk_put (cs := #[.int .i64 (wrap64 (Int.tdiv (wrap64 ((wrap64 (a0_0 * a0_3)) + (wrap64 (a1_1 * (wrap64 (255 - a0_3)))))) 255)), .int .i64 (wrap64 (Int.tdiv (wrap64 ((wrap64 (a0_1 * a0_3)) + (wrap64 (a1_2 * (wrap64 (255 - a0_3)))))) 255)), .int .i64 (wrap64 (Int.tdiv (wrap64 ((wrap64 (a0_2 * a0_3)) + (wrap64 (a1_3 * (wrap64 (255 - a0_3)))))) 255)), .int .i64 0]) ?_ 3 _ rfl; refine blk_put (cs := #[.int .i64 (wrap64 (Int.tdiv (wrap64 ((wrap64 (a0_0 * a0_3)) + (wrap64 (a1_1 * (wrap64 (255 - a0_3)))))) 255)), .int .i64 (wrap64 (Int.tdiv (wrap64 ((wrap64 (a0_1 * a0_3)) + (wrap64 (a1_2 * (wrap64 (255 - a0_3)))))) 255)), .int .i64 0, .int .i64 0]) ?_ 2 _ rfl; refine blk_put (cs := #[.int .i64 (wrap64 (Int.tdiv (wrap64 ((wrap64 (a0_0 * a0_3)) + (wrap64 (a1_1 * (wrap64 (255 - a0_3)))))) 255)), .int .i64 0, .int .i64 0, .int .i64 0]) ?_ 1 _ rfl; refine blk_put (cs := #[.int .i64 0, .int .i64 0, .int .i64 0, .int .i64 0]) ?_ 0 _ rfl; exact upB a6.out) Try.underlying36 rfl (by kernel_rfl)) rfl ?_
 exact ⟨by first | rfl | (simp [*, errW_none, errW_some] <;> rfl), by repeat (with_reducible first | exact HB.out | apply below_alloc | apply pw_below_drewN | apply below_drew1 | refine below_set ?_ (Aside0.out ‹_›))⟩
end
section
open Go.Proofs.YtoifpgkfpdeglaaW.PrintWords.Aside0 renaming mk → yaa
open Go.Proofs.YtoifpgkfpdeglaaW.PrintWords renaming blk_cell → yab, pw_below_drewN → yac, below_drew1 → yad, below_alloc → yae, blk_alloc → yaf, below_set → yag, blk_below → yah
abbrev q78_0 : Array Bool := Array.replicate 12 false
abbrev q78_1 : Array Bool := bl_ 12 1
abbrev q78_2 : Array Bool := bl_ 12 5
abbrev q78_3 : Array Bool := bl_ 12 21
abbrev q78_4 : Array Bool := bl_ 12 23
abbrev q78_5 : Array Bool := bl_ 12 31
abbrev q78_6 : Array Bool := bl_ 12 63
abbrev q78_7 : Array Bool := bl_ 12 127
abbrev q78_8 : Array Bool := bl_ 12 255
abbrev q78_9 : Array Bool := bl_ 12 511
abbrev q78_10 : Array Bool := bl_ 12 1023
abbrev q78_11 : Array Bool := bl_ 12 2047
abbrev q78_12 : Array Bool := bl_ 12 4095
abbrev q78_13 : Array Bool := Array.replicate 16 false
abbrev q78_14 : Array Bool := bl_ 16 1
abbrev q78_15 : Array Bool := bl_ 16 9
abbrev q78_16 : Array Bool := bl_ 16 25
abbrev q78_17 : Array Bool := bl_ 16 153
abbrev q78_18 : Array Bool := bl_ 16 409
abbrev q78_19 : Array Bool := bl_ 16 411
abbrev q78_20 : Array Bool := bl_ 16 415
abbrev q78_21 : Array Bool := bl_ 16 447
abbrev q78_22 : Array Bool := bl_ 16 511
abbrev q78_23 : Array Bool := bl_ 16 1023
abbrev q78_24 : Array Bool := bl_ 16 2047
abbrev q78_25 : Array Bool := bl_ 16 4095
abbrev q78_26 : Array Bool := bl_ 16 8191
abbrev q78_27 : Array Bool := bl_ 16 16383
abbrev q78_28 : Array Bool := bl_ 16 32767
abbrev q78_29 : Array Bool := bl_ 16 65535
abbrev q78_30 : Array Bool := Array.replicate 13 false
abbrev q78_31 : Array Bool := bl_ 13 1
abbrev q78_32 : Array Bool := bl_ 13 5
abbrev q78_33 : Array Bool := bl_ 13 21
abbrev q78_34 : Array Bool := bl_ 13 23
abbrev q78_35 : Array Bool := bl_ 13 31
abbrev q78_36 : Array Bool := bl_ 13 63
abbrev q78_37 : Array Bool := bl_ 13 127
abbrev q78_38 : Array Bool := bl_ 13 255
abbrev q78_39 : Array Bool := bl_ 13 511
abbrev q78_40 : Array Bool := bl_ 13 1023
abbrev q78_41 : Array Bool := bl_ 13 2047
abbrev q78_42 : Array Bool := bl_ 13 4095
abbrev q78_43 : Array Bool := bl_ 13 8191
def spec_l6Each.l0 : Nat → Int → Int → Int → List (S36) → Int → Int → Int → Int → Int → Int → Int → List (S36) → Option (Int × Int × (List (S36)))
 | 0, _, _, _, _, _, _, _, _, _, _, _, _ => none
 | k + 1, x6, x102000, x102001, x102002, x103000, x103001, x103002, x103003, x103004, x105000, x105001, x105002 => if x6 < (x102002.length : Int) then (if x103000 = 5 then (if 0 ≤ x6 then ((spec_l6Gray.f ((rd_T36 x102002 x6).f0) ((rd_T36 x102002 x6).f1) ((rd_T36 x102002 x6).f2) ((rd_T36 x102002 x6).f3)).bind fun bt106 => (if x105002.length < 4398046511104 then (spec_l6Each.l0 k (wrap64 (x6 + 1)) x102000 x102001 x102002 x103000 x103001 x103002 x103003 x103004 x105000 x105001 (x105002 ++ [(⟨bt106.1, bt106.2.1, bt106.2.2.1, bt106.2.2.2⟩ : S36)])) else (none))) else (none)) else (if x103000 = 6 then (if x102000 = 0 then (none) else ((spec_l6Mean.f k x102000 x102001 x102002 (Int.tmod x6 x102000) (wrap64 (Int.tdiv x6 x102000))).bind fun bt113 => (if x105002.length < 4398046511104 then (spec_l6Each.l0 k (wrap64 (x6 + 1)) x102000 x102001 x102002 x103000 x103001 x103002 x103003 x103004 x105000 x105001 (x105002 ++ [(⟨bt113.1, bt113.2.1, bt113.2.2.1, bt113.2.2.2⟩ : S36)])) else (none)))) else (if 0 ≤ x6 then ((spec_l6Flat.f ((rd_T36 x102002 x6).f0) ((rd_T36 x102002 x6).f1) ((rd_T36 x102002 x6).f2) ((rd_T36 x102002 x6).f3) x103000 x103001 x103002 x103003 x103004).bind fun bt121 => (if x105002.length < 4398046511104 then (spec_l6Each.l0 k (wrap64 (x6 + 1)) x102000 x102001 x102002 x103000 x103001 x103002 x103003 x103004 x105000 x105001 (x105002 ++ [(⟨bt121.1, bt121.2.1, bt121.2.2.1, bt121.2.2.2⟩ : S36)])) else (none))) else (none)))) else (some (x105000, x105001, x105002))
def spec_l6Each.f (k : Nat) (a0_0 : Int) (a0_1 : Int) (l0_2 : List (S36)) (a1_0 : Int) (a1_1 : Int) (a1_2 : Int) (a1_3 : Int) (a1_4 : Int) : Option (Int × Int × (List (S36))) := spec_l6Each.l0 k 0 a0_0 a0_1 l0_2 a1_0 a1_1 a1_2 a1_3 a1_4 a0_0 a0_1 ([] : List (S36))
def spec_l6Each.T6 : Bool × List (List Nat × List Nat) := (true, [([], []), ([0], [0]), ([], []), ([2], [2]), ([], []), ([3, 4], [3, 4]), ([5], [5]), ([], []), ([6, 7], [6, 7]), ([8], [8]), ([1, 9, 8], [1, 9]), ([0, 1, 2, 3, 4, 5, 6, 7, 8, 9, 10], []), ([11, 10, 10, 0, 1, 2, 3, 4, 5, 6, 7, 8, 9, 10], [10, 11])])
def spec_l6Each.B6 : List Nat := [0, 1, 0, 4, 0, 28, 60, 0, 252, 508, 1023, 2047, 4095]
theorem spec_l6Each.tab6 : rtab .any (opsOf Try.f78 6) = spec_l6Each.T6 := by kernel_rfl
theorem spec_l6Each.bits6 : waitsOk spec_l6Each.T6.2 spec_l6Each.B6 = true := by kernel_rfl
def spec_l6Each.T8 : Bool × List (List Nat × List Nat) := (true, [([], []), ([0], [0]), ([], []), ([2], [2]), ([], []), ([3, 4], [3, 4]), ([5], [5]), ([6], [6]), ([7], [7]), ([1, 8, 7], [1, 8]), ([0, 1, 2, 3, 4, 5, 6, 7, 8, 9], []), ([10, 9, 9, 0, 1, 2, 3, 4, 5, 6, 7, 8, 9], [9, 10])])
def spec_l6Each.B8 : List Nat := [0, 1, 0, 4, 0, 28, 60, 124, 252, 511, 1023, 2047]
theorem spec_l6Each.tab8 : rtab .any (opsOf Try.f78 8) = spec_l6Each.T8 := by kernel_rfl
theorem spec_l6Each.bits8 : waitsOk spec_l6Each.T8.2 spec_l6Each.B8 = true := by kernel_rfl
def spec_l6Each.T10 : Bool × List (List Nat × List Nat) := (true, [([], []), ([0], [0]), ([], []), ([], []), ([], []), ([4], [4]), ([3, 5], [3, 5]), ([], []), ([], []), ([8], [8]), ([7, 9], [7, 9]), ([2, 6, 10], [2, 6, 10]), ([11], [11]), ([1, 12, 11], [1, 12]), ([0, 1, 2, 3, 4, 5, 6, 7, 8, 9, 10, 11, 12, 13], []), ([14, 13, 13, 0, 1, 2, 3, 4, 5, 6, 7, 8, 9, 10, 11, 12, 13], [13, 14])])
def spec_l6Each.B10 : List Nat := [0, 1, 0, 0, 0, 16, 56, 0, 0, 256, 896, 2044, 4092, 8191, 16383, 32767]
theorem spec_l6Each.tab10 : rtab .any (opsOf Try.f78 10) = spec_l6Each.T10 := by kernel_rfl
theorem spec_l6Each.bits10 : waitsOk spec_l6Each.T10.2 spec_l6Each.B10 = true := by kernel_rfl
set_option maxHeartbeats 8000000 in
set_option maxRecDepth 100000 in
theorem spec_l6Each.calls (k : Nat) (a0_0 : Int) (a0_1 : Int) (A0_2 : Option Addr) (c0_2 : Nat) (l0_2 : List (S36)) (a1_0 : Int) (a1_1 : Int) (a1_2 : Int) (a1_3 : Int) (a1_4 : Int) (r1 : Int) (r2 : Int) (r3 : List (S36)) (w : World) (hr0_2 : Kd.C k36 w A0_2 l0_2.length l0_2) (hc0_2 : l0_2.length ≤ c0_2) (h : spec_l6Each.f k a0_0 a0_1 l0_2 a1_0 a1_1 a1_2 a1_3 a1_4 = some (r1, r2, r3)) :
  Calls Try.prog 78 #[.agg #[.int .i64 a0_0, .int .i64 a0_1, .slice A0_2 l0_2.length c0_2], .agg #[.int .i64 a1_0, .int .i64 a1_1, .int .i64 a1_2, .int .i64 a1_3, .int .i64 a1_4]] w fun e w' => ∃ v2_ : Value, e = .returned (.agg #[.int .i64 r1, .int .i64 r2, v2_]) ∧ Kd.R k36 36 w' w.heap.size (fun _ => True) v2_ r3 ∧ Below w.heap.size w w' := by
 have hu25 := Try.underlying25; have hu27 := Try.underlying27; have hu36 := Try.underlying36; have HR0_2 := yaa hr0_2; have HC0_2 := yaa hc0_2; clear hr0_2 hc0_2; have HB := yaa (Below.refl w.heap.size w); have H : (spec_l6Each.l0 k 0 a0_0 a0_1 l0_2 a1_0 a1_1 a1_2 a1_3 a1_4 a0_0 a0_1 ([] : List (S36))) = some (r1, r2, r3) := h; clear h; have H' := yaa H; clear H
 go_enter Try.func78, Try.ntmps78
 go_wp2_with (first | ((with_reducible refine gd_ 2 rfl ?_); refine bx_ 2 rfl #[.int .i64 a0_0, .int .i64 a0_1, .slice A0_2 l0_2.length c0_2] 25 ?_; intro c4 hg w3 hbox hb; have a9 := yaa (hbox); have i3 := yaa ((by rw [hg]; exact (below_size (upH HB.out)) : w.heap.size ≤ c4)); replace HB := yaa (below_step (upH HB.out) hb); have t9 := i3; clear hb hbox hg) | ((with_reducible refine gd_ 3 rfl ?_); refine bx_ 3 rfl #[.int .i64 a1_0, .int .i64 a1_1, .int .i64 a1_2, .int .i64 a1_3, .int .i64 a1_4] 27 ?_; intro d2 hg w4 hbox hb; have b1 := yaa (hbox); have i4 := yaa ((by rw [hg]; exact (below_size (by repeat (with_reducible first | exact HB.out | apply yae | apply yac | apply yad | refine yag ?_ (Aside0.out ‹_›)))) : w.heap.size ≤ d2)); replace HB := yaa (below_step (by repeat (with_reducible first | exact HB.out | apply yae | apply yac | apply yad | refine yag ?_ (Aside0.out ‹_›))) hb); have u0 := i4; have c2 := yaa ((by rw [hg]; exact Nat.ne_of_lt (blk_lt (upB a9.out)) : c4 ≠ d2)); replace a9 := yaa (yah (upB a9.out) hb); have c5 := yaa c2.out.symm; clear hb hbox hg) | ((with_reducible refine gd_ 4 rfl ?_); refine bx_ 4 rfl #[.int .i64 0, .int .i64 0, .slice none 0 0] 25 ?_; intro d3 hg w5 hbox hb; have b3 := yaa (hbox); have i5 := yaa ((by rw [hg]; exact (below_size (by repeat (with_reducible first | exact HB.out | apply yae | apply yac | apply yad | refine yag ?_ (Aside0.out ‹_›)))) : w.heap.size ≤ d3)); replace HB := yaa (below_step (by repeat (with_reducible first | exact HB.out | apply yae | apply yac | apply yad | refine yag ?_ (Aside0.out ‹_›))) hb); have u1 := i5; have c3 := yaa ((by rw [hg]; exact Nat.ne_of_lt (blk_lt (upB a9.out)) : c4 ≠ d3)); replace a9 := yaa (yah (upB a9.out) hb); have c8 := yaa c3.out.symm; have c9 := yaa ((by rw [hg]; exact Nat.ne_of_lt (blk_lt (upB b1.out)) : d2 ≠ d3)); replace b1 := yaa (yah (upB b1.out) hb); have d1 := yaa c9.out.symm; clear hb hbox hg; have B4 := c2.out; have B5 := c5.out; have B7 := c3.out; have B9 := c8.out; obtain ⟨h7, h8, h9⟩ := cc3_ a9.out; obtain ⟨i0, i1⟩ := cf2_ a9.out; have i2 := blk_frozen a9.out 2) | ((with_reducible refine gd_ 5 rfl ?_); refine bx_ 5 rfl #[.int .i64 0, .int .i64 0, .slice none 0 0] 25 ?_; intro b8 hg w9 hbox hb; have b0 := yaa (hbox); have i6 := yaa ((by rw [hg]; exact (below_size (by repeat (with_reducible first | exact HB.out | apply yae | apply yac | apply yad | refine yag ?_ (Aside0.out ‹_›)))) : w.heap.size ≤ b8)); replace HB := yaa (below_step (by repeat (with_reducible first | exact HB.out | apply yae | apply yac | apply yad | refine yag ?_ (Aside0.out ‹_›))) hb); have u2 := i6; have b5 := yaa ((by rw [hg]; exact Nat.ne_of_lt (blk_lt (upB a9.out)) : c4 ≠ b8)); replace a9 := yaa (yah (upB a9.out) hb); have b9 := yaa b5.out.symm; have b6 := yaa ((by rw [hg]; exact Nat.ne_of_lt (blk_lt (upB b1.out)) : d2 ≠ b8)); replace b1 := yaa (yah (upB b1.out) hb); have c0 := yaa b6.out.symm; have b7 := yaa ((by rw [hg]; exact Nat.ne_of_lt (blk_lt (upB b3.out)) : d3 ≠ b8)); replace b3 := yaa (yah (upB b3.out) hb); have d0 := yaa b7.out.symm; clear hb hbox hg; have u3 := b9.out; have u4 := b5.out; have u5 := c0.out; have u6 := b6.out; have u7 := d0.out; have u8 := b7.out; obtain ⟨g8, g9, h0⟩ := cc3_ b0.out; obtain ⟨h1, h2⟩ := cf2_ b0.out; have h3 := blk_frozen b0.out 2))
 (try simp only [Act.put, List.setIfInBounds_toArray, List.set_cons_zero, List.set_cons_succ])
 go_loopg [6] k (fun kq v6 w' => ∃ (b2 : Int) (b4 : List (S36)) (u105002 : Value), v6 = .int .i64 b2 ∧ Aside0 (spec_l6Each.l0 kq b2 a0_0 a0_1 l0_2 a1_0 a1_1 a1_2 a1_3 a1_4 a0_0 a0_1 b4 = some (r1, r2, r3)) ∧ Aside0 (kq ≤ k) ∧ Aside0 (Kd.R k36 36 w' w.heap.size (fun _ => True) u105002 b4) ∧ Aside0 (w'.heap[c4]? = some (.cells #[.int .i64 a0_0, .int .i64 a0_1, (.slice A0_2 l0_2.length c0_2)] 25 (0, 0))) ∧ Aside0 (w'.heap[d2]? = some (.cells #[.int .i64 a1_0, .int .i64 a1_1, .int .i64 a1_2, .int .i64 a1_3, .int .i64 a1_4] 27 (0, 0))) ∧ Aside0 (w'.heap[d3]? = some (.cells #[.int .i64 0, .int .i64 0, (.slice none 0 0)] 25 (0, 0))) ∧ Aside0 (w'.heap[b8]? = some (.cells #[.int .i64 a0_0, .int .i64 a0_1, u105002] 25 (0, 0))) ∧ Aside0 (Below w.heap.size w w'))
 case atStart => exact ⟨(0), (([] : List (S36))), (.slice none 0 0), (by first | rfl | (simp; done) | (simp [*]; done)), H', ⟨Nat.le_refl _⟩, ⟨by first | exact Kd.R_nil _ _ _ _ _ | exact Kd.N_nil _ _ _ _ _ | exact Kd.V_nil _ _ _ _ _ | exact Kd.Q_nil _ _ _ _ _ | exact Kd.S_nil _ _ _ _ _⟩, ⟨by repeat (with_reducible first | exact a9.out | refine oneB ?_ | refine blk_far ?_ b5.out _)⟩, ⟨by repeat (with_reducible first | exact b1.out | refine oneB ?_ | refine blk_far ?_ b6.out _)⟩, ⟨by repeat (with_reducible first | exact b3.out | refine oneB ?_ | refine blk_far ?_ b7.out _)⟩, ⟨by (repeat refine oneB ?_); refine blk_put (cs := #[.int .i64 a0_0, .int .i64 a0_1, .slice none 0 0]) ?_ 2 _ rfl; refine blk_put (cs := #[.int .i64 a0_0, .int .i64 0, .slice none 0 0]) ?_ 1 _ rfl; refine blk_put (cs := #[.int .i64 0, .int .i64 0, .slice none 0 0]) ?_ 0 _ rfl; exact upB b0.out⟩, ⟨by repeat (with_reducible first | exact HB.out | apply yae | apply yac | apply yad | refine yag ?_ (Aside0.out ‹_›))⟩⟩
 case round =>
  clear H'; (try clear c1); (try clear p2); (try clear c6); (try clear c7); (try clear c10); (try clear c11); (try clear c12); (try clear g8); (try clear g9); (try clear h0); (try clear h7); (try clear h8); (try clear h9); (try clear h1); (try clear h2); (try clear h3); (try clear i0); (try clear i1); (try clear i2); obtain ⟨b2, b4, u105002, rfl, HA, HK1, a8, a9, b1, b3, b0, HB⟩ := hrel
  cases gk with
  | zero => exact absurd HA.out (by simp [spec_l6Each.l0])
  | succ k1 =>
   have H := HA.out; clear HA
   simp only [spec_l6Each.l0] at H
   by_cases c14 : b2 < (l0_2.length : Int)
   rotate_left
   ·
    rw [if_neg c14] at H
    have i7 : decide (b2 < (l0_2.length : Int)) = false := decide_eq_false c14; clear c14
    simp only [Option.some.injEq, Prod.mk.injEq] at H
    obtain ⟨rfl, rfl, rfl⟩ := H; have A2 := c2.out; have A3 := c5.out; have A4 := c3.out; have A5 := c8.out; have A6 := b5.out; have A7 := b9.out; obtain ⟨r7, r8, r9⟩ := cc3_ a9.out; obtain ⟨s0, s1, s2⟩ := cf3_ a9.out; have A8 := c0.out; have A9 := b6.out; have B0 := d0.out; have B1 := b7.out; obtain ⟨s3, s4, s5⟩ := cc3_ b0.out; obtain ⟨s6, s7, s8⟩ := cf3_ b0.out; have B2 := d1.out; have B3 := c9.out; obtain ⟨s9, t0, t1⟩ := cc3_ b3.out; obtain ⟨t2, t3, t4⟩ := cf3_ b3.out; obtain ⟨k4, k5, t8⟩ := Kd.R_slice a8.out; subst t8
    go_wp2
    refine bodyPost_ret (results_cell_row rfl _ _ d3 25 #[.int .i64 a0_0, .int .i64 a0_1, .slice k4 b4.length k5] (0, 0) _ rfl (by (repeat refine oneB ?_); refine blk_put (cs := #[.int .i64 a0_0, .int .i64 a0_1, .slice none 0 0]) ?_ 2 _ rfl; refine blk_put (cs := #[.int .i64 a0_0, .int .i64 0, .slice none 0 0]) ?_ 1 _ rfl; refine blk_put (cs := #[.int .i64 0, .int .i64 0, .slice none 0 0]) ?_ 0 _ rfl; exact upB b3.out) Try.underlying25 rfl (by kernel_rfl)) rfl ?_
    exact ⟨_, by first | rfl | (simp [*, errW_none, errW_some] <;> rfl), by (with_reducible repeat (first | apply Kd.R_alloc | apply Kd.R_drewN | apply Kd.R_drew)); exact Kd.R_mono (Kd.R_far (p := ⟨d3, 2, none⟩) (Kd.R_far (p := ⟨d3, 1, none⟩) (Kd.R_far (p := ⟨d3, 0, none⟩) (Kd.R_types a8.out b3.out (by decide)) (fun _ hk => hk.2) (.int .i64 a0_0)) (fun _ hk => hk.2) (.int .i64 a0_1)) (fun _ hk => hk.2) (.slice k4 b4.length k5)) (fun _ hk => trivial), by repeat (with_reducible first | exact HB.out | apply yae | apply yac | apply yad | refine yag ?_ (Aside0.out ‹_›))⟩
   rw [if_pos c14] at H
   have i7 : decide (b2 < (l0_2.length : Int)) = true := decide_eq_true c14; clear c14
   by_cases c15 : a1_0 = 5
   ·
    rw [if_pos c15] at H
    have i8 := beq_iff_eq.mpr c15; have i9 := bne_eq_false_iff_eq.mpr c15; clear c15
    by_cases c16 : 0 ≤ b2
    rotate_left
    ·
     rw [if_neg c16] at H
     exact absurd H (by simp)
    rw [if_pos c16] at H
    replace c16 := decide_eq_true c16; obtain ⟨⟨f5, f6, f7, f8⟩, A17, H⟩ := bindA H; (try dsimp only at H)
    by_cases c18 : b4.length < 4398046511104
    rotate_left
    ·
     rw [if_neg c18] at H
     exact absurd H (by simp)
    rw [if_pos c18] at H
    have LMc18 := yaa c18; clear c18; obtain ⟨y110, hy110⟩ : ∃ y_ : List (S36), y_ = (b4 ++ [(⟨f5, f6, f7, f8⟩ : S36)]) := ⟨_, rfl⟩
    replace H : (spec_l6Each.l0 k1 (wrap64 (b2 + 1)) a0_0 a0_1 l0_2 a1_0 a1_1 a1_2 a1_3 a1_4 a0_0 a0_1 y110) = some (r1, r2, r3) := by first | (rw [hy110]; with_reducible exact H) | (have H2_ := (Option.bind_some _ _).symm.trans H; rw [hy110]; with_reducible exact H2_) | (have H2_ := (Option.bind_some _ _).symm.trans H; with_reducible exact H2_) | with_reducible exact H | (rw [hy110]; exact H) | exact H
    have Ny110 := yaa hy110; clear hy110; have H' := yaa H; clear H; have u9 := c2.out; have v0 := c5.out; have v1 := c3.out; have v2 := c8.out; have v3 := b5.out; have v4 := b9.out; obtain ⟨k6, k7, k8⟩ := cc3_ a9.out; obtain ⟨k9, l1, l2⟩ := cf3_ a9.out; have v5 := c9.out; have v7 := d1.out; have v8 := b6.out; have v9 := c0.out; obtain ⟨l3, l4, l5, l6, l7⟩ := cc5_ b1.out; obtain ⟨l8, l9, m0, m1, m2⟩ := cf5_ b1.out
    try go_wp2
    replace a8 := yaa (Kd.R_drew a8.out); replace a9 := yaa (blk_drew a9.out); replace b1 := yaa (blk_drew b1.out); replace b3 := yaa (blk_drew b3.out); replace b0 := yaa (blk_drew b0.out); replace HB := yaa (yad HB.out); have p105 : 0 ≤ (b2 : Int) := of_decide_eq_true (by assumption); have q105 : b2 < (l0_2.length : Int) := of_decide_eq_true (by assumption); obtain ⟨ad105, t6, e2, e3, e4, e5⟩ := at_T36 HR0_2.out b2 p105 q105; have d4 := e5; have d5 := e4; have d6 := e3; have d7 := e2
    cases t6
    replace e2 := (upc_ HB.out e2 :); replace e3 := (upc_ HB.out e3 :); replace e4 := (upc_ HB.out e4 :); replace e5 := (upc_ HB.out e5 :); replace p105 := eq_true p105; replace q105 := eq_true q105
    refine start_ (n := 12) (S := fun w' => w'.cell? ⟨b8, 0, none⟩ = some (.int .i64 a0_0) ∧ w'.cell? ⟨b8, 1, none⟩ = some (.int .i64 a0_1) ∧ w'.cell? ⟨b8, 2, none⟩ = some (u105002) ∧ w'.cell? ⟨c4, 0, none⟩ = some (.int .i64 a0_0) ∧ w'.cell? ⟨c4, 1, none⟩ = some (.int .i64 a0_1) ∧ w'.cell? ⟨c4, 2, none⟩ = some (.slice (some ad105) l0_2.length c0_2) ∧ w'.cell? (ad105.add ((b2).toNat * 4)) = some (.int .i64 ((rd_T36 l0_2 b2).f0)) ∧ w'.cell? ⟨(ad105.add ((b2).toNat * 4)).block, (ad105.add ((b2).toNat * 4)).off + 1, none⟩ = some (.int .i64 ((rd_T36 l0_2 b2).f1)) ∧ w'.cell? ⟨(ad105.add ((b2).toNat * 4)).block, (ad105.add ((b2).toNat * 4)).off + 2, none⟩ = some (.int .i64 ((rd_T36 l0_2 b2).f2)) ∧ w'.cell? ⟨(ad105.add ((b2).toNat * 4)).block, (ad105.add ((b2).toNat * 4)).off + 3, none⟩ = some (.int .i64 ((rd_T36 l0_2 b2).f3))) (ds := [11]) q78_0 (by kernel_rfl) rfl rfl ⟨(yab b0.out 0).trans rfl, (yab b0.out 1).trans rfl, (yab b0.out 2).trans rfl, (yab a9.out 0).trans rfl, (yab a9.out 1).trans rfl, (yab a9.out 2).trans rfl, (upc_ HB.out d7 :), (upc_ HB.out d6 :), (upc_ HB.out d5 :), (upc_ HB.out d4 :)⟩ (fun hHeld => ?_); refine with_tabW spec_l6Each.tab8 spec_l6Each.bits8 (fun HT_ HW_ => ?_)
    generalize wr.drew = w26 at a8 a9 b1 b3 b0 HB e2 e3 e4 e5 hHeld ⊢
    refine pz_ 0 35 q78_1 HT_ (by kernel_rfl) ?_
    refine pz_ 2 37 q78_2 HT_ (by kernel_rfl) ?_
    refine pz_ 4 39 q78_3 HT_ (by kernel_rfl) ?_
    refine tz_ 1 36 q78_4 HT_ HW_ (by kernel_rfl) hHeld ?_
    refine tz_ 3 38 q78_5 HT_ HW_ (by kernel_rfl) hHeld ?_
    refine pz_ 5 40 q78_6 HT_ (by kernel_rfl) ?_
    refine tz_ 6 41 q78_7 HT_ HW_ (by kernel_rfl) hHeld ?_
    refine one_ (i := 7) (N := some 42) q78_8 rfl rfl (one_of HT_.out (by kernel_rfl)) (by decide) (fun K hK => ?_)
    refine goes_ Try.func94 (by kernel_rfl) rfl #[.agg #[.int .i64 ((rd_T36 l0_2 b2).f0), .int .i64 ((rd_T36 l0_2 b2).f1), .int .i64 ((rd_T36 l0_2 b2).f2), .int .i64 ((rd_T36 l0_2 b2).f3)]] (by rfl) rfl rfl (by (try simp only [List.map_toArray, List.map_cons, List.map_nil]); first | done | rfl | (simp only [List.length_drop, List.length_take]; rfl)) ?_
    with_reducible refine (spec_l6Gray.calls ((rd_T36 l0_2 b2).f0) ((rd_T36 l0_2 b2).f1) ((rd_T36 l0_2 b2).f2) ((rd_T36 l0_2 b2).f3) f5 f6 f7 f8 _ A17.out).mono ?_
    rintro e w27 ⟨rfl, hb⟩; refine ⟨_, rfl, ?_⟩; have n0_ := yaa (Kd.R_below (upR a8.out) hb); have n1_ := yaa (yah (upB a9.out) hb); have n2_ := yaa (yah (upB b1.out) hb); have n3_ := yaa (yah (upB b3.out) hb); have n4_ := yaa (yah (upB b0.out) hb)
    have n5_ := yaa (below_step (by repeat (with_reducible first | exact HB.out | apply yae | apply yac | apply yad | refine yag ?_ (Aside0.out ‹_›))) hb)
    clear a8; clear a9; clear b1; clear b3; clear b0; clear HB; have a8 := n0_; have a9 := n1_; have b1 := n2_; have b3 := n3_; have b0 := n4_; have HB := n5_; clear n0_ n1_ n2_ n3_ n4_ n5_; (try clear hb); (try clear hb2); (try clear hk); (try clear hi)
    refine hK.out _ _ ⟨(yab b0.out 0).trans rfl, (yab b0.out 1).trans rfl, (yab b0.out 2).trans rfl, (yab a9.out 0).trans rfl, (yab a9.out 1).trans rfl, (yab a9.out 2).trans rfl, (upc_ HB.out d7 :), (upc_ HB.out d6 :), (upc_ HB.out d5 :), (upc_ HB.out d4 :)⟩ (fun hHeld => ?_)
    clear hK K
    refine norm_ (a' := ?_) ?_ ?_
    rotate_left
    ·
     show Act.put _ (some 42) _ = _
     simp only [Act.put, List.setIfInBounds_toArray, List.set_cons_zero, List.set_cons_succ, i64_w, i32_w]
     rfl
    refine one_ (i := 8) (N := some 43) q78_9 rfl rfl (one_of HT_.out (by kernel_rfl)) (by decide) (fun K hK => ?_)
    refine value_ (w1 := ?_) (v := ?_) (by rfl) rfl ?_ ?_
    rotate_left 2
    ·
     go_simp
     constructor
     ·
      rfl
     ·
      rfl
    refine hK.out _ _ ⟨(yab (yaf b0.out _) 0).trans rfl, (yab (yaf b0.out _) 1).trans rfl, (yab (yaf b0.out _) 2).trans rfl, (yab (yaf a9.out _) 0).trans rfl, (yab (yaf a9.out _) 1).trans rfl, (yab (yaf a9.out _) 2).trans rfl, (World.cell?_alloc_lt _ _ _ (World.block_lt_of_cell? _ _ ((upc_ HB.out d7 :)))).trans ((upc_ HB.out d7 :)), (World.cell?_alloc_lt _ _ _ (World.block_lt_of_cell? _ _ ((upc_ HB.out d6 :)))).trans ((upc_ HB.out d6 :)), (World.cell?_alloc_lt _ _ _ (World.block_lt_of_cell? _ _ ((upc_ HB.out d5 :)))).trans ((upc_ HB.out d5 :)), (World.cell?_alloc_lt _ _ _ (World.block_lt_of_cell? _ _ ((upc_ HB.out d4 :)))).trans ((upc_ HB.out d4 :))⟩ (fun hHeld => ?_)
    clear hK K
    refine norm_ (a' := ?_) ?_ ?_
    rotate_left
    ·
     show Act.put _ (some 43) _ = _
     simp only [Act.put, List.setIfInBounds_toArray, List.set_cons_zero, List.set_cons_succ, i64_w, i32_w]
     rfl
    refine one_ (i := 9) (N := some 44) q78_10 rfl rfl (one_of HT_.out (by kernel_rfl)) (by decide) (fun K hK => ?_)
    refine Kd.R_append_step k36 (w0 := w) w.heap.size (by rfl) (.tmp 36) (.tmp 43) 23 36 (.agg #[(.int .i64 0), (.int .i64 0), (.int .i64 0), (.int .i64 0)]) 32 rfl Try.underlying23 info36 rfl (by decide) (by omega) u105002 b4 (⟨f5, f6, f7, f8⟩ : S36) [.int .i64 f5, .int .i64 f6, .int .i64 f7, .int .i64 f8] (fun _ => True) (fun _ => False) rfl rfl ?aP (fun _ hk => hk.elim) ?aF ?aO ?aB ?aS ?aL ?_
    (case aP => exact k36_mkM _ _ _ (⟨f5, f6, f7, f8⟩ : S36))
    (case aB => exact (by repeat (with_reducible first | exact HB.out | apply yae | apply yac | apply yad | refine yag ?_ (Aside0.out ‹_›))))
    (case aF => exact (fun _ _ => trivial))
    (case aO => exact (upR a8.out))
    (case aS => exact (below_size (by repeat (with_reducible first | exact HB.out | apply yae | apply yac | apply yad | refine yag ?_ (Aside0.out ‹_›)))))
    (case aL => have := LMc18.out; omega)
    intro C0 w28 ho hb hg hat
    rw [← Ny110.out] at ho
    replace a9 := yaa (blk_grown (upB a9.out) hg (Kd.R_ne a8.out a9.out (by decide))); replace b1 := yaa (blk_grown (upB b1.out) hg (Kd.R_ne a8.out b1.out (by decide))); replace b3 := yaa (blk_grown (upB b3.out) hg (Kd.R_ne a8.out b3.out (by decide))); replace b0 := yaa (blk_grown (upB b0.out) hg (Kd.R_ne a8.out b0.out (by decide))); replace HB := yaa (hb); have h4 := yaa (ho); clear a8; clear ho hb hg hat; obtain ⟨j2, j3, j4⟩ := Kd.R_slice h4.out
    (first | subst j4 | (injection j4 with f1_ f2_ f3_; have f4_ := f1_.symm; have f5_ := f3_.symm; clear f1_ f2_ f3_; subst f4_; subst f5_))
    refine hK.out _ _ ⟨(yab b0.out 0).trans rfl, (yab b0.out 1).trans rfl, (yab b0.out 2).trans rfl, (yab a9.out 0).trans rfl, (yab a9.out 1).trans rfl, (yab a9.out 2).trans rfl, (upc_ HB.out d7 :), (upc_ HB.out d6 :), (upc_ HB.out d5 :), (upc_ HB.out d4 :)⟩ (fun hHeld => ?_)
    clear hK K
    refine norm_ (a' := ?_) ?_ ?_
    rotate_left
    ·
     show Act.put _ (some 44) _ = _
     simp only [Act.put, List.setIfInBounds_toArray, List.set_cons_zero, List.set_cons_succ, i64_w, i32_w]
     rfl
    refine pz_ 10 45 q78_11 HT_ (by kernel_rfl) ?_
    refine last_ (i := 11) (N := none) q78_12 rfl rfl (one_of HT_.out (by kernel_rfl)) (by decide) (fun K hK => ?_)
    have C1 : w28.cell? ⟨b8, 2, none⟩ = some (u105002) := (yab b0.out 2).trans rfl; have w2 := blk_frozen b0.out 2; have m3 := b5.out; have m4 := b6.out; have m5 := b7.out; have m6 := b9.out; have m7 := c0.out; have m8 := d0.out
    refine skip_ (w1 := ?_) (by rfl) rfl ?_ ?_
    rotate_left
    ·
     go_simp
     rfl
    refine hK.out _ _ ?_
    clear hK K
    refine done_ (done_of HT_.out (by kernel_rfl)) ?_
    try go_wp2
    go_roundg k1
    case measure => have := HK1.out; omega
    case rel => exact ⟨(wrap64 (b2 + 1)), (y110), (.slice j2 y110.length j3), (by first | rfl | (simp; done) | (simp [*]; done)), H', ⟨by have := HK1.out; omega⟩, ⟨by (with_reducible repeat (first | apply Kd.R_alloc | apply Kd.R_drewN | apply Kd.R_drew)); exact Kd.R_mono (Kd.R_far (p := ⟨b8, 2, none⟩) (Kd.R_types h4.out b0.out (by decide)) (fun _ hk => hk.2) (.slice j2 y110.length j3)) (fun _ hk => trivial)⟩, ⟨by repeat (with_reducible first | exact a9.out | refine oneB ?_ | refine blk_far ?_ b5.out _)⟩, ⟨by repeat (with_reducible first | exact b1.out | refine oneB ?_ | refine blk_far ?_ b6.out _)⟩, ⟨by repeat (with_reducible first | exact b3.out | refine oneB ?_ | refine blk_far ?_ b7.out _)⟩, ⟨by (repeat refine oneB ?_); refine blk_put (cs := #[.int .i64 a0_0, .int .i64 a0_1, u105002]) ?_ 2 _ rfl; exact upB b0.out⟩, ⟨by repeat (with_reducible first | exact HB.out | apply yae | apply yac | apply yad | refine yag ?_ (Aside0.out ‹_›))⟩⟩
   rw [if_neg c15] at H
   have i8 := beq_eq_false_iff_ne.mpr c15; have i9 := bne_iff_ne.mpr c15
   by_cases c31 : a1_0 = 6
   ·
    rw [if_pos c31] at H
    have j5 := beq_iff_eq.mpr c31; have j6 := bne_eq_false_iff_eq.mpr c31; clear c31
    by_cases c32 : a0_0 = 0
    ·
     rw [if_pos c32] at H
     exact absurd H (by simp)
    rw [if_neg c32] at H
    have w6 := beq_eq_false_iff_ne.mpr c32; have w7 := bne_iff_ne.mpr c32; obtain ⟨⟨g0, g1, g2, g3⟩, A33, H⟩ := bindA H; (try dsimp only at H)
    by_cases c34 : b4.length < 4398046511104
    rotate_left
    ·
     rw [if_neg c34] at H
     exact absurd H (by simp)
    rw [if_pos c34] at H
    have LMc34 := yaa c34; clear c34; obtain ⟨y117, hy117⟩ : ∃ y_ : List (S36), y_ = (b4 ++ [(⟨g0, g1, g2, g3⟩ : S36)]) := ⟨_, rfl⟩
    replace H : (spec_l6Each.l0 k1 (wrap64 (b2 + 1)) a0_0 a0_1 l0_2 a1_0 a1_1 a1_2 a1_3 a1_4 a0_0 a0_1 y117) = some (r1, r2, r3) := by first | (rw [hy117]; with_reducible exact H) | (have H2_ := (Option.bind_some _ _).symm.trans H; rw [hy117]; with_reducible exact H2_) | (have H2_ := (Option.bind_some _ _).symm.trans H; with_reducible exact H2_) | with_reducible exact H | (rw [hy117]; exact H) | exact H
    have Ny117 := yaa hy117; clear hy117; have H' := yaa H; clear H; have w8 := c2.out; have x0 := c5.out; have x1 := c3.out; have x2 := c8.out; have x3 := b5.out; have x4 := b9.out; obtain ⟨m9, n0, n1⟩ := cc3_ a9.out; obtain ⟨n2, n3, n4⟩ := cf3_ a9.out; have x5 := c9.out; have x7 := d1.out; have x8 := b6.out; have x9 := c0.out; obtain ⟨n5, n6, n7, n8, n9⟩ := cc5_ b1.out; obtain ⟨o0, o1, o2, o3, o4⟩ := cf5_ b1.out
    try go_wp2
    replace a8 := yaa (Kd.R_drew a8.out); replace a9 := yaa (blk_drew a9.out); replace b1 := yaa (blk_drew b1.out); replace b3 := yaa (blk_drew b3.out); replace b0 := yaa (blk_drew b0.out); replace HB := yaa (yad HB.out)
    refine start_ (n := 16) (S := fun w' => w'.cell? ⟨b8, 0, none⟩ = some (.int .i64 a0_0) ∧ w'.cell? ⟨b8, 1, none⟩ = some (.int .i64 a0_1) ∧ w'.cell? ⟨b8, 2, none⟩ = some (u105002) ∧ w'.cell? ⟨c4, 0, none⟩ = some (.int .i64 a0_0) ∧ w'.cell? ⟨c4, 1, none⟩ = some (.int .i64 a0_1) ∧ w'.cell? ⟨c4, 2, none⟩ = some (.slice A0_2 l0_2.length c0_2)) (ds := [15]) q78_13 (by kernel_rfl) rfl rfl ⟨(yab b0.out 0).trans rfl, (yab b0.out 1).trans rfl, (yab b0.out 2).trans rfl, (yab a9.out 0).trans rfl, (yab a9.out 1).trans rfl, (yab a9.out 2).trans rfl⟩ (fun hHeld => ?_); refine with_tabW spec_l6Each.tab10 spec_l6Each.bits10 (fun HT_ HW_ => ?_)
    generalize wr.drew = w42 at a8 a9 b1 b3 b0 HB hHeld ⊢
    refine pz_ 0 48 q78_14 HT_ (by kernel_rfl) ?_
    refine pz_ 3 51 q78_15 HT_ (by kernel_rfl) ?_
    refine pz_ 4 52 q78_16 HT_ (by kernel_rfl) ?_
    refine pz_ 7 55 q78_17 HT_ (by kernel_rfl) ?_
    refine pz_ 8 56 q78_18 HT_ (by kernel_rfl) ?_
    refine tz_ 1 49 q78_19 HT_ HW_ (by kernel_rfl) hHeld ?_
    refine tz_ 2 50 q78_20 HT_ HW_ (by kernel_rfl) hHeld ?_
    refine tz_ 5 53 q78_21 HT_ HW_ (by kernel_rfl) hHeld ?_
    refine pz_ 6 54 q78_22 HT_ (by kernel_rfl) ?_
    refine tz_ 9 57 q78_23 HT_ HW_ (by kernel_rfl) hHeld ?_
    refine pz_ 10 58 q78_24 HT_ (by kernel_rfl) ?_
    refine one_ (i := 11) (N := some 59) q78_25 rfl rfl (one_of HT_.out (by kernel_rfl)) (by decide) (fun K hK => ?_)
    refine goes_ Try.func95 (by kernel_rfl) rfl #[.agg #[.int .i64 a0_0, .int .i64 a0_1, .slice A0_2 l0_2.length c0_2], .int .i64 (Int.tmod b2 a0_0), .int .i64 (wrap64 (Int.tdiv b2 a0_0))] (by rfl) rfl rfl (by (try simp only [List.map_toArray, List.map_cons, List.map_nil]); first | done | rfl | (simp only [List.length_drop, List.length_take]; rfl)) ?_
    with_reducible refine (spec_l6Mean.calls k1 a0_0 a0_1 _ _ l0_2 (Int.tmod b2 a0_0) (wrap64 (Int.tdiv b2 a0_0)) g0 g1 g2 g3 _ ?side1 ?side2 A33.out).mono ?_
    (case side1 => repeat (first | exact (Kd.C_below HR0_2.out HB.out) | (with_reducible refine Kd.C_alloc ?_ _) | (with_reducible refine Kd.C_drewN ?_ _) | (with_reducible refine Kd.C_drew ?_)))
    (case side2 => exact HC0_2.out)
    rintro e w43 ⟨rfl, hb⟩; refine ⟨_, rfl, ?_⟩; have n0_ := yaa (Kd.R_below (upR a8.out) hb); have n1_ := yaa (yah (upB a9.out) hb); have n2_ := yaa (yah (upB b1.out) hb); have n3_ := yaa (yah (upB b3.out) hb); have n4_ := yaa (yah (upB b0.out) hb)
    have n5_ := yaa (below_step (by repeat (with_reducible first | exact HB.out | apply yae | apply yac | apply yad | refine yag ?_ (Aside0.out ‹_›))) hb)
    clear a8; clear a9; clear b1; clear b3; clear b0; clear HB; have a8 := n0_; have a9 := n1_; have b1 := n2_; have b3 := n3_; have b0 := n4_; have HB := n5_; clear n0_ n1_ n2_ n3_ n4_ n5_; (try clear hb); (try clear hb2); (try clear hk); (try clear hi)
    refine hK.out _ _ ⟨(yab b0.out 0).trans rfl, (yab b0.out 1).trans rfl, (yab b0.out 2).trans rfl, (yab a9.out 0).trans rfl, (yab a9.out 1).trans rfl, (yab a9.out 2).trans rfl⟩ (fun hHeld => ?_)
    clear hK K
    refine norm_ (a' := ?_) ?_ ?_
    rotate_left
    ·
     show Act.put _ (some 59) _ = _
     simp only [Act.put, List.setIfInBounds_toArray, List.set_cons_zero, List.set_cons_succ, i64_w, i32_w]
     rfl
    refine one_ (i := 12) (N := some 60) q78_26 rfl rfl (one_of HT_.out (by kernel_rfl)) (by decide) (fun K hK => ?_)
    refine value_ (w1 := ?_) (v := ?_) (by rfl) rfl ?_ ?_
    rotate_left 2
    ·
     go_simp
     constructor
     ·
      rfl
     ·
      rfl
    refine hK.out _ _ ⟨(yab (yaf b0.out _) 0).trans rfl, (yab (yaf b0.out _) 1).trans rfl, (yab (yaf b0.out _) 2).trans rfl, (yab (yaf a9.out _) 0).trans rfl, (yab (yaf a9.out _) 1).trans rfl, (yab (yaf a9.out _) 2).trans rfl⟩ (fun hHeld => ?_)
    clear hK K
    refine norm_ (a' := ?_) ?_ ?_
    rotate_left
    ·
     show Act.put _ (some 60) _ = _
     simp only [Act.put, List.setIfInBounds_toArray, List.set_cons_zero, List.set_cons_succ, i64_w, i32_w]
     rfl
    refine one_ (i := 13) (N := some 61) q78_27 rfl rfl (one_of HT_.out (by kernel_rfl)) (by decide) (fun K hK => ?_)
    refine Kd.R_append_step k36 (w0 := w) w.heap.size (by rfl) (.tmp 49) (.tmp 60) 23 36 (.agg #[(.int .i64 0), (.int .i64 0), (.int .i64 0), (.int .i64 0)]) 32 rfl Try.underlying23 info36 rfl (by decide) (by omega) u105002 b4 (⟨g0, g1, g2, g3⟩ : S36) [.int .i64 g0, .int .i64 g1, .int .i64 g2, .int .i64 g3] (fun _ => True) (fun _ => False) rfl rfl ?aP (fun _ hk => hk.elim) ?aF ?aO ?aB ?aS ?aL ?_
    (case aP => exact k36_mkM _ _ _ (⟨g0, g1, g2, g3⟩ : S36))
    (case aB => exact (by repeat (with_reducible first | exact HB.out | apply yae | apply yac | apply yad | refine yag ?_ (Aside0.out ‹_›))))
    (case aF => exact (fun _ _ => trivial))
    (case aO => exact (upR a8.out))
    (case aS => exact (below_size (by repeat (with_reducible first | exact HB.out | apply yae | apply yac | apply yad | refine yag ?_ (Aside0.out ‹_›)))))
    (case aL => have := LMc34.out; omega)
    intro C2 w44 ho hb hg hat
    rw [← Ny117.out] at ho
    replace a9 := yaa (blk_grown (upB a9.out) hg (Kd.R_ne a8.out a9.out (by decide))); replace b1 := yaa (blk_grown (upB b1.out) hg (Kd.R_ne a8.out b1.out (by decide))); replace b3 := yaa (blk_grown (upB b3.out) hg (Kd.R_ne a8.out b3.out (by decide))); replace b0 := yaa (blk_grown (upB b0.out) hg (Kd.R_ne a8.out b0.out (by decide))); replace HB := yaa (hb); have h5 := yaa (ho); clear a8; clear ho hb hg hat; obtain ⟨j7, j8, j9⟩ := Kd.R_slice h5.out
    (first | subst j9 | (injection j9 with f1_ f2_ f3_; have f4_ := f1_.symm; have f5_ := f3_.symm; clear f1_ f2_ f3_; subst f4_; subst f5_))
    refine hK.out _ _ ⟨(yab b0.out 0).trans rfl, (yab b0.out 1).trans rfl, (yab b0.out 2).trans rfl, (yab a9.out 0).trans rfl, (yab a9.out 1).trans rfl, (yab a9.out 2).trans rfl⟩ (fun hHeld => ?_)
    clear hK K
    refine norm_ (a' := ?_) ?_ ?_
    rotate_left
    ·
     show Act.put _ (some 61) _ = _
     simp only [Act.put, List.setIfInBounds_toArray, List.set_cons_zero, List.set_cons_succ, i64_w, i32_w]
     rfl
    refine pz_ 14 62 q78_28 HT_ (by kernel_rfl) ?_
    refine last_ (i := 15) (N := none) q78_29 rfl rfl (one_of HT_.out (by kernel_rfl)) (by decide) (fun K hK => ?_)
    have C3 : w44.cell? ⟨b8, 2, none⟩ = some (u105002) := (yab b0.out 2).trans rfl; have z0 := blk_frozen b0.out 2; have o5 := b5.out; have o6 := b6.out; have o7 := b7.out; have o8 := b9.out; have o9 := c0.out; have p0 := d0.out
    refine skip_ (w1 := ?_) (by rfl) rfl ?_ ?_
    rotate_left
    ·
     go_simp
     rfl
    refine hK.out _ _ ?_
    clear hK K
    refine done_ (done_of HT_.out (by kernel_rfl)) ?_
    try go_wp2
    go_roundg k1
    case measure => have := HK1.out; omega
    case rel => exact ⟨(wrap64 (b2 + 1)), (y117), (.slice j7 y117.length j8), (by first | rfl | (simp; done) | (simp [*]; done)), H', ⟨by have := HK1.out; omega⟩, ⟨by (with_reducible repeat (first | apply Kd.R_alloc | apply Kd.R_drewN | apply Kd.R_drew)); exact Kd.R_mono (Kd.R_far (p := ⟨b8, 2, none⟩) (Kd.R_types h5.out b0.out (by decide)) (fun _ hk => hk.2) (.slice j7 y117.length j8)) (fun _ hk => trivial)⟩, ⟨by repeat (with_reducible first | exact a9.out | refine oneB ?_ | refine blk_far ?_ b5.out _)⟩, ⟨by repeat (with_reducible first | exact b1.out | refine oneB ?_ | refine blk_far ?_ b6.out _)⟩, ⟨by repeat (with_reducible first | exact b3.out | refine oneB ?_ | refine blk_far ?_ b7.out _)⟩, ⟨by (repeat refine oneB ?_); refine blk_put (cs := #[.int .i64 a0_0, .int .i64 a0_1, u105002]) ?_ 2 _ rfl; exact upB b0.out⟩, ⟨by repeat (with_reducible first | exact HB.out | apply yae | apply yac | apply yad | refine yag ?_ (Aside0.out ‹_›))⟩⟩
   rw [if_neg c31] at H
   have j5 := beq_eq_false_iff_ne.mpr c31; have j6 := bne_iff_ne.mpr c31
   by_cases c47 : 0 ≤ b2
   rotate_left
   ·
    rw [if_neg c47] at H
    exact absurd H (by simp)
   rw [if_pos c47] at H
   replace c47 := decide_eq_true c47; obtain ⟨⟨g4, g5, g6, g7⟩, A48, H⟩ := bindA H; (try dsimp only at H)
   by_cases c49 : b4.length < 4398046511104
   rotate_left
   ·
    rw [if_neg c49] at H
    exact absurd H (by simp)
   rw [if_pos c49] at H
   have LMc49 := yaa c49; clear c49; obtain ⟨y125, hy125⟩ : ∃ y_ : List (S36), y_ = (b4 ++ [(⟨g4, g5, g6, g7⟩ : S36)]) := ⟨_, rfl⟩
   replace H : (spec_l6Each.l0 k1 (wrap64 (b2 + 1)) a0_0 a0_1 l0_2 a1_0 a1_1 a1_2 a1_3 a1_4 a0_0 a0_1 y125) = some (r1, r2, r3) := by first | (rw [hy125]; with_reducible exact H) | (have H2_ := (Option.bind_some _ _).symm.trans H; rw [hy125]; with_reducible exact H2_) | (have H2_ := (Option.bind_some _ _).symm.trans H; with_reducible exact H2_) | with_reducible exact H | (rw [hy125]; exact H) | exact H
   have Ny125 := yaa hy125; clear hy125; have H' := yaa H; clear H; have z1 := c2.out; have z2 := c5.out; have z3 := c3.out; have z4 := c8.out; have z5 := b5.out; have z6 := b9.out; obtain ⟨p1, p3, p4⟩ := cc3_ a9.out; obtain ⟨p5, p6, p7⟩ := cf3_ a9.out; have z7 := c9.out; have z8 := d1.out; have z9 := b6.out; have A0 := c0.out; obtain ⟨p8, p9, q0, q1, q2⟩ := cc5_ b1.out; obtain ⟨q3, q4, q5, q6, q7⟩ := cf5_ b1.out
   try go_wp2
   replace a8 := yaa (Kd.R_drew a8.out); replace a9 := yaa (blk_drew a9.out); replace b1 := yaa (blk_drew b1.out); replace b3 := yaa (blk_drew b3.out); replace b0 := yaa (blk_drew b0.out); replace HB := yaa (yad HB.out); have p120 : 0 ≤ (b2 : Int) := of_decide_eq_true (by assumption); have q120 : b2 < (l0_2.length : Int) := of_decide_eq_true (by assumption); obtain ⟨ad120, t7, e6, e7, e8, e9⟩ := at_T36 HR0_2.out b2 p120 q120; have d8 := e9; have d9 := e8; have e0 := e7; have e1 := e6
   cases t7
   replace e6 := (upc_ HB.out e6 :); replace e7 := (upc_ HB.out e7 :); replace e8 := (upc_ HB.out e8 :); replace e9 := (upc_ HB.out e9 :); replace p120 := eq_true p120; replace q120 := eq_true q120
   refine start_ (n := 13) (S := fun w' => w'.cell? ⟨b8, 0, none⟩ = some (.int .i64 a0_0) ∧ w'.cell? ⟨b8, 1, none⟩ = some (.int .i64 a0_1) ∧ w'.cell? ⟨b8, 2, none⟩ = some (u105002) ∧ w'.cell? ⟨c4, 0, none⟩ = some (.int .i64 a0_0) ∧ w'.cell? ⟨c4, 1, none⟩ = some (.int .i64 a0_1) ∧ w'.cell? ⟨c4, 2, none⟩ = some (.slice (some ad120) l0_2.length c0_2) ∧ w'.cell? ⟨d2, 0, none⟩ = some (.int .i64 a1_0) ∧ w'.cell? ⟨d2, 1, none⟩ = some (.int .i64 a1_1) ∧ w'.cell? ⟨d2, 2, none⟩ = some (.int .i64 a1_2) ∧ w'.cell? ⟨d2, 3, none⟩ = some (.int .i64 a1_3) ∧ w'.cell? ⟨d2, 4, none⟩ = some (.int .i64 a1_4) ∧ w'.cell? (ad120.add ((b2).toNat * 4)) = some (.int .i64 ((rd_T36 l0_2 b2).f0)) ∧ w'.cell? ⟨(ad120.add ((b2).toNat * 4)).block, (ad120.add ((b2).toNat * 4)).off + 1, none⟩ = some (.int .i64 ((rd_T36 l0_2 b2).f1)) ∧ w'.cell? ⟨(ad120.add ((b2).toNat * 4)).block, (ad120.add ((b2).toNat * 4)).off + 2, none⟩ = some (.int .i64 ((rd_T36 l0_2 b2).f2)) ∧ w'.cell? ⟨(ad120.add ((b2).toNat * 4)).block, (ad120.add ((b2).toNat * 4)).off + 3, none⟩ = some (.int .i64 ((rd_T36 l0_2 b2).f3))) (ds := [12]) q78_30 (by kernel_rfl) rfl rfl ⟨(yab b0.out 0).trans rfl, (yab b0.out 1).trans rfl, (yab b0.out 2).trans rfl, (yab a9.out 0).trans rfl, (yab a9.out 1).trans rfl, (yab a9.out 2).trans rfl, (yab b1.out 0).trans rfl, (yab b1.out 1).trans rfl, (yab b1.out 2).trans rfl, (yab b1.out 3).trans rfl, (yab b1.out 4).trans rfl, (upc_ HB.out e1 :), (upc_ HB.out e0 :), (upc_ HB.out d9 :), (upc_ HB.out d8 :)⟩ (fun hHeld => ?_); refine with_tabW spec_l6Each.tab6 spec_l6Each.bits6 (fun HT_ HW_ => ?_)
   generalize wr.drew = w57 at a8 a9 b1 b3 b0 HB e6 e7 e8 e9 hHeld ⊢
   refine pz_ 0 21 q78_31 HT_ (by kernel_rfl) ?_
   refine pz_ 2 23 q78_32 HT_ (by kernel_rfl) ?_
   refine pz_ 4 25 q78_33 HT_ (by kernel_rfl) ?_
   refine tz_ 1 22 q78_34 HT_ HW_ (by kernel_rfl) hHeld ?_
   refine tz_ 3 24 q78_35 HT_ HW_ (by kernel_rfl) hHeld ?_
   refine pz_ 5 26 q78_36 HT_ (by kernel_rfl) ?_
   refine tz_ 6 27 q78_37 HT_ HW_ (by kernel_rfl) hHeld ?_
   refine tz_ 7 28 q78_38 HT_ HW_ (by kernel_rfl) hHeld ?_
   refine one_ (i := 8) (N := some 29) q78_39 rfl rfl (one_of HT_.out (by kernel_rfl)) (by decide) (fun K hK => ?_)
   refine goes_ Try.func96 (by kernel_rfl) rfl #[.agg #[.int .i64 ((rd_T36 l0_2 b2).f0), .int .i64 ((rd_T36 l0_2 b2).f1), .int .i64 ((rd_T36 l0_2 b2).f2), .int .i64 ((rd_T36 l0_2 b2).f3)], .agg #[.int .i64 a1_0, .int .i64 a1_1, .int .i64 a1_2, .int .i64 a1_3, .int .i64 a1_4]] (by rfl) rfl rfl (by (try simp only [List.map_toArray, List.map_cons, List.map_nil]); first | done | rfl | (simp only [List.length_drop, List.length_take]; rfl)) ?_
   with_reducible refine (spec_l6Flat.calls ((rd_T36 l0_2 b2).f0) ((rd_T36 l0_2 b2).f1) ((rd_T36 l0_2 b2).f2) ((rd_T36 l0_2 b2).f3) a1_0 a1_1 a1_2 a1_3 a1_4 g4 g5 g6 g7 _ A48.out).mono ?_
   rintro e w58 ⟨rfl, hb⟩; refine ⟨_, rfl, ?_⟩; have n0_ := yaa (Kd.R_below (upR a8.out) hb); have n1_ := yaa (yah (upB a9.out) hb); have n2_ := yaa (yah (upB b1.out) hb); have n3_ := yaa (yah (upB b3.out) hb); have n4_ := yaa (yah (upB b0.out) hb)
   have n5_ := yaa (below_step (by repeat (with_reducible first | exact HB.out | apply yae | apply yac | apply yad | refine yag ?_ (Aside0.out ‹_›))) hb)
   clear a8; clear a9; clear b1; clear b3; clear b0; clear HB; have a8 := n0_; have a9 := n1_; have b1 := n2_; have b3 := n3_; have b0 := n4_; have HB := n5_; clear n0_ n1_ n2_ n3_ n4_ n5_; (try clear hb); (try clear hb2); (try clear hk); (try clear hi)
   refine hK.out _ _ ⟨(yab b0.out 0).trans rfl, (yab b0.out 1).trans rfl, (yab b0.out 2).trans rfl, (yab a9.out 0).trans rfl, (yab a9.out 1).trans rfl, (yab a9.out 2).trans rfl, (yab b1.out 0).trans rfl, (yab b1.out 1).trans rfl, (yab b1.out 2).trans rfl, (yab b1.out 3).trans rfl, (yab b1.out 4).trans rfl, (upc_ HB.out e1 :), (upc_ HB.out e0 :), (upc_ HB.out d9 :), (upc_ HB.out d8 :)⟩ (fun hHeld => ?_)
   clear hK K
   refine norm_ (a' := ?_) ?_ ?_
   rotate_left
   ·
    show Act.put _ (some 29) _ = _
    simp only [Act.put, List.setIfInBounds_toArray, List.set_cons_zero, List.set_cons_succ, i64_w, i32_w]
    rfl
   refine one_ (i := 9) (N := some 30) q78_40 rfl rfl (one_of HT_.out (by kernel_rfl)) (by decide) (fun K hK => ?_)
   refine value_ (w1 := ?_) (v := ?_) (by rfl) rfl ?_ ?_
   rotate_left 2
   ·
    go_simp
    constructor
    ·
     rfl
    ·
     rfl
   refine hK.out _ _ ⟨(yab (yaf b0.out _) 0).trans rfl, (yab (yaf b0.out _) 1).trans rfl, (yab (yaf b0.out _) 2).trans rfl, (yab (yaf a9.out _) 0).trans rfl, (yab (yaf a9.out _) 1).trans rfl, (yab (yaf a9.out _) 2).trans rfl, (yab (yaf b1.out _) 0).trans rfl, (yab (yaf b1.out _) 1).trans rfl, (yab (yaf b1.out _) 2).trans rfl, (yab (yaf b1.out _) 3).trans rfl, (yab (yaf b1.out _) 4).trans rfl, (World.cell?_alloc_lt _ _ _ (World.block_lt_of_cell? _ _ ((upc_ HB.out e1 :)))).trans ((upc_ HB.out e1 :)), (World.cell?_alloc_lt _ _ _ (World.block_lt_of_cell? _ _ ((upc_ HB.out e0 :)))).trans ((upc_ HB.out e0 :)), (World.cell?_alloc_lt _ _ _ (World.block_lt_of_cell? _ _ ((upc_ HB.out d9 :)))).trans ((upc_ HB.out d9 :)), (World.cell?_alloc_lt _ _ _ (World.block_lt_of_cell? _ _ ((upc_ HB.out d8 :)))).trans ((upc_ HB.out d8 :))⟩ (fun hHeld => ?_)
   clear hK K
   refine norm_ (a' := ?_) ?_ ?_
   rotate_left
   ·
    show Act.put _ (some 30) _ = _
    simp only [Act.put, List.setIfInBounds_toArray, List.set_cons_zero, List.set_cons_succ, i64_w, i32_w]
    rfl
   refine one_ (i := 10) (N := some 31) q78_41 rfl rfl (one_of HT_.out (by kernel_rfl)) (by decide) (fun K hK => ?_)
   refine Kd.R_append_step k36 (w0 := w) w.heap.size (by rfl) (.tmp 22) (.tmp 30) 23 36 (.agg #[(.int .i64 0), (.int .i64 0), (.int .i64 0), (.int .i64 0)]) 32 rfl Try.underlying23 info36 rfl (by decide) (by omega) u105002 b4 (⟨g4, g5, g6, g7⟩ : S36) [.int .i64 g4, .int .i64 g5, .int .i64 g6, .int .i64 g7] (fun _ => True) (fun _ => False) rfl rfl ?aP (fun _ hk => hk.elim) ?aF ?aO ?aB ?aS ?aL ?_
   (case aP => exact k36_mkM _ _ _ (⟨g4, g5, g6, g7⟩ : S36))
   (case aB => exact (by repeat (with_reducible first | exact HB.out | apply yae | apply yac | apply yad | refine yag ?_ (Aside0.out ‹_›))))
   (case aF => exact (fun _ _ => trivial))
   (case aO => exact (upR a8.out))
   (case aS => exact (below_size (by repeat (with_reducible first | exact HB.out | apply yae | apply yac | apply yad | refine yag ?_ (Aside0.out ‹_›)))))
   (case aL => have := LMc49.out; omega)
   intro C4 w59 ho hb hg hat
   rw [← Ny125.out] at ho
   replace a9 := yaa (blk_grown (upB a9.out) hg (Kd.R_ne a8.out a9.out (by decide))); replace b1 := yaa (blk_grown (upB b1.out) hg (Kd.R_ne a8.out b1.out (by decide))); replace b3 := yaa (blk_grown (upB b3.out) hg (Kd.R_ne a8.out b3.out (by decide))); replace b0 := yaa (blk_grown (upB b0.out) hg (Kd.R_ne a8.out b0.out (by decide))); replace HB := yaa (hb); have h6 := yaa (ho); clear a8; clear ho hb hg hat; obtain ⟨k0, k2, k3⟩ := Kd.R_slice h6.out
   (first | subst k3 | (injection k3 with f1_ f2_ f3_; have f4_ := f1_.symm; have f5_ := f3_.symm; clear f1_ f2_ f3_; subst f4_; subst f5_))
   refine hK.out _ _ ⟨(yab b0.out 0).trans rfl, (yab b0.out 1).trans rfl, (yab b0.out 2).trans rfl, (yab a9.out 0).trans rfl, (yab a9.out 1).trans rfl, (yab a9.out 2).trans rfl, (yab b1.out 0).trans rfl, (yab b1.out 1).trans rfl, (yab b1.out 2).trans rfl, (yab b1.out 3).trans rfl, (yab b1.out 4).trans rfl, (upc_ HB.out e1 :), (upc_ HB.out e0 :), (upc_ HB.out d9 :), (upc_ HB.out d8 :)⟩ (fun hHeld => ?_)
   clear hK K
   refine norm_ (a' := ?_) ?_ ?_
   rotate_left
   ·
    show Act.put _ (some 31) _ = _
    simp only [Act.put, List.setIfInBounds_toArray, List.set_cons_zero, List.set_cons_succ, i64_w, i32_w]
    rfl
   refine pz_ 11 32 q78_42 HT_ (by kernel_rfl) ?_
   refine last_ (i := 12) (N := none) q78_43 rfl rfl (one_of HT_.out (by kernel_rfl)) (by decide) (fun K hK => ?_)
   have C5 : w59.cell? ⟨b8, 2, none⟩ = some (u105002) := (yab b0.out 2).trans rfl; have A1 := blk_frozen b0.out 2; have q8 := b5.out; have q9 := b6.out; have r0 := b7.out; have r4 := b9.out; have r5 := c0.out; have r6 := d0.out
   refine skip_ (w1 := ?_) (by rfl) rfl ?_ ?_
   rotate_left
   ·
    go_simp
    rfl
   refine hK.out _ _ ?_
   clear hK K
   refine done_ (done_of HT_.out (by kernel_rfl)) ?_
   try go_wp2
   go_roundg k1
   case measure => have := HK1.out; omega
   case rel => exact ⟨(wrap64 (b2 + 1)), (y125), (.slice k0 y125.length k2), (by first | rfl | (simp; done) | (simp [*]; done)), H', ⟨by have := HK1.out; omega⟩, ⟨by (with_reducible repeat (first | apply Kd.R_alloc | apply Kd.R_drewN | apply Kd.R_drew)); exact Kd.R_mono (Kd.R_far (p := ⟨b8, 2, none⟩) (Kd.R_types h6.out b0.out (by decide)) (fun _ hk => hk.2) (.slice k0 y125.length k2)) (fun _ hk => trivial)⟩, ⟨by repeat (with_reducible first | exact a9.out | refine oneB ?_ | refine blk_far ?_ b5.out _)⟩, ⟨by repeat (with_reducible first | exact b1.out | refine oneB ?_ | refine blk_far ?_ b6.out _)⟩, ⟨by repeat (with_reducible first | exact b3.out | refine oneB ?_ | refine blk_far ?_ b7.out _)⟩, ⟨by (repeat refine oneB ?_); refine blk_put (cs := #[.int .i64 a0_0, .int .i64 a0_1, u105002]) ?_ 2 _ rfl; exact upB b0.out⟩, ⟨by repeat (with_reducible first | exact HB.out | apply yae | apply yac | apply yad | refine yag ?_ (Aside0.out ‹_›))⟩⟩
end
section
open Go.Proofs.YtoifpgkfpdeglaaW.PrintWords.Aside0 renaming mk → yaa
open Go.Proofs.YtoifpgkfpdeglaaW.PrintWords renaming pw_below_drewN → yab, below_alloc → yac, below_drew1 → yad, below_set → yae, blk_below → yaf, below_size → yag, below_step → yah
def spec_l6Do.j0 : Nat → Bool → Int → Int → List (S36) → Int → Int → Int → Int → Int → Option (Int × Int × (List (S36)) × Bool)
 | 0, _, _, _, _, _, _, _, _, _ => none
 | k + 1, x27, x102000, x102001, x102002, x103000, x103001, x103002, x103003, x103004 => if x27 = true then (some (0, 0, ([] : List (S36)), false)) else ((spec_l6Crop.f k x102000 x102001 x102002 x103000 x103001 x103002 x103003 x103004).bind fun bt104 => (some (bt104.1, bt104.2.1, bt104.2.2, true)))
def spec_l6Do.f (k : Nat) (a0_0 : Int) (a0_1 : Int) (l0_2 : List (S36)) (a1_0 : Int) (a1_1 : Int) (a1_2 : Int) (a1_3 : Int) (a1_4 : Int) : Option (Int × Int × (List (S36)) × Bool) := if a1_0 = 1 then (if (wrap64 (a1_1 + a1_3)) > a0_0 then (spec_l6Do.j0 k true a0_0 a0_1 l0_2 a1_0 a1_1 a1_2 a1_3 a1_4) else (spec_l6Do.j0 k (decide ((wrap64 (a1_2 + a1_4)) > a0_1)) a0_0 a0_1 l0_2 a1_0 a1_1 a1_2 a1_3 a1_4)) else (if a1_0 = 2 then ((spec_l6FlipX.f k a0_0 a0_1 l0_2).bind fun bt109 => (some (bt109.1, bt109.2.1, bt109.2.2, true))) else (if a1_0 = 3 then ((spec_l5Flip.f k a0_0 a0_1 l0_2).bind fun bt114 => (some (bt114.1, bt114.2.1, bt114.2.2, true))) else (if a1_0 = 4 then ((spec_l6Turn.f k a0_0 a0_1 l0_2).bind fun bt119 => (some (bt119.1, bt119.2.1, bt119.2.2, true))) else (if a1_0 = 7 then ((spec_l6Size.f k a0_0 a0_1 l0_2 a1_0 a1_1 a1_2 a1_3 a1_4).bind fun bt124 => (some (bt124.1, bt124.2.1, bt124.2.2, true))) else ((spec_l6Each.f k a0_0 a0_1 l0_2 a1_0 a1_1 a1_2 a1_3 a1_4).bind fun bt129 => (some (bt129.1, bt129.2.1, bt129.2.2, true)))))))
set_option maxHeartbeats 8000000 in
set_option maxRecDepth 100000 in
theorem spec_l6Do.calls (k : Nat) (a0_0 : Int) (a0_1 : Int) (A0_2 : Option Addr) (c0_2 : Nat) (l0_2 : List (S36)) (a1_0 : Int) (a1_1 : Int) (a1_2 : Int) (a1_3 : Int) (a1_4 : Int) (r1 : Int) (r2 : Int) (r3 : List (S36)) (r4 : Bool) (w : World) (hr0_2 : Kd.C k36 w A0_2 l0_2.length l0_2) (hc0_2 : l0_2.length ≤ c0_2) (h : spec_l6Do.f k a0_0 a0_1 l0_2 a1_0 a1_1 a1_2 a1_3 a1_4 = some (r1, r2, r3, r4)) :
  Calls Try.prog 39 #[.agg #[.int .i64 a0_0, .int .i64 a0_1, .slice A0_2 l0_2.length c0_2], .agg #[.int .i64 a1_0, .int .i64 a1_1, .int .i64 a1_2, .int .i64 a1_3, .int .i64 a1_4]] w fun e w' => ∃ v2_ : Value, e = .returned (.tuple #[.agg #[.int .i64 r1, .int .i64 r2, v2_], .bool r4]) ∧ Kd.R k36 36 w' w.heap.size (fun _ => True) v2_ r3 ∧ Below w.heap.size w w' := by
 have hu25 := Try.underlying25; have hu27 := Try.underlying27; have HR0_2 := yaa hr0_2; have HC0_2 := yaa hc0_2; clear hr0_2 hc0_2; have HB := yaa (Below.refl w.heap.size w); have H : (if a1_0 = 1 then (if (wrap64 (a1_1 + a1_3)) > a0_0 then (spec_l6Do.j0 k true a0_0 a0_1 l0_2 a1_0 a1_1 a1_2 a1_3 a1_4) else (spec_l6Do.j0 k (decide ((wrap64 (a1_2 + a1_4)) > a0_1)) a0_0 a0_1 l0_2 a1_0 a1_1 a1_2 a1_3 a1_4)) else (if a1_0 = 2 then ((spec_l6FlipX.f k a0_0 a0_1 l0_2).bind fun d7 => (some (d7.1, d7.2.1, d7.2.2, true))) else (if a1_0 = 3 then ((spec_l5Flip.f k a0_0 a0_1 l0_2).bind fun d8 => (some (d8.1, d8.2.1, d8.2.2, true))) else (if a1_0 = 4 then ((spec_l6Turn.f k a0_0 a0_1 l0_2).bind fun d9 => (some (d9.1, d9.2.1, d9.2.2, true))) else (if a1_0 = 7 then ((spec_l6Size.f k a0_0 a0_1 l0_2 a1_0 a1_1 a1_2 a1_3 a1_4).bind fun e0 => (some (e0.1, e0.2.1, e0.2.2, true))) else ((spec_l6Each.f k a0_0 a0_1 l0_2 a1_0 a1_1 a1_2 a1_3 a1_4).bind fun e1 => (some (e1.1, e1.2.1, e1.2.2, true)))))))) = some (r1, r2, r3, r4) := h; clear h
 by_cases c3 : a1_0 = 1
 ·
  rw [if_pos c3] at H
  have l0 := beq_iff_eq.mpr c3; have l1 := bne_eq_false_iff_eq.mpr c3; clear c3; have HC4 := yaa H; clear H
  go_enter Try.func39, Try.ntmps39
  go_upto_region 3 with (first | ((with_reducible refine gd_ 2 rfl ?_); refine bx_ 2 rfl #[.int .i64 a0_0, .int .i64 a0_1, .slice A0_2 l0_2.length c0_2] 25 ?_; intro b8 hg w5 hbox hb; have a8 := yaa (hbox); have c0 := yaa ((by rw [hg]; exact (yag (upH HB.out)) : w.heap.size ≤ b8)); replace HB := yaa (yah (upH HB.out) hb); have d1 := c0; clear hb hbox hg) | ((with_reducible refine gd_ 3 rfl ?_); refine bx_ 3 rfl #[.int .i64 a1_0, .int .i64 a1_1, .int .i64 a1_2, .int .i64 a1_3, .int .i64 a1_4] 27 ?_; intro b9 hg w6 hbox hb; have a9 := yaa (hbox); have c4 := yaa ((by rw [hg]; exact (yag (by repeat (with_reducible first | exact HB.out | apply yac | apply yab | apply yad | refine yae ?_ (Aside0.out ‹_›)))) : w.heap.size ≤ b9)); replace HB := yaa (yah (by repeat (with_reducible first | exact HB.out | apply yac | apply yab | apply yad | refine yae ?_ (Aside0.out ‹_›))) hb); have d2 := c4; have b2 := yaa ((by rw [hg]; exact Nat.ne_of_lt (blk_lt (upB a8.out)) : b8 ≠ b9)); replace a8 := yaa (yaf (upB a8.out) hb); have b6 := yaa b2.out.symm; clear hb hbox hg) | ((with_reducible refine gd_ 4 rfl ?_); refine bx_ 4 rfl #[.int .i64 0, .int .i64 0, .slice none 0 0] 25 ?_; intro b1 hg w7 hbox hb; have b4 := yaa (hbox); have c5 := yaa ((by rw [hg]; exact (yag (by repeat (with_reducible first | exact HB.out | apply yac | apply yab | apply yad | refine yae ?_ (Aside0.out ‹_›)))) : w.heap.size ≤ b1)); replace HB := yaa (yah (by repeat (with_reducible first | exact HB.out | apply yac | apply yab | apply yad | refine yae ?_ (Aside0.out ‹_›))) hb); have d3 := c5; have b3 := yaa ((by rw [hg]; exact Nat.ne_of_lt (blk_lt (upB a8.out)) : b8 ≠ b1)); replace a8 := yaa (yaf (upB a8.out) hb); have b7 := yaa b3.out.symm; have b0 := yaa ((by rw [hg]; exact Nat.ne_of_lt (blk_lt (upB a9.out)) : b9 ≠ b1)); replace a9 := yaa (yaf (upB a9.out) hb); have b5 := yaa b0.out.symm; clear hb hbox hg; have I6 := b6.out; have I7 := b2.out; have I8 := b0.out; have I9 := b5.out; obtain ⟨e8, e9, f0, f1, f2⟩ := cc5_ a9.out; obtain ⟨f3, f4, f5, f6⟩ := cf4_ a9.out; have f7 := blk_frozen a9.out 4))
  (try simp only [Act.put, List.setIfInBounds_toArray, List.set_cons_zero, List.set_cons_succ])
  go_cut [27] (fun v27 wc => ∃ (kq : Nat) (d6 : Bool), v27 = .bool d6 ∧ Aside0 (spec_l6Do.j0 kq d6 a0_0 a0_1 l0_2 a1_0 a1_1 a1_2 a1_3 a1_4 = some (r1, r2, r3, r4)) ∧ Aside0 (kq ≤ k) ∧ Aside0 (wc.heap[b8]? = some (.cells #[.int .i64 a0_0, .int .i64 a0_1, (.slice A0_2 l0_2.length c0_2)] 25 (0, 0))) ∧ Aside0 (wc.heap[b9]? = some (.cells #[.int .i64 a1_0, .int .i64 a1_1, .int .i64 a1_2, .int .i64 a1_3, .int .i64 a1_4] 27 (0, 0))) ∧ Aside0 (wc.heap[b1]? = some (.cells #[.int .i64 0, .int .i64 0, (.slice none 0 0)] 25 (0, 0))) ∧ Aside0 (Below w.heap.size w wc))
  case first =>
   have H := HC4.out; clear HC4
   by_cases c11 : (wrap64 (a1_1 + a1_3)) > a0_0
   ·
    rw [if_pos c11] at H
    have c7 : decide (a0_0 < (wrap64 (a1_1 + a1_3))) = true := decide_eq_true c11; clear c11
    (first | rw [c7] | (simp only [i64_w, i32_w]; rw [c7]) | skip)
    have H' := yaa H; clear H; have D4 := b6.out; have D5 := b2.out; have D6 := b0.out; have D7 := b5.out; obtain ⟨f8, f9, g0, g1, g2⟩ := cc5_ a9.out; obtain ⟨g3, g4, g5, g6, g7⟩ := cf5_ a9.out; have D8 := b3.out; have D9 := b7.out; obtain ⟨g8, g9, h0⟩ := cc3_ a8.out; obtain ⟨h1, h2, h3⟩ := cf3_ a8.out
    go_wp2
    go_meet
    case rel => exact ⟨_, (true), (by first | rfl | (simp; done) | (simp [*]; done)), H', ⟨by first | omega | exact Nat.le_refl _⟩, ⟨by exact upB a8.out⟩, ⟨by exact upB a9.out⟩, ⟨by exact upB b4.out⟩, ⟨by repeat (with_reducible first | exact HB.out | apply yac | apply yab | apply yad | refine yae ?_ (Aside0.out ‹_›))⟩⟩
   rw [if_neg c11] at H
   have c7 : decide (a0_0 < (wrap64 (a1_1 + a1_3))) = false := decide_eq_false c11; clear c11
   (first | rw [c7] | (simp only [i64_w, i32_w]; rw [c7]) | skip)
   have H' := yaa H; clear H; have E0 := b6.out; have E1 := b2.out; have E2 := b0.out; have E3 := b5.out; obtain ⟨h4, h5, h6, h7, h8⟩ := cc5_ a9.out; obtain ⟨h9, i0, i1, i2, i3⟩ := cf5_ a9.out; have E4 := b3.out; have E5 := b7.out; obtain ⟨i4, i5, i6⟩ := cc3_ a8.out; obtain ⟨i7, i8, i9⟩ := cf3_ a8.out
   go_wp2
   go_meet
   case rel => exact ⟨_, (decide ((wrap64 (a1_2 + a1_4)) > a0_1)), (by first | rfl | (simp; done) | (simp [*]; done)), H', ⟨by first | omega | exact Nat.le_refl _⟩, ⟨by exact upB a8.out⟩, ⟨by exact upB a9.out⟩, ⟨by exact upB b4.out⟩, ⟨by repeat (with_reducible first | exact HB.out | apply yac | apply yab | apply yad | refine yae ?_ (Aside0.out ‹_›))⟩⟩
  case rest =>
   clear HC4; (try clear c1); (try clear c2); (try clear p2); (try clear c3); (try clear l0); (try clear l1); (try clear p6); (try clear c8); (try clear c9); (try clear c11); (try clear c7); (try clear c12); (try clear c13); (try clear c15); (try clear c17); (try clear c18); (try clear c20); (try clear e8); (try clear e9); (try clear f0); (try clear f1); (try clear f2); (try clear f8); (try clear f9); (try clear g0); (try clear g1); (try clear g2); (try clear g8); (try clear g9); (try clear h0); (try clear h4); (try clear h5); (try clear h6); (try clear h7); (try clear h8); (try clear i4); (try clear i5); (try clear i6); (try clear f3); (try clear f4); (try clear f5); (try clear f6); (try clear f7); (try clear g3); (try clear g4); (try clear g5); (try clear g6); (try clear g7); (try clear h1); (try clear h2); (try clear h3); (try clear h9); (try clear i0); (try clear i1); (try clear i2); (try clear i3); (try clear i7); (try clear i8); (try clear i9); obtain ⟨kq, d6, rfl, HA, HJ3, a8, a9, b4, HB⟩ := hcut
   cases kq with
   | zero => exact absurd HA.out (by simp [spec_l6Do.j0])
   | succ kj3 =>
    have H := HA.out; clear HA
    simp only [spec_l6Do.j0] at H
    by_cases c22 : d6 = true
    ·
     subst c22
     rw [if_pos rfl] at H
     simp only [Option.some.injEq, Prod.mk.injEq] at H
     obtain ⟨rfl, rfl, rfl, rfl⟩ := H; have E6 := b7.out; have E7 := b3.out; have E8 := b5.out; have E9 := b0.out; obtain ⟨n2, n3, n4⟩ := cc3_ b4.out; obtain ⟨n5, n6, n7⟩ := cf3_ b4.out
     go_wp2
     refine bodyPost_ret (results_ct rfl _ _ b1 25 #[.int .i64 0, .int .i64 0, .slice none 0 0] (0, 0) _ rfl (by (repeat refine oneB ?_); refine blk_put (cs := #[.int .i64 0, .int .i64 0, .slice none 0 0]) ?_ 2 _ rfl; refine blk_put (cs := #[.int .i64 0, .int .i64 0, .slice none 0 0]) ?_ 1 _ rfl; refine blk_put (cs := #[.int .i64 0, .int .i64 0, .slice none 0 0]) ?_ 0 _ rfl; exact upB b4.out) Try.underlying25 rfl (by kernel_rfl)) rfl ?_
     exact ⟨_, by first | rfl | (simp [*, errW_none, errW_some] <;> rfl), by first | exact Kd.R_nil _ _ _ _ _ | exact Kd.N_nil _ _ _ _ _ | exact Kd.V_nil _ _ _ _ _ | exact Kd.Q_nil _ _ _ _ _ | exact Kd.S_nil _ _ _ _ _, by repeat (with_reducible first | exact HB.out | apply yac | apply yab | apply yad | refine yae ?_ (Aside0.out ‹_›))⟩
    replace c22 := Bool.eq_false_iff.mpr c22
    subst c22
    rw [if_neg (show ¬ (false = true) by decide)] at H
    obtain ⟨⟨e2, j1, k4⟩, A26, H⟩ := bindA H; (try dsimp only at H)
    simp only [Option.some.injEq, Prod.mk.injEq] at H
    obtain ⟨rfl, rfl, rfl, rfl⟩ := H; have F0 := b2.out; have F1 := b6.out; have F2 := b3.out; have F3 := b7.out; obtain ⟨n8, n9, o0⟩ := cc3_ a8.out; obtain ⟨o1, o2, o3⟩ := cf3_ a8.out; have F4 := b0.out; have F5 := b5.out; obtain ⟨o4, o5, o6, o7, o8⟩ := cc5_ a9.out; obtain ⟨o9, p0, p1, p3, p4⟩ := cf5_ a9.out
    go_wp2_with (first | ((with_reducible refine gc_ 73 rfl ?_); refine gl_ (some 31) rfl Try.func73 #[.agg #[.int .i64 a0_0, .int .i64 a0_1, .slice A0_2 l0_2.length c0_2], .agg #[.int .i64 a1_0, .int .i64 a1_1, .int .i64 a1_2, .int .i64 a1_3, .int .i64 a1_4]] ?_; (with_reducible refine (spec_l6Crop.calls kj3 a0_0 a0_1 _ _ l0_2 a1_0 a1_1 a1_2 a1_3 a1_4 e2 j1 k4 _ ?side1 ?side2 A26.out).mono ?_); (case side1 => repeat (first | exact (Kd.C_below HR0_2.out HB.out) | (with_reducible refine Kd.C_alloc ?_ _) | (with_reducible refine Kd.C_drewN ?_ _) | (with_reducible refine Kd.C_drew ?_))); (case side2 => exact HC0_2.out); rintro e w32 ⟨J1, rfl, ho0, hb⟩; refine ⟨_, rfl, ?_⟩; have j8 := yaa (Kd.R_lower ho0 (yag (by repeat (with_reducible first | exact HB.out | apply yac | apply yab | apply yad | refine yae ?_ (Aside0.out ‹_›))))); replace a8 := yaa (yaf (upB a8.out) hb); replace a9 := yaa (yaf (upB a9.out) hb); replace b4 := yaa (yaf (upB b4.out) hb); replace HB := yaa (yah (by repeat (with_reducible first | exact HB.out | apply yac | apply yab | apply yad | refine yae ?_ (Aside0.out ‹_›))) hb); (try clear hb ho0); obtain ⟨p5, p7, p8⟩ := cc3_ b4.out; obtain ⟨p9, q0, q1⟩ := cf3_ b4.out; obtain ⟨l2, l3, C8⟩ := Kd.R_slice j8.out; subst C8))
    refine bodyPost_ret (results_ct rfl _ _ b1 25 #[.int .i64 e2, .int .i64 j1, .slice l2 k4.length l3] (0, 0) _ rfl (by (repeat refine oneB ?_); refine blk_put (cs := #[.int .i64 e2, .int .i64 j1, .slice none 0 0]) ?_ 2 _ rfl; refine blk_put (cs := #[.int .i64 e2, .int .i64 0, .slice none 0 0]) ?_ 1 _ rfl; refine blk_put (cs := #[.int .i64 0, .int .i64 0, .slice none 0 0]) ?_ 0 _ rfl; exact upB b4.out) Try.underlying25 rfl (by kernel_rfl)) rfl ?_
    exact ⟨_, by first | rfl | (simp [*, errW_none, errW_some] <;> rfl), by (with_reducible repeat (first | apply Kd.R_alloc | apply Kd.R_drewN | apply Kd.R_drew)); exact Kd.R_mono (Kd.R_far (p := ⟨b1, 2, none⟩) (Kd.R_far (p := ⟨b1, 1, none⟩) (Kd.R_far (p := ⟨b1, 0, none⟩) (Kd.R_types j8.out b4.out (by decide)) (fun _ hk => hk.2) (.int .i64 e2)) (fun _ hk => hk.2) (.int .i64 j1)) (fun _ hk => hk.2) (.slice l2 k4.length l3)) (fun _ hk => trivial), by repeat (with_reducible first | exact HB.out | apply yac | apply yab | apply yad | refine yae ?_ (Aside0.out ‹_›))⟩
 rw [if_neg c3] at H
 have l0 := beq_eq_false_iff_ne.mpr c3; have l1 := bne_iff_ne.mpr c3
 by_cases c35 : a1_0 = 2
 ·
  rw [if_pos c35] at H
  have l4 := beq_iff_eq.mpr c35; have l5 := bne_eq_false_iff_eq.mpr c35; clear c35; obtain ⟨⟨e3, j2, k5⟩, A36, H⟩ := bindA H; (try dsimp only at H)
  simp only [Option.some.injEq, Prod.mk.injEq] at H
  obtain ⟨rfl, rfl, rfl, rfl⟩ := H
  go_enter Try.func39, Try.ntmps39
  go_wp2_with (first | ((with_reducible refine gd_ 2 rfl ?_); refine bx_ 2 rfl #[.int .i64 a0_0, .int .i64 a0_1, .slice A0_2 l0_2.length c0_2] 25 ?_; intro b8 hg w37 hbox hb; have a8 := yaa (hbox); have c0 := yaa ((by rw [hg]; exact (yag (upH HB.out)) : w.heap.size ≤ b8)); replace HB := yaa (yah (upH HB.out) hb); have d1 := c0; clear hb hbox hg) | ((with_reducible refine gd_ 3 rfl ?_); refine bx_ 3 rfl #[.int .i64 a1_0, .int .i64 a1_1, .int .i64 a1_2, .int .i64 a1_3, .int .i64 a1_4] 27 ?_; intro b9 hg w38 hbox hb; have a9 := yaa (hbox); have c4 := yaa ((by rw [hg]; exact (yag (by repeat (with_reducible first | exact HB.out | apply yac | apply yab | apply yad | refine yae ?_ (Aside0.out ‹_›)))) : w.heap.size ≤ b9)); replace HB := yaa (yah (by repeat (with_reducible first | exact HB.out | apply yac | apply yab | apply yad | refine yae ?_ (Aside0.out ‹_›))) hb); have d2 := c4; have b2 := yaa ((by rw [hg]; exact Nat.ne_of_lt (blk_lt (upB a8.out)) : b8 ≠ b9)); replace a8 := yaa (yaf (upB a8.out) hb); have b6 := yaa b2.out.symm; clear hb hbox hg) | ((with_reducible refine gd_ 4 rfl ?_); refine bx_ 4 rfl #[.int .i64 0, .int .i64 0, .slice none 0 0] 25 ?_; intro b1 hg w39 hbox hb; have b4 := yaa (hbox); have c5 := yaa ((by rw [hg]; exact (yag (by repeat (with_reducible first | exact HB.out | apply yac | apply yab | apply yad | refine yae ?_ (Aside0.out ‹_›)))) : w.heap.size ≤ b1)); replace HB := yaa (yah (by repeat (with_reducible first | exact HB.out | apply yac | apply yab | apply yad | refine yae ?_ (Aside0.out ‹_›))) hb); have d3 := c5; have b3 := yaa ((by rw [hg]; exact Nat.ne_of_lt (blk_lt (upB a8.out)) : b8 ≠ b1)); replace a8 := yaa (yaf (upB a8.out) hb); have b7 := yaa b3.out.symm; have b0 := yaa ((by rw [hg]; exact Nat.ne_of_lt (blk_lt (upB a9.out)) : b9 ≠ b1)); replace a9 := yaa (yaf (upB a9.out) hb); have b5 := yaa b0.out.symm; clear hb hbox hg; have F6 := b6.out; have F7 := b2.out; have F8 := b0.out; have F9 := b5.out; obtain ⟨q2, q3, q4, q5, q6⟩ := cc5_ a9.out; obtain ⟨q7, q8, q9, r0, r5⟩ := cf5_ a9.out; have G0 := b3.out; have G1 := b7.out; obtain ⟨r6, r7, r8⟩ := cc3_ a8.out; obtain ⟨r9, s0⟩ := cf2_ a8.out; have s1 := blk_frozen a8.out 2) | ((with_reducible refine gc_ 74 rfl ?_); refine gl_ (some 35) rfl Try.func74 #[.agg #[.int .i64 a0_0, .int .i64 a0_1, .slice A0_2 l0_2.length c0_2]] ?_; (with_reducible refine (spec_l6FlipX.calls k a0_0 a0_1 _ _ l0_2 e3 j2 k5 _ ?side1 ?side2 A36.out).mono ?_); (case side1 => repeat (first | exact (Kd.C_below HR0_2.out HB.out) | (with_reducible refine Kd.C_alloc ?_ _) | (with_reducible refine Kd.C_drewN ?_ _) | (with_reducible refine Kd.C_drew ?_))); (case side2 => exact HC0_2.out); rintro e w45 ⟨J2, rfl, ho0, hb⟩; refine ⟨_, rfl, ?_⟩; have j9 := yaa (Kd.R_lower ho0 (yag (by repeat (with_reducible first | exact HB.out | apply yac | apply yab | apply yad | refine yae ?_ (Aside0.out ‹_›))))); replace a8 := yaa (yaf (upB a8.out) hb); replace a9 := yaa (yaf (upB a9.out) hb); replace b4 := yaa (yaf (upB b4.out) hb); replace HB := yaa (yah (by repeat (with_reducible first | exact HB.out | apply yac | apply yab | apply yad | refine yae ?_ (Aside0.out ‹_›))) hb); (try clear hb ho0); obtain ⟨s2, s3, s4⟩ := cc3_ b4.out; obtain ⟨s5, s6, s7⟩ := cf3_ b4.out; obtain ⟨l6, l7, C9⟩ := Kd.R_slice j9.out; subst C9))
  refine bodyPost_ret (results_ct rfl _ _ b1 25 #[.int .i64 e3, .int .i64 j2, .slice l6 k5.length l7] (0, 0) _ rfl (by (repeat refine oneB ?_); refine blk_put (cs := #[.int .i64 e3, .int .i64 j2, .slice none 0 0]) ?_ 2 _ rfl; refine blk_put (cs := #[.int .i64 e3, .int .i64 0, .slice none 0 0]) ?_ 1 _ rfl; refine blk_put (cs := #[.int .i64 0, .int .i64 0, .slice none 0 0]) ?_ 0 _ rfl; exact upB b4.out) Try.underlying25 rfl (by kernel_rfl)) rfl ?_
  exact ⟨_, by first | rfl | (simp [*, errW_none, errW_some] <;> rfl), by (with_reducible repeat (first | apply Kd.R_alloc | apply Kd.R_drewN | apply Kd.R_drew)); exact Kd.R_mono (Kd.R_far (p := ⟨b1, 2, none⟩) (Kd.R_far (p := ⟨b1, 1, none⟩) (Kd.R_far (p := ⟨b1, 0, none⟩) (Kd.R_types j9.out b4.out (by decide)) (fun _ hk => hk.2) (.int .i64 e3)) (fun _ hk => hk.2) (.int .i64 j2)) (fun _ hk => hk.2) (.slice l6 k5.length l7)) (fun _ hk => trivial), by repeat (with_reducible first | exact HB.out | apply yac | apply yab | apply yad | refine yae ?_ (Aside0.out ‹_›))⟩
 rw [if_neg c35] at H
 have l4 := beq_eq_false_iff_ne.mpr c35; have l5 := bne_iff_ne.mpr c35
 by_cases c48 : a1_0 = 3
 ·
  rw [if_pos c48] at H
  have l8 := beq_iff_eq.mpr c48; have l9 := bne_eq_false_iff_eq.mpr c48; clear c48; obtain ⟨⟨e4, j4, k6⟩, A49, H⟩ := bindA H; (try dsimp only at H)
  simp only [Option.some.injEq, Prod.mk.injEq] at H
  obtain ⟨rfl, rfl, rfl, rfl⟩ := H
  go_enter Try.func39, Try.ntmps39
  go_wp2_with (first | ((with_reducible refine gd_ 2 rfl ?_); refine bx_ 2 rfl #[.int .i64 a0_0, .int .i64 a0_1, .slice A0_2 l0_2.length c0_2] 25 ?_; intro b8 hg w50 hbox hb; have a8 := yaa (hbox); have c0 := yaa ((by rw [hg]; exact (yag (upH HB.out)) : w.heap.size ≤ b8)); replace HB := yaa (yah (upH HB.out) hb); have d1 := c0; clear hb hbox hg) | ((with_reducible refine gd_ 3 rfl ?_); refine bx_ 3 rfl #[.int .i64 a1_0, .int .i64 a1_1, .int .i64 a1_2, .int .i64 a1_3, .int .i64 a1_4] 27 ?_; intro b9 hg w51 hbox hb; have a9 := yaa (hbox); have c4 := yaa ((by rw [hg]; exact (yag (by repeat (with_reducible first | exact HB.out | apply yac | apply yab | apply yad | refine yae ?_ (Aside0.out ‹_›)))) : w.heap.size ≤ b9)); replace HB := yaa (yah (by repeat (with_reducible first | exact HB.out | apply yac | apply yab | apply yad | refine yae ?_ (Aside0.out ‹_›))) hb); have d2 := c4; have b2 := yaa ((by rw [hg]; exact Nat.ne_of_lt (blk_lt (upB a8.out)) : b8 ≠ b9)); replace a8 := yaa (yaf (upB a8.out) hb); have b6 := yaa b2.out.symm; clear hb hbox hg) | ((with_reducible refine gd_ 4 rfl ?_); refine bx_ 4 rfl #[.int .i64 0, .int .i64 0, .slice none 0 0] 25 ?_; intro b1 hg w52 hbox hb; have b4 := yaa (hbox); have c5 := yaa ((by rw [hg]; exact (yag (by repeat (with_reducible first | exact HB.out | apply yac | apply yab | apply yad | refine yae ?_ (Aside0.out ‹_›)))) : w.heap.size ≤ b1)); replace HB := yaa (yah (by repeat (with_reducible first | exact HB.out | apply yac | apply yab | apply yad | refine yae ?_ (Aside0.out ‹_›))) hb); have d3 := c5; have b3 := yaa ((by rw [hg]; exact Nat.ne_of_lt (blk_lt (upB a8.out)) : b8 ≠ b1)); replace a8 := yaa (yaf (upB a8.out) hb); have b7 := yaa b3.out.symm; have b0 := yaa ((by rw [hg]; exact Nat.ne_of_lt (blk_lt (upB a9.out)) : b9 ≠ b1)); replace a9 := yaa (yaf (upB a9.out) hb); have b5 := yaa b0.out.symm; clear hb hbox hg; have G2 := b6.out; have G3 := b2.out; have G4 := b0.out; have G5 := b5.out; obtain ⟨s8, s9, t0, t1, t2⟩ := cc5_ a9.out; obtain ⟨t3, t4, t5, t6, t7⟩ := cf5_ a9.out; have G6 := b3.out; have G7 := b7.out; obtain ⟨t8, t9, u0⟩ := cc3_ a8.out; obtain ⟨u1, u2⟩ := cf2_ a8.out; have u3 := blk_frozen a8.out 2) | ((with_reducible refine gc_ 75 rfl ?_); refine gl_ (some 39) rfl Try.func75 #[.agg #[.int .i64 a0_0, .int .i64 a0_1, .slice A0_2 l0_2.length c0_2]] ?_; (with_reducible refine (spec_l5Flip.calls k a0_0 a0_1 _ _ l0_2 e4 j4 k6 _ ?side1 ?side2 A49.out).mono ?_); (case side1 => repeat (first | exact (Kd.C_below HR0_2.out HB.out) | (with_reducible refine Kd.C_alloc ?_ _) | (with_reducible refine Kd.C_drewN ?_ _) | (with_reducible refine Kd.C_drew ?_))); (case side2 => exact HC0_2.out); rintro e w58 ⟨J3, rfl, ho0, hb⟩; refine ⟨_, rfl, ?_⟩; have k0 := yaa (Kd.R_lower ho0 (yag (by repeat (with_reducible first | exact HB.out | apply yac | apply yab | apply yad | refine yae ?_ (Aside0.out ‹_›))))); replace a8 := yaa (yaf (upB a8.out) hb); replace a9 := yaa (yaf (upB a9.out) hb); replace b4 := yaa (yaf (upB b4.out) hb); replace HB := yaa (yah (by repeat (with_reducible first | exact HB.out | apply yac | apply yab | apply yad | refine yae ?_ (Aside0.out ‹_›))) hb); (try clear hb ho0); obtain ⟨u4, u5, u6⟩ := cc3_ b4.out; obtain ⟨u7, u8, u9⟩ := cf3_ b4.out; obtain ⟨m0, m1, D0⟩ := Kd.R_slice k0.out; subst D0))
  refine bodyPost_ret (results_ct rfl _ _ b1 25 #[.int .i64 e4, .int .i64 j4, .slice m0 k6.length m1] (0, 0) _ rfl (by (repeat refine oneB ?_); refine blk_put (cs := #[.int .i64 e4, .int .i64 j4, .slice none 0 0]) ?_ 2 _ rfl; refine blk_put (cs := #[.int .i64 e4, .int .i64 0, .slice none 0 0]) ?_ 1 _ rfl; refine blk_put (cs := #[.int .i64 0, .int .i64 0, .slice none 0 0]) ?_ 0 _ rfl; exact upB b4.out) Try.underlying25 rfl (by kernel_rfl)) rfl ?_
  exact ⟨_, by first | rfl | (simp [*, errW_none, errW_some] <;> rfl), by (with_reducible repeat (first | apply Kd.R_alloc | apply Kd.R_drewN | apply Kd.R_drew)); exact Kd.R_mono (Kd.R_far (p := ⟨b1, 2, none⟩) (Kd.R_far (p := ⟨b1, 1, none⟩) (Kd.R_far (p := ⟨b1, 0, none⟩) (Kd.R_types k0.out b4.out (by decide)) (fun _ hk => hk.2) (.int .i64 e4)) (fun _ hk => hk.2) (.int .i64 j4)) (fun _ hk => hk.2) (.slice m0 k6.length m1)) (fun _ hk => trivial), by repeat (with_reducible first | exact HB.out | apply yac | apply yab | apply yad | refine yae ?_ (Aside0.out ‹_›))⟩
 rw [if_neg c48] at H
 have l8 := beq_eq_false_iff_ne.mpr c48; have l9 := bne_iff_ne.mpr c48
 by_cases c61 : a1_0 = 4
 ·
  rw [if_pos c61] at H
  have m2 := beq_iff_eq.mpr c61; have m3 := bne_eq_false_iff_eq.mpr c61; clear c61; obtain ⟨⟨e5, j5, k7⟩, A62, H⟩ := bindA H; (try dsimp only at H)
  simp only [Option.some.injEq, Prod.mk.injEq] at H
  obtain ⟨rfl, rfl, rfl, rfl⟩ := H
  go_enter Try.func39, Try.ntmps39
  go_wp2_with (first | ((with_reducible refine gd_ 2 rfl ?_); refine bx_ 2 rfl #[.int .i64 a0_0, .int .i64 a0_1, .slice A0_2 l0_2.length c0_2] 25 ?_; intro b8 hg w63 hbox hb; have a8 := yaa (hbox); have c0 := yaa ((by rw [hg]; exact (yag (upH HB.out)) : w.heap.size ≤ b8)); replace HB := yaa (yah (upH HB.out) hb); have d1 := c0; clear hb hbox hg) | ((with_reducible refine gd_ 3 rfl ?_); refine bx_ 3 rfl #[.int .i64 a1_0, .int .i64 a1_1, .int .i64 a1_2, .int .i64 a1_3, .int .i64 a1_4] 27 ?_; intro b9 hg w64 hbox hb; have a9 := yaa (hbox); have c4 := yaa ((by rw [hg]; exact (yag (by repeat (with_reducible first | exact HB.out | apply yac | apply yab | apply yad | refine yae ?_ (Aside0.out ‹_›)))) : w.heap.size ≤ b9)); replace HB := yaa (yah (by repeat (with_reducible first | exact HB.out | apply yac | apply yab | apply yad | refine yae ?_ (Aside0.out ‹_›))) hb); have d2 := c4; have b2 := yaa ((by rw [hg]; exact Nat.ne_of_lt (blk_lt (upB a8.out)) : b8 ≠ b9)); replace a8 := yaa (yaf (upB a8.out) hb); have b6 := yaa b2.out.symm; clear hb hbox hg) | ((with_reducible refine gd_ 4 rfl ?_); refine bx_ 4 rfl #[.int .i64 0, .int .i64 0, .slice none 0 0] 25 ?_; intro b1 hg w65 hbox hb; have b4 := yaa (hbox); have c5 := yaa ((by rw [hg]; exact (yag (by repeat (with_reducible first | exact HB.out | apply yac | apply yab | apply yad | refine yae ?_ (Aside0.out ‹_›)))) : w.heap.size ≤ b1)); replace HB := yaa (yah (by repeat (with_reducible first | exact HB.out | apply yac | apply yab | apply yad | refine yae ?_ (Aside0.out ‹_›))) hb); have d3 := c5; have b3 := yaa ((by rw [hg]; exact Nat.ne_of_lt (blk_lt (upB a8.out)) : b8 ≠ b1)); replace a8 := yaa (yaf (upB a8.out) hb); have b7 := yaa b3.out.symm; have b0 := yaa ((by rw [hg]; exact Nat.ne_of_lt (blk_lt (upB a9.out)) : b9 ≠ b1)); replace a9 := yaa (yaf (upB a9.out) hb); have b5 := yaa b0.out.symm; clear hb hbox hg; have G8 := b6.out; have G9 := b2.out; have H0 := b0.out; have H1 := b5.out; obtain ⟨v0, v1, v2, v3, v4⟩ := cc5_ a9.out; obtain ⟨v5, v6, v7, v8, v9⟩ := cf5_ a9.out; have H2 := b3.out; have H3 := b7.out; obtain ⟨w0, w1, w2⟩ := cc3_ a8.out; obtain ⟨w3, w4⟩ := cf2_ a8.out; have w8 := blk_frozen a8.out 2) | ((with_reducible refine gc_ 76 rfl ?_); refine gl_ (some 43) rfl Try.func76 #[.agg #[.int .i64 a0_0, .int .i64 a0_1, .slice A0_2 l0_2.length c0_2]] ?_; (with_reducible refine (spec_l6Turn.calls k a0_0 a0_1 _ _ l0_2 e5 j5 k7 _ ?side1 ?side2 A62.out).mono ?_); (case side1 => repeat (first | exact (Kd.C_below HR0_2.out HB.out) | (with_reducible refine Kd.C_alloc ?_ _) | (with_reducible refine Kd.C_drewN ?_ _) | (with_reducible refine Kd.C_drew ?_))); (case side2 => exact HC0_2.out); rintro e w71 ⟨J4, rfl, ho0, hb⟩; refine ⟨_, rfl, ?_⟩; have k1 := yaa (Kd.R_lower ho0 (yag (by repeat (with_reducible first | exact HB.out | apply yac | apply yab | apply yad | refine yae ?_ (Aside0.out ‹_›))))); replace a8 := yaa (yaf (upB a8.out) hb); replace a9 := yaa (yaf (upB a9.out) hb); replace b4 := yaa (yaf (upB b4.out) hb); replace HB := yaa (yah (by repeat (with_reducible first | exact HB.out | apply yac | apply yab | apply yad | refine yae ?_ (Aside0.out ‹_›))) hb); (try clear hb ho0); obtain ⟨w9, x0, x1⟩ := cc3_ b4.out; obtain ⟨x2, x3, x4⟩ := cf3_ b4.out; obtain ⟨m4, m5, D1⟩ := Kd.R_slice k1.out; subst D1))
  refine bodyPost_ret (results_ct rfl _ _ b1 25 #[.int .i64 e5, .int .i64 j5, .slice m4 k7.length m5] (0, 0) _ rfl (by (repeat refine oneB ?_); refine blk_put (cs := #[.int .i64 e5, .int .i64 j5, .slice none 0 0]) ?_ 2 _ rfl; refine blk_put (cs := #[.int .i64 e5, .int .i64 0, .slice none 0 0]) ?_ 1 _ rfl; refine blk_put (cs := #[.int .i64 0, .int .i64 0, .slice none 0 0]) ?_ 0 _ rfl; exact upB b4.out) Try.underlying25 rfl (by kernel_rfl)) rfl ?_
  exact ⟨_, by first | rfl | (simp [*, errW_none, errW_some] <;> rfl), by (with_reducible repeat (first | apply Kd.R_alloc | apply Kd.R_drewN | apply Kd.R_drew)); exact Kd.R_mono (Kd.R_far (p := ⟨b1, 2, none⟩) (Kd.R_far (p := ⟨b1, 1, none⟩) (Kd.R_far (p := ⟨b1, 0, none⟩) (Kd.R_types k1.out b4.out (by decide)) (fun _ hk => hk.2) (.int .i64 e5)) (fun _ hk => hk.2) (.int .i64 j5)) (fun _ hk => hk.2) (.slice m4 k7.length m5)) (fun _ hk => trivial), by repeat (with_reducible first | exact HB.out | apply yac | apply yab | apply yad | refine yae ?_ (Aside0.out ‹_›))⟩
 rw [if_neg c61] at H
 have m2 := beq_eq_false_iff_ne.mpr c61; have m3 := bne_iff_ne.mpr c61
 by_cases c74 : a1_0 = 7
 ·
  rw [if_pos c74] at H
  have m6 := beq_iff_eq.mpr c74; have m7 := bne_eq_false_iff_eq.mpr c74; clear c74; obtain ⟨⟨e6, j6, k8⟩, A75, H⟩ := bindA H; (try dsimp only at H)
  simp only [Option.some.injEq, Prod.mk.injEq] at H
  obtain ⟨rfl, rfl, rfl, rfl⟩ := H
  go_enter Try.func39, Try.ntmps39
  go_wp2_with (first | ((with_reducible refine gd_ 2 rfl ?_); refine bx_ 2 rfl #[.int .i64 a0_0, .int .i64 a0_1, .slice A0_2 l0_2.length c0_2] 25 ?_; intro b8 hg w76 hbox hb; have a8 := yaa (hbox); have c0 := yaa ((by rw [hg]; exact (yag (upH HB.out)) : w.heap.size ≤ b8)); replace HB := yaa (yah (upH HB.out) hb); have d1 := c0; clear hb hbox hg) | ((with_reducible refine gd_ 3 rfl ?_); refine bx_ 3 rfl #[.int .i64 a1_0, .int .i64 a1_1, .int .i64 a1_2, .int .i64 a1_3, .int .i64 a1_4] 27 ?_; intro b9 hg w77 hbox hb; have a9 := yaa (hbox); have c4 := yaa ((by rw [hg]; exact (yag (by repeat (with_reducible first | exact HB.out | apply yac | apply yab | apply yad | refine yae ?_ (Aside0.out ‹_›)))) : w.heap.size ≤ b9)); replace HB := yaa (yah (by repeat (with_reducible first | exact HB.out | apply yac | apply yab | apply yad | refine yae ?_ (Aside0.out ‹_›))) hb); have d2 := c4; have b2 := yaa ((by rw [hg]; exact Nat.ne_of_lt (blk_lt (upB a8.out)) : b8 ≠ b9)); replace a8 := yaa (yaf (upB a8.out) hb); have b6 := yaa b2.out.symm; clear hb hbox hg) | ((with_reducible refine gd_ 4 rfl ?_); refine bx_ 4 rfl #[.int .i64 0, .int .i64 0, .slice none 0 0] 25 ?_; intro b1 hg w78 hbox hb; have b4 := yaa (hbox); have c5 := yaa ((by rw [hg]; exact (yag (by repeat (with_reducible first | exact HB.out | apply yac | apply yab | apply yad | refine yae ?_ (Aside0.out ‹_›)))) : w.heap.size ≤ b1)); replace HB := yaa (yah (by repeat (with_reducible first | exact HB.out | apply yac | apply yab | apply yad | refine yae ?_ (Aside0.out ‹_›))) hb); have d3 := c5; have b3 := yaa ((by rw [hg]; exact Nat.ne_of_lt (blk_lt (upB a8.out)) : b8 ≠ b1)); replace a8 := yaa (yaf (upB a8.out) hb); have b7 := yaa b3.out.symm; have b0 := yaa ((by rw [hg]; exact Nat.ne_of_lt (blk_lt (upB a9.out)) : b9 ≠ b1)); replace a9 := yaa (yaf (upB a9.out) hb); have b5 := yaa b0.out.symm; clear hb hbox hg; have H4 := b6.out; have H5 := b2.out; have H6 := b0.out; have H7 := b5.out; obtain ⟨x5, x6, x7, x8, x9⟩ := cc5_ a9.out; obtain ⟨y9, z0, z1, z2, z3⟩ := cf5_ a9.out; have H8 := b3.out; have H9 := b7.out; obtain ⟨z4, z5, z6⟩ := cc3_ a8.out; obtain ⟨z7, z8⟩ := cf2_ a8.out; have z9 := blk_frozen a8.out 2) | ((with_reducible refine gc_ 77 rfl ?_); refine gl_ (some 48) rfl Try.func77 #[.agg #[.int .i64 a0_0, .int .i64 a0_1, .slice A0_2 l0_2.length c0_2], .agg #[.int .i64 a1_0, .int .i64 a1_1, .int .i64 a1_2, .int .i64 a1_3, .int .i64 a1_4]] ?_; (with_reducible refine (spec_l6Size.calls k a0_0 a0_1 _ _ l0_2 a1_0 a1_1 a1_2 a1_3 a1_4 e6 j6 k8 _ ?side1 ?side2 A75.out).mono ?_); (case side1 => repeat (first | exact (Kd.C_below HR0_2.out HB.out) | (with_reducible refine Kd.C_alloc ?_ _) | (with_reducible refine Kd.C_drewN ?_ _) | (with_reducible refine Kd.C_drew ?_))); (case side2 => exact HC0_2.out); rintro e w84 ⟨J5, rfl, ho0, hb⟩; refine ⟨_, rfl, ?_⟩; have k2 := yaa (Kd.R_lower ho0 (yag (by repeat (with_reducible first | exact HB.out | apply yac | apply yab | apply yad | refine yae ?_ (Aside0.out ‹_›))))); replace a8 := yaa (yaf (upB a8.out) hb); replace a9 := yaa (yaf (upB a9.out) hb); replace b4 := yaa (yaf (upB b4.out) hb); replace HB := yaa (yah (by repeat (with_reducible first | exact HB.out | apply yac | apply yab | apply yad | refine yae ?_ (Aside0.out ‹_›))) hb); (try clear hb ho0); obtain ⟨A0, A1, A2⟩ := cc3_ b4.out; obtain ⟨A3, A4, A5⟩ := cf3_ b4.out; obtain ⟨m8, m9, D2⟩ := Kd.R_slice k2.out; subst D2))
  refine bodyPost_ret (results_ct rfl _ _ b1 25 #[.int .i64 e6, .int .i64 j6, .slice m8 k8.length m9] (0, 0) _ rfl (by (repeat refine oneB ?_); refine blk_put (cs := #[.int .i64 e6, .int .i64 j6, .slice none 0 0]) ?_ 2 _ rfl; refine blk_put (cs := #[.int .i64 e6, .int .i64 0, .slice none 0 0]) ?_ 1 _ rfl; refine blk_put (cs := #[.int .i64 0, .int .i64 0, .slice none 0 0]) ?_ 0 _ rfl; exact upB b4.out) Try.underlying25 rfl (by kernel_rfl)) rfl ?_
  exact ⟨_, by first | rfl | (simp [*, errW_none, errW_some] <;> rfl), by (with_reducible repeat (first | apply Kd.R_alloc | apply Kd.R_drewN | apply Kd.R_drew)); exact Kd.R_mono (Kd.R_far (p := ⟨b1, 2, none⟩) (Kd.R_far (p := ⟨b1, 1, none⟩) (Kd.R_far (p := ⟨b1, 0, none⟩) (Kd.R_types k2.out b4.out (by decide)) (fun _ hk => hk.2) (.int .i64 e6)) (fun _ hk => hk.2) (.int .i64 j6)) (fun _ hk => hk.2) (.slice m8 k8.length m9)) (fun _ hk => trivial), by repeat (with_reducible first | exact HB.out | apply yac | apply yab | apply yad | refine yae ?_ (Aside0.out ‹_›))⟩
 rw [if_neg c74] at H
 have m6 := beq_eq_false_iff_ne.mpr c74; have m7 := bne_iff_ne.mpr c74; obtain ⟨⟨e7, j7, k9⟩, A87, H⟩ := bindA H; (try dsimp only at H)
 simp only [Option.some.injEq, Prod.mk.injEq] at H
 obtain ⟨rfl, rfl, rfl, rfl⟩ := H
 go_enter Try.func39, Try.ntmps39
 go_wp2_with (first | ((with_reducible refine gd_ 2 rfl ?_); refine bx_ 2 rfl #[.int .i64 a0_0, .int .i64 a0_1, .slice A0_2 l0_2.length c0_2] 25 ?_; intro b8 hg w88 hbox hb; have a8 := yaa (hbox); have c0 := yaa ((by rw [hg]; exact (yag (upH HB.out)) : w.heap.size ≤ b8)); replace HB := yaa (yah (upH HB.out) hb); have d1 := c0; clear hb hbox hg) | ((with_reducible refine gd_ 3 rfl ?_); refine bx_ 3 rfl #[.int .i64 a1_0, .int .i64 a1_1, .int .i64 a1_2, .int .i64 a1_3, .int .i64 a1_4] 27 ?_; intro b9 hg w89 hbox hb; have a9 := yaa (hbox); have c4 := yaa ((by rw [hg]; exact (yag (by repeat (with_reducible first | exact HB.out | apply yac | apply yab | apply yad | refine yae ?_ (Aside0.out ‹_›)))) : w.heap.size ≤ b9)); replace HB := yaa (yah (by repeat (with_reducible first | exact HB.out | apply yac | apply yab | apply yad | refine yae ?_ (Aside0.out ‹_›))) hb); have d2 := c4; have b2 := yaa ((by rw [hg]; exact Nat.ne_of_lt (blk_lt (upB a8.out)) : b8 ≠ b9)); replace a8 := yaa (yaf (upB a8.out) hb); have b6 := yaa b2.out.symm; clear hb hbox hg) | ((with_reducible refine gd_ 4 rfl ?_); refine bx_ 4 rfl #[.int .i64 0, .int .i64 0, .slice none 0 0] 25 ?_; intro b1 hg w90 hbox hb; have b4 := yaa (hbox); have c5 := yaa ((by rw [hg]; exact (yag (by repeat (with_reducible first | exact HB.out | apply yac | apply yab | apply yad | refine yae ?_ (Aside0.out ‹_›)))) : w.heap.size ≤ b1)); replace HB := yaa (yah (by repeat (with_reducible first | exact HB.out | apply yac | apply yab | apply yad | refine yae ?_ (Aside0.out ‹_›))) hb); have d3 := c5; have b3 := yaa ((by rw [hg]; exact Nat.ne_of_lt (blk_lt (upB a8.out)) : b8 ≠ b1)); replace a8 := yaa (yaf (upB a8.out) hb); have b7 := yaa b3.out.symm; have b0 := yaa ((by rw [hg]; exact Nat.ne_of_lt (blk_lt (upB a9.out)) : b9 ≠ b1)); replace a9 := yaa (yaf (upB a9.out) hb); have b5 := yaa b0.out.symm; clear hb hbox hg; have I0 := b6.out; have I1 := b2.out; have I2 := b0.out; have I3 := b5.out; obtain ⟨A6, A7, A8, A9, B0⟩ := cc5_ a9.out; obtain ⟨B1, B2, B3, B4, B5⟩ := cf5_ a9.out; have I4 := b3.out; have I5 := b7.out; obtain ⟨B6, B7, B8⟩ := cc3_ a8.out; obtain ⟨B9, C0⟩ := cf2_ a8.out; have C1 := blk_frozen a8.out 2) | ((with_reducible refine gc_ 78 rfl ?_); refine gl_ (some 51) rfl Try.func78 #[.agg #[.int .i64 a0_0, .int .i64 a0_1, .slice A0_2 l0_2.length c0_2], .agg #[.int .i64 a1_0, .int .i64 a1_1, .int .i64 a1_2, .int .i64 a1_3, .int .i64 a1_4]] ?_; (with_reducible refine (spec_l6Each.calls k a0_0 a0_1 _ _ l0_2 a1_0 a1_1 a1_2 a1_3 a1_4 e7 j7 k9 _ ?side1 ?side2 A87.out).mono ?_); (case side1 => repeat (first | exact (Kd.C_below HR0_2.out HB.out) | (with_reducible refine Kd.C_alloc ?_ _) | (with_reducible refine Kd.C_drewN ?_ _) | (with_reducible refine Kd.C_drew ?_))); (case side2 => exact HC0_2.out); rintro e w96 ⟨J6, rfl, ho0, hb⟩; refine ⟨_, rfl, ?_⟩; have k3 := yaa (Kd.R_lower ho0 (yag (by repeat (with_reducible first | exact HB.out | apply yac | apply yab | apply yad | refine yae ?_ (Aside0.out ‹_›))))); replace a8 := yaa (yaf (upB a8.out) hb); replace a9 := yaa (yaf (upB a9.out) hb); replace b4 := yaa (yaf (upB b4.out) hb); replace HB := yaa (yah (by repeat (with_reducible first | exact HB.out | apply yac | apply yab | apply yad | refine yae ?_ (Aside0.out ‹_›))) hb); (try clear hb ho0); obtain ⟨C2, C3, C4⟩ := cc3_ b4.out; obtain ⟨C5, C6, C7⟩ := cf3_ b4.out; obtain ⟨n0, n1, D3⟩ := Kd.R_slice k3.out; subst D3))
 refine bodyPost_ret (results_ct rfl _ _ b1 25 #[.int .i64 e7, .int .i64 j7, .slice n0 k9.length n1] (0, 0) _ rfl (by (repeat refine oneB ?_); refine blk_put (cs := #[.int .i64 e7, .int .i64 j7, .slice none 0 0]) ?_ 2 _ rfl; refine blk_put (cs := #[.int .i64 e7, .int .i64 0, .slice none 0 0]) ?_ 1 _ rfl; refine blk_put (cs := #[.int .i64 0, .int .i64 0, .slice none 0 0]) ?_ 0 _ rfl; exact upB b4.out) Try.underlying25 rfl (by kernel_rfl)) rfl ?_
 exact ⟨_, by first | rfl | (simp [*, errW_none, errW_some] <;> rfl), by (with_reducible repeat (first | apply Kd.R_alloc | apply Kd.R_drewN | apply Kd.R_drew)); exact Kd.R_mono (Kd.R_far (p := ⟨b1, 2, none⟩) (Kd.R_far (p := ⟨b1, 1, none⟩) (Kd.R_far (p := ⟨b1, 0, none⟩) (Kd.R_types k3.out b4.out (by decide)) (fun _ hk => hk.2) (.int .i64 e7)) (fun _ hk => hk.2) (.int .i64 j7)) (fun _ hk => hk.2) (.slice n0 k9.length n1)) (fun _ hk => trivial), by repeat (with_reducible first | exact HB.out | apply yac | apply yab | apply yad | refine yae ?_ (Aside0.out ‹_›))⟩
end
section
open Go.Proofs.YtoifpgkfpdeglaaW.PrintWords.Aside0 renaming mk → yaa
open Go.Proofs.YtoifpgkfpdeglaaW.PrintWords renaming pw_below_drewN → yab, below_alloc → yac, below_drew1 → yad, blk_below → yae, below_set → yaf, below_step → yag
def spec_OpDo.f (k : Nat) (a0_0 : Int) (a0_1 : Int) (l0_2 : List (S36)) (a1_0 : Int) (a1_1 : Int) (a1_2 : Int) (a1_3 : Int) (a1_4 : Int) : Option (Int × Int × (List (S36)) × Bool) := (spec_RasOk.f k a0_0 a0_1 l0_2).bind fun t104 => (if t104 = true then ((spec_OpOk.f a1_0 a1_1 a1_2 a1_3 a1_4).bind fun t105 => (if t105 = true then ((spec_l6Do.f k a0_0 a0_1 l0_2 a1_0 a1_1 a1_2 a1_3 a1_4).bind fun bt106 => (some (bt106.1, bt106.2.1, bt106.2.2.1, bt106.2.2.2))) else (some (0, 0, ([] : List (S36)), false)))) else (some (0, 0, ([] : List (S36)), false)))
set_option maxHeartbeats 8000000 in
set_option maxRecDepth 100000 in
theorem spec_OpDo.calls (k : Nat) (a0_0 : Int) (a0_1 : Int) (A0_2 : Option Addr) (c0_2 : Nat) (l0_2 : List (S36)) (a1_0 : Int) (a1_1 : Int) (a1_2 : Int) (a1_3 : Int) (a1_4 : Int) (r1 : Int) (r2 : Int) (r3 : List (S36)) (r4 : Bool) (w : World) (hr0_2 : Kd.C k36 w A0_2 l0_2.length l0_2) (hc0_2 : l0_2.length ≤ c0_2) (h : spec_OpDo.f k a0_0 a0_1 l0_2 a1_0 a1_1 a1_2 a1_3 a1_4 = some (r1, r2, r3, r4)) :
  Calls Try.prog 12 #[.agg #[.int .i64 a0_0, .int .i64 a0_1, .slice A0_2 l0_2.length c0_2], .agg #[.int .i64 a1_0, .int .i64 a1_1, .int .i64 a1_2, .int .i64 a1_3, .int .i64 a1_4]] w fun e w' => ∃ v2_ : Value, e = .returned (.tuple #[.agg #[.int .i64 r1, .int .i64 r2, v2_], .bool r4]) ∧ Kd.R k36 36 w' w.heap.size (fun _ => True) v2_ r3 ∧ Below w.heap.size w w' := by
 have hu25 := Try.underlying25; have hu27 := Try.underlying27; have HR0_2 := yaa hr0_2; have HC0_2 := yaa hc0_2; clear hr0_2 hc0_2; have HB := yaa (Below.refl w.heap.size w); have H : ((spec_RasOk.f k a0_0 a0_1 l0_2).bind fun d4 => (if d4 = true then ((spec_OpOk.f a1_0 a1_1 a1_2 a1_3 a1_4).bind fun d5 => (if d5 = true then ((spec_l6Do.f k a0_0 a0_1 l0_2 a1_0 a1_1 a1_2 a1_3 a1_4).bind fun c3 => (some (c3.1, c3.2.1, c3.2.2.1, c3.2.2.2))) else (some (0, 0, ([] : List (S36)), false)))) else (some (0, 0, ([] : List (S36)), false)))) = some (r1, r2, r3, r4) := h; clear h; obtain ⟨d4, A3, H⟩ := bindA H; (try dsimp only at H)
 by_cases c4 : d4 = true
 rotate_left
 ·
  replace c4 := Bool.eq_false_iff.mpr c4
  subst c4
  rw [if_neg (show ¬ (false = true) by decide)] at H
  simp only [Option.some.injEq, Prod.mk.injEq] at H
  obtain ⟨rfl, rfl, rfl, rfl⟩ := H
  go_enter Try.func12, Try.ntmps12
  go_wp2_with (first | ((with_reducible refine gd_ 2 rfl ?_); refine bx_ 2 rfl #[.int .i64 a0_0, .int .i64 a0_1, .slice A0_2 l0_2.length c0_2] 25 ?_; intro b8 hg w34 hbox hb; have a8 := yaa (hbox); have c0 := yaa ((by rw [hg]; exact (below_size (upH HB.out)) : w.heap.size ≤ b8)); replace HB := yaa (yag (upH HB.out) hb); have d0 := c0; clear hb hbox hg) | ((with_reducible refine gd_ 3 rfl ?_); refine bx_ 3 rfl #[.int .i64 a1_0, .int .i64 a1_1, .int .i64 a1_2, .int .i64 a1_3, .int .i64 a1_4] 27 ?_; intro b9 hg w35 hbox hb; have a9 := yaa (hbox); have c1 := yaa ((by rw [hg]; exact (below_size (by repeat (with_reducible first | exact HB.out | apply yac | apply yab | apply yad | refine yaf ?_ (Aside0.out ‹_›)))) : w.heap.size ≤ b9)); replace HB := yaa (yag (by repeat (with_reducible first | exact HB.out | apply yac | apply yab | apply yad | refine yaf ?_ (Aside0.out ‹_›))) hb); have d1 := c1; have b1 := yaa ((by rw [hg]; exact Nat.ne_of_lt (blk_lt (upB a8.out)) : b8 ≠ b9)); replace a8 := yaa (yae (upB a8.out) hb); have b5 := yaa b1.out.symm; clear hb hbox hg) | ((with_reducible refine gd_ 4 rfl ?_); refine bx_ 4 rfl #[.int .i64 0, .int .i64 0, .slice none 0 0] 25 ?_; intro b4 hg w36 hbox hb; have b0 := yaa (hbox); have c2 := yaa ((by rw [hg]; exact (below_size (by repeat (with_reducible first | exact HB.out | apply yac | apply yab | apply yad | refine yaf ?_ (Aside0.out ‹_›)))) : w.heap.size ≤ b4)); replace HB := yaa (yag (by repeat (with_reducible first | exact HB.out | apply yac | apply yab | apply yad | refine yaf ?_ (Aside0.out ‹_›))) hb); have d2 := c2; have b2 := yaa ((by rw [hg]; exact Nat.ne_of_lt (blk_lt (upB a8.out)) : b8 ≠ b4)); replace a8 := yaa (yae (upB a8.out) hb); have b6 := yaa b2.out.symm; have b3 := yaa ((by rw [hg]; exact Nat.ne_of_lt (blk_lt (upB a9.out)) : b9 ≠ b4)); replace a9 := yaa (yae (upB a9.out) hb); have b7 := yaa b3.out.symm; clear hb hbox hg; have m8 := b1.out; have m9 := b5.out; have n0 := b2.out; have n1 := b6.out; obtain ⟨k1, k2, k3⟩ := cc3_ a8.out; obtain ⟨k4, k5⟩ := cf2_ a8.out; have k6 := blk_frozen a8.out 2) | ((with_reducible refine gc_ 16 rfl ?_); refine gl_ (some 7) rfl Try.func16 #[.agg #[.int .i64 a0_0, .int .i64 a0_1, .slice A0_2 l0_2.length c0_2]] ?_; (with_reducible refine (spec_RasOk.calls k a0_0 a0_1 _ _ l0_2 false _ ?side1 ?side2 A3.out).mono ?_); (case side1 => repeat (first | exact (Kd.C_below HR0_2.out HB.out) | (with_reducible refine Kd.C_alloc ?_ _) | (with_reducible refine Kd.C_drewN ?_ _) | (with_reducible refine Kd.C_drew ?_))); (case side2 => exact HC0_2.out); rintro e w40 ⟨rfl, hb⟩; refine ⟨_, rfl, ?_⟩; replace a8 := yaa (yae (upB a8.out) hb); replace a9 := yaa (yae (upB a9.out) hb); replace b0 := yaa (yae (upB b0.out) hb); replace HB := yaa (yag (by repeat (with_reducible first | exact HB.out | apply yac | apply yab | apply yad | refine yaf ?_ (Aside0.out ‹_›))) hb); (try clear hb); have n2 := b7.out; have n3 := b3.out; obtain ⟨k7, k8, k9⟩ := cc3_ b0.out; obtain ⟨l0, l1⟩ := cf2_ b0.out; have l2 := blk_frozen b0.out 2))
  refine bodyPost_ret (results_ct rfl _ _ b4 25 #[.int .i64 0, .int .i64 0, .slice none 0 0] (0, 0) _ rfl (by (repeat refine oneB ?_); refine blk_put (cs := #[.int .i64 0, .int .i64 0, .slice none 0 0]) ?_ 2 _ rfl; refine blk_put (cs := #[.int .i64 0, .int .i64 0, .slice none 0 0]) ?_ 1 _ rfl; refine blk_put (cs := #[.int .i64 0, .int .i64 0, .slice none 0 0]) ?_ 0 _ rfl; exact upB b0.out) Try.underlying25 rfl (by kernel_rfl)) rfl ?_
  exact ⟨_, by first | rfl | (simp [*, errW_none, errW_some] <;> rfl), by first | exact Kd.R_nil _ _ _ _ _ | exact Kd.N_nil _ _ _ _ _ | exact Kd.V_nil _ _ _ _ _ | exact Kd.Q_nil _ _ _ _ _ | exact Kd.S_nil _ _ _ _ _, by repeat (with_reducible first | exact HB.out | apply yac | apply yab | apply yad | refine yaf ?_ (Aside0.out ‹_›))⟩
 subst c4
 rw [if_pos rfl] at H
 obtain ⟨d5, A5, H⟩ := bindA H; (try dsimp only at H)
 by_cases c6 : d5 = true
 ·
  subst c6
  rw [if_pos rfl] at H
  obtain ⟨⟨c7, c8, d6, l3⟩, A7, H⟩ := bindA H; (try dsimp only at H)
  simp only [Option.some.injEq, Prod.mk.injEq] at H
  obtain ⟨rfl, rfl, rfl, rfl⟩ := H
  go_enter Try.func12, Try.ntmps12
  go_wp2_with (first | ((with_reducible refine gd_ 2 rfl ?_); refine bx_ 2 rfl #[.int .i64 a0_0, .int .i64 a0_1, .slice A0_2 l0_2.length c0_2] 25 ?_; intro b8 hg w8 hbox hb; have a8 := yaa (hbox); have c0 := yaa ((by rw [hg]; exact (below_size (upH HB.out)) : w.heap.size ≤ b8)); replace HB := yaa (yag (upH HB.out) hb); have d0 := c0; clear hb hbox hg) | ((with_reducible refine gd_ 3 rfl ?_); refine bx_ 3 rfl #[.int .i64 a1_0, .int .i64 a1_1, .int .i64 a1_2, .int .i64 a1_3, .int .i64 a1_4] 27 ?_; intro b9 hg w9 hbox hb; have a9 := yaa (hbox); have c1 := yaa ((by rw [hg]; exact (below_size (by repeat (with_reducible first | exact HB.out | apply yac | apply yab | apply yad | refine yaf ?_ (Aside0.out ‹_›)))) : w.heap.size ≤ b9)); replace HB := yaa (yag (by repeat (with_reducible first | exact HB.out | apply yac | apply yab | apply yad | refine yaf ?_ (Aside0.out ‹_›))) hb); have d1 := c1; have b1 := yaa ((by rw [hg]; exact Nat.ne_of_lt (blk_lt (upB a8.out)) : b8 ≠ b9)); replace a8 := yaa (yae (upB a8.out) hb); have b5 := yaa b1.out.symm; clear hb hbox hg) | ((with_reducible refine gd_ 4 rfl ?_); refine bx_ 4 rfl #[.int .i64 0, .int .i64 0, .slice none 0 0] 25 ?_; intro b4 hg w10 hbox hb; have b0 := yaa (hbox); have c2 := yaa ((by rw [hg]; exact (below_size (by repeat (with_reducible first | exact HB.out | apply yac | apply yab | apply yad | refine yaf ?_ (Aside0.out ‹_›)))) : w.heap.size ≤ b4)); replace HB := yaa (yag (by repeat (with_reducible first | exact HB.out | apply yac | apply yab | apply yad | refine yaf ?_ (Aside0.out ‹_›))) hb); have d2 := c2; have b2 := yaa ((by rw [hg]; exact Nat.ne_of_lt (blk_lt (upB a8.out)) : b8 ≠ b4)); replace a8 := yaa (yae (upB a8.out) hb); have b6 := yaa b2.out.symm; have b3 := yaa ((by rw [hg]; exact Nat.ne_of_lt (blk_lt (upB a9.out)) : b9 ≠ b4)); replace a9 := yaa (yae (upB a9.out) hb); have b7 := yaa b3.out.symm; clear hb hbox hg; have l6 := b1.out; have l7 := b5.out; have l8 := b2.out; have l9 := b6.out; obtain ⟨e1, e2, e3⟩ := cc3_ a8.out; obtain ⟨e4, e5⟩ := cf2_ a8.out; have e6 := blk_frozen a8.out 2) | ((with_reducible refine gc_ 16 rfl ?_); refine gl_ (some 7) rfl Try.func16 #[.agg #[.int .i64 a0_0, .int .i64 a0_1, .slice A0_2 l0_2.length c0_2]] ?_; (with_reducible refine (spec_RasOk.calls k a0_0 a0_1 _ _ l0_2 true _ ?side1 ?side2 A3.out).mono ?_); (case side1 => repeat (first | exact (Kd.C_below HR0_2.out HB.out) | (with_reducible refine Kd.C_alloc ?_ _) | (with_reducible refine Kd.C_drewN ?_ _) | (with_reducible refine Kd.C_drew ?_))); (case side2 => exact HC0_2.out); rintro e w14 ⟨rfl, hb⟩; refine ⟨_, rfl, ?_⟩; replace a8 := yaa (yae (upB a8.out) hb); replace a9 := yaa (yae (upB a9.out) hb); replace b0 := yaa (yae (upB b0.out) hb); replace HB := yaa (yag (by repeat (with_reducible first | exact HB.out | apply yac | apply yab | apply yad | refine yaf ?_ (Aside0.out ‹_›))) hb); (try clear hb); have m0 := b3.out; have m1 := b7.out; obtain ⟨e7, e8, e9, f0, f1⟩ := cc5_ a9.out; obtain ⟨f2, f3, f4, f5⟩ := cf4_ a9.out; have f6 := blk_frozen a9.out 4) | (go_at_call 38; (with_reducible refine (spec_OpOk.calls a1_0 a1_1 a1_2 a1_3 a1_4 true _ A5.out).mono ?_); rintro e w17 ⟨rfl, hb⟩; replace a8 := yaa (yae (upB a8.out) hb); replace a9 := yaa (yae (upB a9.out) hb); replace b0 := yaa (yae (upB b0.out) hb); replace HB := yaa (yag (by repeat (with_reducible first | exact HB.out | apply yac | apply yab | apply yad | refine yaf ?_ (Aside0.out ‹_›))) hb); (try clear hb); obtain ⟨f7, f8, f9⟩ := cc3_ a8.out; obtain ⟨g0, g1, g2⟩ := cf3_ a8.out; obtain ⟨g3, g4, g5, g6, g7⟩ := cc5_ a9.out; obtain ⟨g8, g9, h0, h1⟩ := cf4_ a9.out; have h2 := blk_frozen a9.out 4) | ((with_reducible refine gc_ 39 rfl ?_); refine gl_ (some 17) rfl Try.func39 #[.agg #[.int .i64 a0_0, .int .i64 a0_1, .slice A0_2 l0_2.length c0_2], .agg #[.int .i64 a1_0, .int .i64 a1_1, .int .i64 a1_2, .int .i64 a1_3, .int .i64 a1_4]] ?_; (with_reducible refine (spec_l6Do.calls k a0_0 a0_1 _ _ l0_2 a1_0 a1_1 a1_2 a1_3 a1_4 c7 c8 d6 l3 _ ?side1 ?side2 A7.out).mono ?_); (case side1 => repeat (first | exact (Kd.C_below HR0_2.out HB.out) | (with_reducible refine Kd.C_alloc ?_ _) | (with_reducible refine Kd.C_drewN ?_ _) | (with_reducible refine Kd.C_drew ?_))); (case side2 => exact HC0_2.out); rintro e w20 ⟨n4, rfl, ho0, hb⟩; refine ⟨_, rfl, ?_⟩; have d3 := yaa (Kd.R_lower ho0 (below_size (by repeat (with_reducible first | exact HB.out | apply yac | apply yab | apply yad | refine yaf ?_ (Aside0.out ‹_›))))); replace a8 := yaa (yae (upB a8.out) hb); replace a9 := yaa (yae (upB a9.out) hb); replace b0 := yaa (yae (upB b0.out) hb); replace HB := yaa (yag (by repeat (with_reducible first | exact HB.out | apply yac | apply yab | apply yad | refine yaf ?_ (Aside0.out ‹_›))) hb); (try clear hb ho0); obtain ⟨h3, h4, h5⟩ := cc3_ b0.out; obtain ⟨h6, h7, h8⟩ := cf3_ b0.out; obtain ⟨d9, e0, l5⟩ := Kd.R_slice d3.out; subst l5))
  refine bodyPost_ret (results_ct rfl _ _ b4 25 #[.int .i64 c7, .int .i64 c8, .slice d9 d6.length e0] (0, 0) _ rfl (by (repeat refine oneB ?_); refine blk_put (cs := #[.int .i64 c7, .int .i64 c8, .slice none 0 0]) ?_ 2 _ rfl; refine blk_put (cs := #[.int .i64 c7, .int .i64 0, .slice none 0 0]) ?_ 1 _ rfl; refine blk_put (cs := #[.int .i64 0, .int .i64 0, .slice none 0 0]) ?_ 0 _ rfl; exact upB b0.out) Try.underlying25 rfl (by kernel_rfl)) rfl ?_
  exact ⟨_, by first | rfl | (simp [*, errW_none, errW_some] <;> rfl), by (with_reducible repeat (first | apply Kd.R_alloc | apply Kd.R_drewN | apply Kd.R_drew)); exact Kd.R_mono (Kd.R_far (p := ⟨b4, 2, none⟩) (Kd.R_far (p := ⟨b4, 1, none⟩) (Kd.R_far (p := ⟨b4, 0, none⟩) (Kd.R_types d3.out b0.out (by decide)) (fun _ hk => hk.2) (.int .i64 c7)) (fun _ hk => hk.2) (.int .i64 c8)) (fun _ hk => hk.2) (.slice d9 d6.length e0)) (fun _ hk => trivial), by repeat (with_reducible first | exact HB.out | apply yac | apply yab | apply yad | refine yaf ?_ (Aside0.out ‹_›))⟩
 replace c6 := Bool.eq_false_iff.mpr c6
 subst c6
 rw [if_neg (show ¬ (false = true) by decide)] at H
 simp only [Option.some.injEq, Prod.mk.injEq] at H
 obtain ⟨rfl, rfl, rfl, rfl⟩ := H
 go_enter Try.func12, Try.ntmps12
 go_wp2_with (first | ((with_reducible refine gd_ 2 rfl ?_); refine bx_ 2 rfl #[.int .i64 a0_0, .int .i64 a0_1, .slice A0_2 l0_2.length c0_2] 25 ?_; intro b8 hg w23 hbox hb; have a8 := yaa (hbox); have c0 := yaa ((by rw [hg]; exact (below_size (upH HB.out)) : w.heap.size ≤ b8)); replace HB := yaa (yag (upH HB.out) hb); have d0 := c0; clear hb hbox hg) | ((with_reducible refine gd_ 3 rfl ?_); refine bx_ 3 rfl #[.int .i64 a1_0, .int .i64 a1_1, .int .i64 a1_2, .int .i64 a1_3, .int .i64 a1_4] 27 ?_; intro b9 hg w24 hbox hb; have a9 := yaa (hbox); have c1 := yaa ((by rw [hg]; exact (below_size (by repeat (with_reducible first | exact HB.out | apply yac | apply yab | apply yad | refine yaf ?_ (Aside0.out ‹_›)))) : w.heap.size ≤ b9)); replace HB := yaa (yag (by repeat (with_reducible first | exact HB.out | apply yac | apply yab | apply yad | refine yaf ?_ (Aside0.out ‹_›))) hb); have d1 := c1; have b1 := yaa ((by rw [hg]; exact Nat.ne_of_lt (blk_lt (upB a8.out)) : b8 ≠ b9)); replace a8 := yaa (yae (upB a8.out) hb); have b5 := yaa b1.out.symm; clear hb hbox hg) | ((with_reducible refine gd_ 4 rfl ?_); refine bx_ 4 rfl #[.int .i64 0, .int .i64 0, .slice none 0 0] 25 ?_; intro b4 hg w25 hbox hb; have b0 := yaa (hbox); have c2 := yaa ((by rw [hg]; exact (below_size (by repeat (with_reducible first | exact HB.out | apply yac | apply yab | apply yad | refine yaf ?_ (Aside0.out ‹_›)))) : w.heap.size ≤ b4)); replace HB := yaa (yag (by repeat (with_reducible first | exact HB.out | apply yac | apply yab | apply yad | refine yaf ?_ (Aside0.out ‹_›))) hb); have d2 := c2; have b2 := yaa ((by rw [hg]; exact Nat.ne_of_lt (blk_lt (upB a8.out)) : b8 ≠ b4)); replace a8 := yaa (yae (upB a8.out) hb); have b6 := yaa b2.out.symm; have b3 := yaa ((by rw [hg]; exact Nat.ne_of_lt (blk_lt (upB a9.out)) : b9 ≠ b4)); replace a9 := yaa (yae (upB a9.out) hb); have b7 := yaa b3.out.symm; clear hb hbox hg; have m2 := b1.out; have m3 := b5.out; have m4 := b2.out; have m5 := b6.out; obtain ⟨h9, i0, i1⟩ := cc3_ a8.out; obtain ⟨i2, i3⟩ := cf2_ a8.out; have i4 := blk_frozen a8.out 2) | ((with_reducible refine gc_ 16 rfl ?_); refine gl_ (some 7) rfl Try.func16 #[.agg #[.int .i64 a0_0, .int .i64 a0_1, .slice A0_2 l0_2.length c0_2]] ?_; (with_reducible refine (spec_RasOk.calls k a0_0 a0_1 _ _ l0_2 true _ ?side1 ?side2 A3.out).mono ?_); (case side1 => repeat (first | exact (Kd.C_below HR0_2.out HB.out) | (with_reducible refine Kd.C_alloc ?_ _) | (with_reducible refine Kd.C_drewN ?_ _) | (with_reducible refine Kd.C_drew ?_))); (case side2 => exact HC0_2.out); rintro e w29 ⟨rfl, hb⟩; refine ⟨_, rfl, ?_⟩; replace a8 := yaa (yae (upB a8.out) hb); replace a9 := yaa (yae (upB a9.out) hb); replace b0 := yaa (yae (upB b0.out) hb); replace HB := yaa (yag (by repeat (with_reducible first | exact HB.out | apply yac | apply yab | apply yad | refine yaf ?_ (Aside0.out ‹_›))) hb); (try clear hb); have m6 := b3.out; have m7 := b7.out; obtain ⟨i5, i6, i7, i8, i9⟩ := cc5_ a9.out; obtain ⟨j0, j1, j2, j3⟩ := cf4_ a9.out; have j4 := blk_frozen a9.out 4) | (go_at_call 38; (with_reducible refine (spec_OpOk.calls a1_0 a1_1 a1_2 a1_3 a1_4 false _ A5.out).mono ?_); rintro e w32 ⟨rfl, hb⟩; replace a8 := yaa (yae (upB a8.out) hb); replace a9 := yaa (yae (upB a9.out) hb); replace b0 := yaa (yae (upB b0.out) hb); replace HB := yaa (yag (by repeat (with_reducible first | exact HB.out | apply yac | apply yab | apply yad | refine yaf ?_ (Aside0.out ‹_›))) hb); (try clear hb); obtain ⟨j5, j6, j7⟩ := cc3_ b0.out; obtain ⟨j8, j9⟩ := cf2_ b0.out; have k0 := blk_frozen b0.out 2))
 refine bodyPost_ret (results_ct rfl _ _ b4 25 #[.int .i64 0, .int .i64 0, .slice none 0 0] (0, 0) _ rfl (by (repeat refine oneB ?_); refine blk_put (cs := #[.int .i64 0, .int .i64 0, .slice none 0 0]) ?_ 2 _ rfl; refine blk_put (cs := #[.int .i64 0, .int .i64 0, .slice none 0 0]) ?_ 1 _ rfl; refine blk_put (cs := #[.int .i64 0, .int .i64 0, .slice none 0 0]) ?_ 0 _ rfl; exact upB b0.out) Try.underlying25 rfl (by kernel_rfl)) rfl ?_
 exact ⟨_, by first | rfl | (simp [*, errW_none, errW_some] <;> rfl), by first | exact Kd.R_nil _ _ _ _ _ | exact Kd.N_nil _ _ _ _ _ | exact Kd.V_nil _ _ _ _ _ | exact Kd.Q_nil _ _ _ _ _ | exact Kd.S_nil _ _ _ _ _, by repeat (with_reducible first | exact HB.out | apply yac | apply yab | apply yad | refine yaf ?_ (Aside0.out ‹_›))⟩
end
section
theorem eqA36 (d : Nat) (w : World) (x0 y0 : Int) (x1 y1 : Int) (x2 y2 : Int) (x3 y3 : Int) :
    (Op.equalIn (d + 2) 36 (.agg #[.int .i64 x0, .int .i64 x1, .int .i64 x2, .int .i64 x3]) (.agg #[.int .i64 y0, .int .i64 y1, .int .i64 y2, .int .i64 y3])).run Try.prog w = .ok (x0 == y0 && (x1 == y1 && (x2 == y2 && (x3 == y3)))) w := by
  refine eqA_of Try.underlying36 (by kernel_rfl) ?_
  refine eqf_cons (by rfl) (by go_simp; rfl) (by go_simp; rfl) (by go_simp) ?_
  refine eqf_cons (by rfl) (by go_simp; rfl) (by go_simp; rfl) (by go_simp) ?_
  refine eqf_cons (by rfl) (by go_simp; rfl) (by go_simp; rfl) (by go_simp) ?_
  exact eqf_last (by rfl) (by go_simp; rfl) (by go_simp; rfl) (by go_simp)
end
section
attribute [local go_sem high] eqA36
open Go.Proofs.YtoifpgkfpdeglaaW.PrintWords.Aside0 renaming mk → yaa
open Go.Proofs.YtoifpgkfpdeglaaW.PrintWords renaming pw_below_drewN → yab, below_alloc → yac, below_drew1 → yad
mutual
def laws_eaRas.j0 : Nat → Bool → Int → Int → List (S36) → Int → Int → List (S36) → Option (Bool)
 | 0, _, _, _, _, _, _, _ => none
 | k + 1, x26, x102000, x102001, x102002, x103000, x103001, x103002 => if x26 = true then (some false) else (laws_eaRas.l0 k 0 x102000 x102001 x102002 x103000 x103001 x103002)
def laws_eaRas.l0 : Nat → Int → Int → Int → List (S36) → Int → Int → List (S36) → Option (Bool)
 | 0, _, _, _, _, _, _, _ => none
 | k + 1, x5, x102000, x102001, x102002, x103000, x103001, x103002 => if x5 < (x102002.length : Int) then (if 0 ≤ x5 then (if x5 < (x103002.length : Int) then (if (!(((rd_T36 x102002 x5).f0) == ((rd_T36 x103002 x5).f0)) || (!(((rd_T36 x102002 x5).f1) == ((rd_T36 x103002 x5).f1)) || (!(((rd_T36 x102002 x5).f2) == ((rd_T36 x103002 x5).f2)) || (!(((rd_T36 x102002 x5).f3) == ((rd_T36 x103002 x5).f3)))))) = true then (some false) else (laws_eaRas.l0 k (wrap64 (x5 + 1)) x102000 x102001 x102002 x103000 x103001 x103002)) else (none)) else (none)) else (some true)
end
def laws_eaRas.f (k : Nat) (a0_0 : Int) (a0_1 : Int) (l0_2 : List (S36)) (a1_0 : Int) (a1_1 : Int) (l1_2 : List (S36)) : Option (Bool) := if a0_0 = a1_0 then (if a0_1 = a1_1 then (laws_eaRas.j0 k ((l0_2.length : Int) != (l1_2.length : Int)) a0_0 a0_1 l0_2 a1_0 a1_1 l1_2) else (laws_eaRas.j0 k true a0_0 a0_1 l0_2 a1_0 a1_1 l1_2)) else (laws_eaRas.j0 k true a0_0 a0_1 l0_2 a1_0 a1_1 l1_2)
set_option maxHeartbeats 8000000 in
set_option maxRecDepth 100000 in
theorem laws_eaRas.calls (k : Nat) (a0_0 : Int) (a0_1 : Int) (A0_2 : Option Addr) (c0_2 : Nat) (l0_2 : List (S36)) (a1_0 : Int) (a1_1 : Int) (A1_2 : Option Addr) (c1_2 : Nat) (l1_2 : List (S36)) (r : Bool) (w : World) (hr0_2 : Kd.C k36 w A0_2 l0_2.length l0_2) (hc0_2 : l0_2.length ≤ c0_2) (hr1_2 : Kd.C k36 w A1_2 l1_2.length l1_2) (hc1_2 : l1_2.length ≤ c1_2) (h : laws_eaRas.f k a0_0 a0_1 l0_2 a1_0 a1_1 l1_2 = some r) :
  Calls Try.prog 13 #[.agg #[.int .i64 a0_0, .int .i64 a0_1, .slice A0_2 l0_2.length c0_2], .agg #[.int .i64 a1_0, .int .i64 a1_1, .slice A1_2 l1_2.length c1_2]] w fun e w' => e = .returned (.bool r) ∧ Below w.heap.size w w' := by
 have hu25 := Try.underlying25; have hu36 := Try.underlying36; have HR0_2 := yaa hr0_2; have HC0_2 := yaa hc0_2; clear hr0_2 hc0_2; have HR1_2 := yaa hr1_2; have HC1_2 := yaa hc1_2; clear hr1_2 hc1_2; have HB := yaa (Below.refl w.heap.size w); have H : (if a0_0 = a1_0 then (if a0_1 = a1_1 then (laws_eaRas.j0 k ((l0_2.length : Int) != (l1_2.length : Int)) a0_0 a0_1 l0_2 a1_0 a1_1 l1_2) else (laws_eaRas.j0 k true a0_0 a0_1 l0_2 a1_0 a1_1 l1_2)) else (laws_eaRas.j0 k true a0_0 a0_1 l0_2 a1_0 a1_1 l1_2)) = some r := h; clear h; have HC3 := yaa H; clear H
 go_enter Try.func13, Try.ntmps13
 go_upto_region 1 with (first | ((with_reducible refine gd_ 2 rfl ?_); (try (refine gate_guard (by rfl) ?_; dsimp only)); refine bx_ 2 rfl #[.int .i64 a0_0, .int .i64 a0_1, .slice A0_2 l0_2.length c0_2] 25 ?_; intro b1 hg w4 hbox hb; have a6 := yaa (hbox); have c4 := yaa ((by rw [hg]; exact (below_size (upH HB.out)) : w.heap.size ≤ b1)); replace HB := yaa (below_step (upH HB.out) hb); have h1 := c4; clear hb hbox hg) | ((with_reducible refine gd_ 3 rfl ?_); (try (refine gate_guard (by rfl) ?_; dsimp only)); refine bx_ 3 rfl #[.int .i64 a1_0, .int .i64 a1_1, .slice A1_2 l1_2.length c1_2] 25 ?_; intro b2 hg w5 hbox hb; have b0 := yaa (hbox); have c5 := yaa ((by rw [hg]; exact (below_size (by repeat (with_reducible first | exact HB.out | apply yac | apply yab | apply yad | refine below_set ?_ (Aside0.out ‹_›)))) : w.heap.size ≤ b2)); replace HB := yaa (below_step (by repeat (with_reducible first | exact HB.out | apply yac | apply yab | apply yad | refine below_set ?_ (Aside0.out ‹_›))) hb); have h2 := c5; have a8 := yaa ((by rw [hg]; exact Nat.ne_of_lt (blk_lt (upB a6.out)) : b1 ≠ b2)); replace a6 := yaa (blk_below (upB a6.out) hb); have a9 := yaa a8.out.symm; clear hb hbox hg))
 repeat (go_quiet (first | ((with_reducible refine gd_ 2 rfl ?_); (try (refine gate_guard (by rfl) ?_; dsimp only)); refine bx_ 2 rfl #[.int .i64 a0_0, .int .i64 a0_1, .slice A0_2 l0_2.length c0_2] 25 ?_; intro b1 hg w4 hbox hb; have a6 := yaa (hbox); have c4 := yaa ((by rw [hg]; exact (below_size (upH HB.out)) : w.heap.size ≤ b1)); replace HB := yaa (below_step (upH HB.out) hb); have h1 := c4; clear hb hbox hg) | ((with_reducible refine gd_ 3 rfl ?_); (try (refine gate_guard (by rfl) ?_; dsimp only)); refine bx_ 3 rfl #[.int .i64 a1_0, .int .i64 a1_1, .slice A1_2 l1_2.length c1_2] 25 ?_; intro b2 hg w5 hbox hb; have b0 := yaa (hbox); have c5 := yaa ((by rw [hg]; exact (below_size (by repeat (with_reducible first | exact HB.out | apply yac | apply yab | apply yad | refine below_set ?_ (Aside0.out ‹_›)))) : w.heap.size ≤ b2)); replace HB := yaa (below_step (by repeat (with_reducible first | exact HB.out | apply yac | apply yab | apply yad | refine below_set ?_ (Aside0.out ‹_›))) hb); have h2 := c5; have a8 := yaa ((by rw [hg]; exact Nat.ne_of_lt (blk_lt (upB a6.out)) : b1 ≠ b2)); replace a6 := yaa (blk_below (upB a6.out) hb); have a9 := yaa a8.out.symm; clear hb hbox hg)); go_upto_region 1 with (first | ((with_reducible refine gd_ 2 rfl ?_); (try (refine gate_guard (by rfl) ?_; dsimp only)); refine bx_ 2 rfl #[.int .i64 a0_0, .int .i64 a0_1, .slice A0_2 l0_2.length c0_2] 25 ?_; intro b1 hg w4 hbox hb; have a6 := yaa (hbox); have c4 := yaa ((by rw [hg]; exact (below_size (upH HB.out)) : w.heap.size ≤ b1)); replace HB := yaa (below_step (upH HB.out) hb); have h1 := c4; clear hb hbox hg) | ((with_reducible refine gd_ 3 rfl ?_); (try (refine gate_guard (by rfl) ?_; dsimp only)); refine bx_ 3 rfl #[.int .i64 a1_0, .int .i64 a1_1, .slice A1_2 l1_2.length c1_2] 25 ?_; intro b2 hg w5 hbox hb; have b0 := yaa (hbox); have c5 := yaa ((by rw [hg]; exact (below_size (by repeat (with_reducible first | exact HB.out | apply yac | apply yab | apply yad | refine below_set ?_ (Aside0.out ‹_›)))) : w.heap.size ≤ b2)); replace HB := yaa (below_step (by repeat (with_reducible first | exact HB.out | apply yac | apply yab | apply yad | refine below_set ?_ (Aside0.out ‹_›))) hb); have h2 := c5; have a8 := yaa ((by rw [hg]; exact Nat.ne_of_lt (blk_lt (upB a6.out)) : b1 ≠ b2)); replace a6 := yaa (blk_below (upB a6.out) hb); have a9 := yaa a8.out.symm; clear hb hbox hg)))
 (try simp only [Act.put, List.setIfInBounds_toArray, List.set_cons_zero, List.set_cons_succ])
 go_cut [26] (fun v26 wc => ∃ (kq : Nat) (d0 : Bool), v26 = .bool d0 ∧ Aside0 (laws_eaRas.j0 kq d0 a0_0 a0_1 l0_2 a1_0 a1_1 l1_2 = some r) ∧ Aside0 (kq ≤ k) ∧ Aside0 (wc.heap[b1]? = some (.cells #[.int .i64 a0_0, .int .i64 a0_1, (.slice A0_2 l0_2.length c0_2)] 25 (0, 0))) ∧ Aside0 (wc.heap[b2]? = some (.cells #[.int .i64 a1_0, .int .i64 a1_1, (.slice A1_2 l1_2.length c1_2)] 25 (0, 0))) ∧ Aside0 (Below w.heap.size w wc))
 case first =>
  have H := HC3.out; clear HC3
  by_cases c6 : a0_0 = a1_0
  ·
   rw [if_pos c6] at H
   have c9 := beq_iff_eq.mpr c6; have h3 := bne_eq_false_iff_eq.mpr c6; clear c6
   (first | rw [c9] | (simp only [i64_w, i32_w]; rw [c9]) | skip)
   by_cases c7 : a0_1 = a1_1
   ·
    rw [if_pos c7] at H
    have h4 := beq_iff_eq.mpr c7; have h5 := bne_eq_false_iff_eq.mpr c7; clear c7; have H' := yaa H; clear H; have m3 := a8.out; have m4 := a9.out; obtain ⟨g5, g6, g7⟩ := cc3_ a6.out; obtain ⟨g8, g9, h0⟩ := cf3_ a6.out; obtain ⟨d1, d2, d3⟩ := cc3_ b0.out; obtain ⟨d4, d5, d6⟩ := cf3_ b0.out
    go_wp2
    repeat (go_quiet (fail); try go_wp2)
    go_meet
    case rel => exact ⟨_, (((l0_2.length : Int) != (l1_2.length : Int))), (by first | rfl | (simp; done) | (simp [*]; done)), H', ⟨by first | omega | exact Nat.le_refl _⟩, ⟨by exact upB a6.out⟩, ⟨by exact upB b0.out⟩, ⟨by repeat (with_reducible first | exact HB.out | apply yac | apply yab | apply yad | refine below_set ?_ (Aside0.out ‹_›))⟩⟩
   rw [if_neg c7] at H
   have h4 := beq_eq_false_iff_ne.mpr c7; have h5 := bne_iff_ne.mpr c7; have H' := yaa H; clear H; have l3 := a8.out; have l4 := a9.out; obtain ⟨d7, d8, d9⟩ := cc3_ a6.out; obtain ⟨e0, e1, e2⟩ := cf3_ a6.out; obtain ⟨e3, e4, e5⟩ := cc3_ b0.out; obtain ⟨e6, e7, e8⟩ := cf3_ b0.out
   go_wp2
   repeat (go_quiet (fail); try go_wp2)
   go_meet
   case rel => exact ⟨_, (true), (by first | rfl | (simp; done) | (simp [*]; done)), H', ⟨by first | omega | exact Nat.le_refl _⟩, ⟨by exact upB a6.out⟩, ⟨by exact upB b0.out⟩, ⟨by repeat (with_reducible first | exact HB.out | apply yac | apply yab | apply yad | refine below_set ?_ (Aside0.out ‹_›))⟩⟩
  rw [if_neg c6] at H
  have c9 := beq_eq_false_iff_ne.mpr c6; have h3 := bne_iff_ne.mpr c6
  (first | rw [c9] | (simp only [i64_w, i32_w]; rw [c9]) | skip)
  have H' := yaa H; clear H; have l5 := a8.out; have l6 := a9.out; obtain ⟨e9, f4, f5⟩ := cc3_ a6.out; obtain ⟨f6, f7, f8⟩ := cf3_ a6.out; obtain ⟨f9, g0, g1⟩ := cc3_ b0.out; obtain ⟨g2, g3, g4⟩ := cf3_ b0.out
  go_wp2
  repeat (go_quiet (fail); try go_wp2)
  go_meet
  case rel => exact ⟨_, (true), (by first | rfl | (simp; done) | (simp [*]; done)), H', ⟨by first | omega | exact Nat.le_refl _⟩, ⟨by exact upB a6.out⟩, ⟨by exact upB b0.out⟩, ⟨by repeat (with_reducible first | exact HB.out | apply yac | apply yab | apply yad | refine below_set ?_ (Aside0.out ‹_›))⟩⟩
 case rest =>
  clear HC3; (try clear c1); (try clear p2); (try clear c6); (try clear c9); (try clear h3); (try clear c7); (try clear h4); (try clear h5); (try clear c8); (try clear c11); (try clear c13); (try clear c14); (try clear d1); (try clear d2); (try clear d3); (try clear d7); (try clear d8); (try clear d9); (try clear e3); (try clear e4); (try clear e5); (try clear e9); (try clear f4); (try clear f5); (try clear f9); (try clear g0); (try clear g1); (try clear g5); (try clear g6); (try clear g7); (try clear d4); (try clear d5); (try clear d6); (try clear e0); (try clear e1); (try clear e2); (try clear e6); (try clear e7); (try clear e8); (try clear f6); (try clear f7); (try clear f8); (try clear g2); (try clear g3); (try clear g4); (try clear g8); (try clear g9); (try clear h0); obtain ⟨kq, d0, rfl, HA, HJ2, a6, b0, HB⟩ := hcut
  cases kq with
  | zero => exact absurd HA.out (by simp [laws_eaRas.j0])
  | succ kj2 =>
   have H := HA.out; clear HA
   simp only [laws_eaRas.j0] at H
   by_cases c17 : d0 = true
   ·
    subst c17
    rw [if_pos rfl] at H
    obtain rfl := Option.some.inj H
    go_wp2
    repeat (go_quiet (fail); try go_wp2)
    go_ret
    exact ⟨by first | rfl | (simp [*, errW_none, errW_some] <;> rfl), by repeat (with_reducible first | exact HB.out | apply yac | apply yab | apply yad | refine below_set ?_ (Aside0.out ‹_›))⟩
   replace c17 := Bool.eq_false_iff.mpr c17
   subst c17
   rw [if_neg (show ¬ (false = true) by decide)] at H
   have H' := yaa H; clear H
   go_wp2
   repeat (go_quiet (fail); try go_wp2)
   (try simp only [Act.put, List.setIfInBounds_toArray, List.set_cons_zero, List.set_cons_succ])
   go_loopg [5] kj2 (fun kq v5 w' => ∃ (a7 : Int), v5 = .int .i64 a7 ∧ Aside0 (laws_eaRas.l0 kq a7 a0_0 a0_1 l0_2 a1_0 a1_1 l1_2 = some r) ∧ Aside0 (kq ≤ kj2) ∧ Aside0 (w'.heap[b1]? = some (.cells #[.int .i64 a0_0, .int .i64 a0_1, (.slice A0_2 l0_2.length c0_2)] 25 (0, 0))) ∧ Aside0 (w'.heap[b2]? = some (.cells #[.int .i64 a1_0, .int .i64 a1_1, (.slice A1_2 l1_2.length c1_2)] 25 (0, 0))) ∧ Aside0 (Below w.heap.size w w'))
   case atStart => exact ⟨(0), (by first | rfl | (simp; done) | (simp [*]; done)), H', ⟨Nat.le_refl _⟩, ⟨by exact upB a6.out⟩, ⟨by exact upB b0.out⟩, ⟨by repeat (with_reducible first | exact HB.out | apply yac | apply yab | apply yad | refine below_set ?_ (Aside0.out ‹_›))⟩⟩
   case round =>
    clear H'; (try clear c1); (try clear p2); (try clear c6); (try clear c9); (try clear h3); (try clear c7); (try clear h4); (try clear h5); (try clear c8); (try clear c11); (try clear c13); (try clear c14); (try clear c17); (try clear d1); (try clear d2); (try clear d3); (try clear d7); (try clear d8); (try clear d9); (try clear e3); (try clear e4); (try clear e5); (try clear e9); (try clear f4); (try clear f5); (try clear f9); (try clear g0); (try clear g1); (try clear g5); (try clear g6); (try clear g7); (try clear d4); (try clear d5); (try clear d6); (try clear e0); (try clear e1); (try clear e2); (try clear e6); (try clear e7); (try clear e8); (try clear f6); (try clear f7); (try clear f8); (try clear g2); (try clear g3); (try clear g4); (try clear g8); (try clear g9); (try clear h0); (try clear p2); obtain ⟨a7, rfl, HA, HK2, a6, b0, HB⟩ := hrel
    cases gk with
    | zero => exact absurd HA.out (by simp [laws_eaRas.l0])
    | succ k2 =>
     have H := HA.out; clear HA
     simp only [laws_eaRas.l0] at H
     by_cases c18 : a7 < (l0_2.length : Int)
     rotate_left
     ·
      rw [if_neg c18] at H
      have h8 : decide (a7 < (l0_2.length : Int)) = false := decide_eq_false c18; clear c18; obtain rfl := Option.some.inj H; have m1 := a8.out; have m2 := a9.out; obtain ⟨k6, k7, k8⟩ := cc3_ a6.out; obtain ⟨k9, l1, l2⟩ := cf3_ a6.out
      go_wp2
      repeat (go_quiet (fail); try go_wp2)
      go_ret
      exact ⟨by first | rfl | (simp [*, errW_none, errW_some] <;> rfl), by repeat (with_reducible first | exact HB.out | apply yac | apply yab | apply yad | refine below_set ?_ (Aside0.out ‹_›))⟩
     rw [if_pos c18] at H
     have h8 : decide (a7 < (l0_2.length : Int)) = true := decide_eq_true c18; clear c18
     by_cases c19 : 0 ≤ a7
     rotate_left
     ·
      rw [if_neg c19] at H
      exact absurd H (by simp)
     rw [if_pos c19] at H
     replace c19 := decide_eq_true c19
     by_cases c20 : a7 < (l1_2.length : Int)
     rotate_left
     ·
      rw [if_neg c20] at H
      exact absurd H (by simp)
     rw [if_pos c20] at H
     replace c20 := decide_eq_true c20
     by_cases c21 : (!(((rd_T36 l0_2 a7).f0) == ((rd_T36 l1_2 a7).f0)) || (!(((rd_T36 l0_2 a7).f1) == ((rd_T36 l1_2 a7).f1)) || (!(((rd_T36 l0_2 a7).f2) == ((rd_T36 l1_2 a7).f2)) || (!(((rd_T36 l0_2 a7).f3) == ((rd_T36 l1_2 a7).f3)))))) = true
     ·
      rw [if_pos c21] at H
      have h9 : (!(((rd_T36 l0_2 a7).f0) == ((rd_T36 l1_2 a7).f0)) || (!(((rd_T36 l0_2 a7).f1) == ((rd_T36 l1_2 a7).f1)) || (!(((rd_T36 l0_2 a7).f2) == ((rd_T36 l1_2 a7).f2)) || (!(((rd_T36 l0_2 a7).f3) == ((rd_T36 l1_2 a7).f3)))))) = true := c21; clear c21; obtain rfl := Option.some.inj H; have l7 := a8.out; have l8 := a9.out; obtain ⟨i0, i1, i2⟩ := cc3_ a6.out; obtain ⟨i3, i4, i5⟩ := cf3_ a6.out; have p103 : 0 ≤ (a7 : Int) := of_decide_eq_true (by assumption); have q103 : a7 < (l0_2.length : Int) := of_decide_eq_true (by assumption); obtain ⟨ad103, h6, b3, b4, b5, b6⟩ := at_T36 HR0_2.out a7 p103 q103
      cases h6
      replace b3 := (upc_ HB.out b3 :); replace b4 := (upc_ HB.out b4 :); replace b5 := (upc_ HB.out b5 :); replace b6 := (upc_ HB.out b6 :); replace p103 := eq_true p103; replace q103 := eq_true q103; obtain ⟨i6, i7, i8⟩ := cc3_ b0.out; obtain ⟨i9, j1, j2⟩ := cf3_ b0.out; have p104 : 0 ≤ (a7 : Int) := of_decide_eq_true (by assumption); have q104 : a7 < (l1_2.length : Int) := of_decide_eq_true (by assumption); obtain ⟨ad104, h7, b7, b8, b9, c0⟩ := at_T36 HR1_2.out a7 p104 q104
      cases h7
      replace b7 := (upc_ HB.out b7 :); replace b8 := (upc_ HB.out b8 :); replace b9 := (upc_ HB.out b9 :); replace c0 := (upc_ HB.out c0 :); replace p104 := eq_true p104; replace q104 := eq_true q104
      go_wp2
      repeat (go_quiet (fail); try go_wp2)
      go_ret
      exact ⟨by first | rfl | (simp [*, errW_none, errW_some] <;> rfl), by repeat (with_reducible first | exact HB.out | apply yac | apply yab | apply yad | refine below_set ?_ (Aside0.out ‹_›))⟩
     rw [if_neg c21] at H
     have h9 : (!(((rd_T36 l0_2 a7).f0) == ((rd_T36 l1_2 a7).f0)) || (!(((rd_T36 l0_2 a7).f1) == ((rd_T36 l1_2 a7).f1)) || (!(((rd_T36 l0_2 a7).f2) == ((rd_T36 l1_2 a7).f2)) || (!(((rd_T36 l0_2 a7).f3) == ((rd_T36 l1_2 a7).f3)))))) = false := (by simpa using c21); clear c21; have H' := yaa H; clear H; have l9 := a8.out; have m0 := a9.out; obtain ⟨j3, j4, j5⟩ := cc3_ a6.out; obtain ⟨j6, j7, j8⟩ := cf3_ a6.out; have p103 : 0 ≤ (a7 : Int) := of_decide_eq_true (by assumption); have q103 : a7 < (l0_2.length : Int) := of_decide_eq_true (by assumption); obtain ⟨ad103, h6, b3, b4, b5, b6⟩ := at_T36 HR0_2.out a7 p103 q103
     cases h6
     replace b3 := (upc_ HB.out b3 :); replace b4 := (upc_ HB.out b4 :); replace b5 := (upc_ HB.out b5 :); replace b6 := (upc_ HB.out b6 :); replace p103 := eq_true p103; replace q103 := eq_true q103; obtain ⟨j9, k0, k1⟩ := cc3_ b0.out; obtain ⟨k3, k4, k5⟩ := cf3_ b0.out; have p104 : 0 ≤ (a7 : Int) := of_decide_eq_true (by assumption); have q104 : a7 < (l1_2.length : Int) := of_decide_eq_true (by assumption); obtain ⟨ad104, h7, b7, b8, b9, c0⟩ := at_T36 HR1_2.out a7 p104 q104
     cases h7
     replace b7 := (upc_ HB.out b7 :); replace b8 := (upc_ HB.out b8 :); replace b9 := (upc_ HB.out b9 :); replace c0 := (upc_ HB.out c0 :); replace p104 := eq_true p104; replace q104 := eq_true q104
     go_wp2
     repeat (go_quiet (fail); try go_wp2)
     go_roundg k2
     case measure => have := HJ2.out; have := HK2.out; omega
     case rel => exact ⟨(wrap64 (a7 + 1)), (by first | rfl | (simp; done) | (simp [*]; done)), H', ⟨by have := HJ2.out; have := HK2.out; omega⟩, ⟨by exact upB a6.out⟩, ⟨by exact upB b0.out⟩, ⟨by repeat (with_reducible first | exact HB.out | apply yac | apply yab | apply yad | refine below_set ?_ (Aside0.out ‹_›))⟩⟩
end
section
def laws_eaOk.f  : Option (Bool) := (impl_PixOk.f 1 2 3 4).bind fun t101 => (some t101)
set_option maxHeartbeats 8000000 in
set_option maxRecDepth 100000 in
theorem laws_eaOk.calls  (r : Bool) (w : World) (h : laws_eaOk.f  = some r) :
    Calls Try.prog 14 #[] w fun e w' => e = .returned (.bool r) ∧ Below w.heap.size w w' := by
  have hu36 := Try.underlying36; have HB := Aside0.mk (Below.refl w.heap.size w); have H : ((impl_PixOk.f 1 2 3 4).bind fun t101 => (some t101)) = some r := h; clear h; obtain ⟨t101, A1, H⟩ := bindA H; (try dsimp only at H); obtain rfl := Option.some.inj H
  go_enter Try.func14, Try.ntmps14
  go_wp2_with (first | ((with_reducible refine gc_ 40 rfl ?_); refine gl_ (some 2) rfl Try.func40 #[.agg #[.int .i64 1, .int .i64 2, .int .i64 3, .int .i64 4]] ?_; (with_reducible refine (impl_PixOk.calls 1 2 3 4 t101 _ A1.out).mono ?_); rintro e w2 ⟨rfl, hb⟩; refine ⟨_, rfl, ?_⟩; replace HB := Aside0.mk (below_step (upH HB.out) hb); (try clear hb)))
  go_ret
  exact ⟨by first | rfl | (simp [*, errW_none, errW_some] <;> rfl), upH HB.out⟩
end
section
open Go.Proofs.YtoifpgkfpdeglaaW.PrintWords.Aside0 renaming mk → yaa
open Go.Proofs.YtoifpgkfpdeglaaW.PrintWords.KeepBut renaming set_ → yab, trans → yan
open Go.Proofs.YtoifpgkfpdeglaaW.PrintWords renaming pw_below_drewN → yac, keep_drewN → yah, keep_alloc → yai, below_alloc → yaj, below_drew1 → yak, keep_drew → yal, below_set → yam
open Go.Proofs.Ytoifpgkfpdeglaa.X.IsS86 renaming alloc → yad, drewN → yae, set_1 → yaf, drew → yag
end
end Go.Proofs.Ytoifpgkfpdeglaa.X
