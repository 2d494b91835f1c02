/- Lemmas and contracts for the law FnCfgOk, part 3: of the program's functions, and over data alone. No condition. -/
import Derived.Test.YtgpkkkmapgnhkaaMFnCfgOk1
import Derived.Test.YtgpkkkmapgnhkaaMFnCfgOk2
import Derived.Test.YtgpkkkmapgnhkaaWWords
namespace Go.Proofs.Ytgpkkkmapgnhkaa.X
open Go.RowKit Go.Proofs.YtgpkkkmapgnhkaaW.PrintWords Go.Proofs.YtgpkkkmapgnhkaaW.PrintLast Go.Proofs.YtgpkkkmapgnhkaaW.PrintMore
attribute [local go_sem] max2_int min2_int max_two min_two max_three min_three max_four min_four   -- for this text's walks alone
set_option linter.unusedVariables false
set_option linter.unusedSimpArgs false

/-! ### spec_l20Open: function 61 -/
def spec_l20Open.f (l0 : List Int) : Option (List Int × Int) := if (l0.length : Int) > 2000 then (if 2000 ≤ (l0.length : Int) then (some (l0.take 2000, 0)) else (none)) else (some (l0, 0))
set_option maxHeartbeats 8000000 in
set_option maxRecDepth 100000 in
theorem spec_l20Open.calls (A0 : Option Addr) (c0 : Nat) (l0 : List Int) (r1 : List Int) (r2 : Int) (w0 w : World) (hB : Below w0.heap.size w0 w) (hr0 : Kd.C (Kd.int .u8) w0 A0 l0.length l0) (hc0 : l0.length ≤ c0) (h : spec_l20Open.f l0 = some (r1, r2)) :
    Calls Try.prog 61 #[.slice A0 l0.length c0] w fun e w' => ∃ g_ : Nat, e = .returned (.pointer (some ⟨g_, 0, none⟩)) ∧ IsS143 w0 w' g_ r1 r2 ∧ Below w0.heap.size w0 w' ∧ Below w.heap.size w w' := by
  have hu143 := Try.underlying143
  have HR0 := Aside0.mk hr0
  have HC0 := Aside0.mk hc0
  clear hr0 hc0
  have HBW := Aside0.mk (Below.refl w.heap.size w)
  have HW0 := Aside0.mk hB.size
  have HB := Aside0.mk hB
  clear hB
  have H : (if (l0.length : Int) > 2000 then (if 2000 ≤ (l0.length : Int) then (some (l0.take 2000, 0)) else (none)) else (some (l0, 0))) = some (r1, r2) := h
  clear h
  by_cases c2 : (l0.length : Int) > 2000
  · rw [if_pos c2] at H
    have c2b0 : decide (2000 < (l0.length : Int)) = true := decide_eq_true c2
    have c2b1 : decide (2000 < l0.length) = true := decide_eq_true (by omega)
    clear c2
    by_cases c3 : 2000 ≤ (l0.length : Int)
    · rw [if_pos c3] at H
      have c3b0 := eq_true c3
      have c3b1 : decide (2000 ≤ (l0.length : Int)) = true := decide_eq_true c3
      clear c3
      simp only [Option.some.injEq, Prod.mk.injEq] at H
      obtain ⟨rfl, rfl⟩ := H
      obtain ⟨i04, hi04, _, hsz4, _⟩ := info_parts info5
      obtain ⟨hcut4, hA4, hC4⟩ := print_take_of (P := Try.prog) (Value.int .u8) 0 22 5 .i64 Try.underlying22 hi04 hsz4 A0 c0 l0 2000 (by omega) (of_decide_eq_true (by first | (with_reducible assumption) | assumption)) HC0.out
      have HR101 := Aside0.mk (Kd.C_of_reads (h1 := fun _ => rfl) (hA4 _ (Kd.reads_of_C HR0.out)))
      have HC101 := Aside0.mk hC4
      clear hA4 hC4 hi04 hsz4
      go_enter Try.func61, Try.ntmps61
      go_wp2_with (first | ((with_reducible refine gate_dst (N := 10) rfl ?_); refine box_event ?hg (N := 10) ?hd (cs := #[.slice A0 (l0.take 2000).length c0, .int .i64 0]) (t := 143) ?hr ?_; (case hd => rfl); (case hg => rfl); (case hr => first | (go_simp; done) | (go_simp; rfl)); intro gb102 hg w5 hbox hb; have n0_ := Aside0.mk (below_step HBW.out hb); have n1_ := Aside0.mk (below_step (by repeat (first | (with_reducible first | exact HB.out | apply below_alloc | apply pw_below_drewN | apply below_drew1) | exact HB.out)) hb); have n2_ := Aside0.mk (hbox); have n3_ := Aside0.mk ((by rw [hg]; exact (below_size (by repeat (first | (with_reducible first | exact HBW.out | apply below_alloc | apply pw_below_drewN | apply below_drew1) | exact HBW.out))) : w.heap.size ≤ gb102)); have n4_ := Aside0.mk ((Nat.le_trans HW0.out (by rw [hg]; exact (below_size (by repeat (first | (with_reducible first | exact HBW.out | apply below_alloc | apply pw_below_drewN | apply below_drew1) | exact HBW.out))) : w.heap.size ≤ gb102) : w0.heap.size ≤ gb102)); clear HBW; clear HB; have HBW := n0_; have HB := n1_; have BK102 := n2_; have GW102 := n3_; have GE102 := n4_; clear n0_ n1_ n2_ n3_ n4_; clear hb hbox hg))
      go_ret
      exact ⟨_, rfl, (show IsS143 w0 _ gb102 (l0.take 2000) 0 from ⟨_, _, by (with_reducible repeat (first | refine blk_drewN ?_ _ | refine blk_drew ?_ | refine blk_alloc ?_ _)); exact BK102.out, GE102.out, HR101.out⟩), by repeat (first | (with_reducible first | exact HB.out | apply below_alloc | apply pw_below_drewN | apply below_drew1 | refine below_set ?_ GE102.out) | exact HB.out), by repeat (first | (with_reducible first | exact HBW.out | apply below_alloc | apply pw_below_drewN | apply below_drew1 | refine below_set ?_ GW102.out) | exact HBW.out)⟩
    · rw [if_neg c3] at H
      exact absurd H (by simp)
  · rw [if_neg c2] at H
    have c2b0 : decide (2000 < (l0.length : Int)) = false := decide_eq_false c2
    have c2b1 : decide (2000 < l0.length) = false := decide_eq_false (by omega)
    clear c2
    simp only [Option.some.injEq, Prod.mk.injEq] at H
    obtain ⟨rfl, rfl⟩ := H
    go_enter Try.func61, Try.ntmps61
    go_wp2_with (first | ((with_reducible refine gate_dst (N := 10) rfl ?_); refine box_event ?hg (N := 10) ?hd (cs := #[.slice A0 l0.length c0, .int .i64 0]) (t := 143) ?hr ?_; (case hd => rfl); (case hg => rfl); (case hr => first | (go_simp; done) | (go_simp; rfl)); intro gb103 hg w6 hbox hb; have n0_ := Aside0.mk (below_step HBW.out hb); have n1_ := Aside0.mk (below_step (by repeat (first | (with_reducible first | exact HB.out | apply below_alloc | apply pw_below_drewN | apply below_drew1) | exact HB.out)) hb); have n2_ := Aside0.mk (hbox); have n3_ := Aside0.mk ((by rw [hg]; exact (below_size (by repeat (first | (with_reducible first | exact HBW.out | apply below_alloc | apply pw_below_drewN | apply below_drew1) | exact HBW.out))) : w.heap.size ≤ gb103)); have n4_ := Aside0.mk ((Nat.le_trans HW0.out (by rw [hg]; exact (below_size (by repeat (first | (with_reducible first | exact HBW.out | apply below_alloc | apply pw_below_drewN | apply below_drew1) | exact HBW.out))) : w.heap.size ≤ gb103) : w0.heap.size ≤ gb103)); clear HBW; clear HB; have HBW := n0_; have HB := n1_; have BK103 := n2_; have GW103 := n3_; have GE103 := n4_; clear n0_ n1_ n2_ n3_ n4_; clear hb hbox hg))
    go_ret
    exact ⟨_, rfl, (show IsS143 w0 _ gb103 l0 0 from ⟨_, _, by (with_reducible repeat (first | refine blk_drewN ?_ _ | refine blk_drew ?_ | refine blk_alloc ?_ _)); exact BK103.out, GE103.out, HR0.out⟩), by repeat (first | (with_reducible first | exact HB.out | apply below_alloc | apply pw_below_drewN | apply below_drew1 | refine below_set ?_ GE103.out) | exact HB.out), by repeat (first | (with_reducible first | exact HBW.out | apply below_alloc | apply pw_below_drewN | apply below_drew1 | refine below_set ?_ GW103.out) | exact HBW.out)⟩

end Go.Proofs.Ytgpkkkmapgnhkaa.X

namespace Go.Proofs.Ytgpkkkmapgnhkaa.X
open Go.RowKit Go.Proofs.YtgpkkkmapgnhkaaW.PrintWords Go.Proofs.YtgpkkkmapgnhkaaW.PrintLast Go.Proofs.YtgpkkkmapgnhkaaW.PrintMore
attribute [local go_sem] max2_int min2_int max_two min_two max_three min_three max_four min_four   -- for this text's walks alone
set_option linter.unusedVariables false
set_option linter.unusedSimpArgs false

/-! ### spec_DrawCfgOk: function 13 -/
def spec_DrawCfgOk.f (k : Nat) (l0 : List Int) : Option (List Int × Int × Int × Int × Int × Int × Int) := (spec_l20Open.f l0).bind fun bt102 => ((spec_l20Cfg.f k bt102.1 bt102.2 2).bind fun bt105 => (some (bt105.1, bt105.2.1, bt105.2.2.1, bt105.2.2.2.1, bt105.2.2.2.2.1, bt105.2.2.2.2.2.1, bt105.2.2.2.2.2.2.1)))
theorem spec_DrawCfgOk.mono : ∀ a0 k, LeO (spec_DrawCfgOk.f k a0) (spec_DrawCfgOk.f (k + 1) a0) := by
  intro a0 k
  unfold spec_DrawCfgOk.f
  repeat' first
      | (with_reducible exact spec_l20Cfg.mono _ _ _ _)
      | (with_reducible exact LeO.refl _)
      | (with_reducible exact LeO.none _)
      | (with_reducible refine LeO.ite ?_ ?_)
      | (with_reducible refine LeO.bind ?_ (fun _ => ?_))
      | exact spec_l20Cfg.mono _ _ _ _
      | exact LeO.none _
      | refine LeO.ite ?_ ?_
      | refine LeO.bind ?_ (fun _ => ?_)
set_option maxHeartbeats 8000000 in
set_option maxRecDepth 100000 in
theorem spec_DrawCfgOk.calls (k : Nat) (A0 : Option Addr) (c0 : Nat) (l0 : List Int) (r1 : List Int) (r2 : Int) (r3 : Int) (r4 : Int) (r5 : Int) (r6 : Int) (r7 : Int) (w : World) (hr0 : Kd.C (Kd.int .u8) w A0 l0.length l0) (hc0 : l0.length ≤ c0) (h : spec_DrawCfgOk.f k l0 = some (r1, r2, r3, r4, r5, r6, r7)) :
    Calls Try.prog 13 #[.slice A0 l0.length c0] w fun e w' => ∃ v0_ : Value, e = .returned (.agg #[v0_, .int .i64 r2, .int .i64 r3, .int .i64 r4, .int .i64 r5, .int .i64 r6, .int .i64 r7]) ∧ Kd.R (Kd.int .u8) 5 w' w.heap.size (fun _ => True) v0_ r1 ∧ Below w.heap.size w w' := by
  have hu24 := Try.underlying24
  have HR0 := Aside0.mk hr0
  have HC0 := Aside0.mk hc0
  clear hr0 hc0
  have HB := Aside0.mk (Below.refl w.heap.size w)
  have H : ((spec_l20Open.f l0).bind fun bt102 => ((spec_l20Cfg.f k bt102.1 bt102.2 2).bind fun bt105 => (some (bt105.1, bt105.2.1, bt105.2.2.1, bt105.2.2.2.1, bt105.2.2.2.2.1, bt105.2.2.2.2.2.1, bt105.2.2.2.2.2.2.1)))) = some (r1, r2, r3, r4, r5, r6, r7) := h
  clear h
  replace H := Option.bind_eq_some_iff.mp H
  obtain ⟨⟨t102, t103⟩, A20, H⟩ := H
  replace H : ((spec_l20Cfg.f k t102 t103 2).bind fun bt105 => (some (bt105.1, bt105.2.1, bt105.2.2.1, bt105.2.2.2.1, bt105.2.2.2.2.1, bt105.2.2.2.2.2.1, bt105.2.2.2.2.2.2.1))) = some (r1, r2, r3, r4, r5, r6, r7) := H
  have A2 := Aside0.mk A20
  clear A20
  replace H := Option.bind_eq_some_iff.mp H
  obtain ⟨⟨t105, t108, t109, t110, t111, t112, t113, t114⟩, A30, H⟩ := H
  replace H : (some (t105, t108, t109, t110, t111, t112, t113)) = some (r1, r2, r3, r4, r5, r6, r7) := H
  have A3 := Aside0.mk A30
  clear A30
  simp only [Option.some.injEq, Prod.mk.injEq] at H
  obtain ⟨rfl, rfl, rfl, rfl, rfl, rfl, rfl⟩ := H
  go_enter Try.func13, Try.ntmps13
  go_wp2_with (first | ((with_reducible refine gate_dst (N := 2) rfl ?_); refine box_event ?hg (N := 2) ?hd (cs := #[.slice none 0 0, .int .i64 0, .int .i64 0, .int .i64 0, .int .i64 0, .int .i64 0, .int .i64 0]) (t := 24) ?hr ?_; (case hd => rfl); (case hg => rfl); (case hr => first | (go_simp; done) | (go_simp; rfl)); intro gb101 hg w4 hbox hb; have n0_ := Aside0.mk (below_step (by repeat (first | (with_reducible first | exact HB.out | apply below_alloc | apply pw_below_drewN | apply below_drew1) | exact HB.out)) hb); have n1_ := Aside0.mk (hbox); have n2_ := Aside0.mk ((by rw [hg]; exact (below_size (by repeat (first | (with_reducible first | exact HB.out | apply below_alloc | apply pw_below_drewN | apply below_drew1) | exact HB.out))) : w.heap.size ≤ gb101)); have n3_ := Aside0.mk ((by rw [hg]; exact (below_size (by repeat (first | (with_reducible first | exact HB.out | apply below_alloc | apply pw_below_drewN | apply below_drew1) | exact HB.out))) : w.heap.size ≤ gb101)); clear HB; have HB := n0_; have BK101 := n1_; have GW101 := n2_; have GE101 := n3_; clear n0_ n1_ n2_ n3_; clear hb hbox hg) | ((with_reducible refine gate_callee (f := 61) rfl ?_); refine goesL_ (some 4) rfl rfl Try.func61 (by kernel_rfl) rfl #[.slice A0 l0.length c0] rfl (by (try simp only [List.map_toArray, List.map_cons, List.map_nil]); first | done | rfl | (simp only [List.length_drop, List.length_take]; rfl)) ?_; (with_reducible refine (spec_l20Open.calls _ _ l0 t102 t103 w _ ?side1 ?side2 ?side3 A2.out).mono ?_); (case side1 => repeat (first | (with_reducible first | exact HB.out | apply below_alloc | apply pw_below_drewN | apply below_drew1 | refine below_set ?_ GE101.out) | exact HB.out)); (case side2 => exact HR0.out); (case side3 => exact HC0.out); rintro e w5 ⟨g104, rfl, hi, hb, hb2⟩; refine ⟨_, rfl, ?_⟩; have n0_ := Aside0.mk (blk_below (g := gb101) (o := .cells #[.slice none 0 0, .int .i64 0, .int .i64 0, .int .i64 0, .int .i64 0, .int .i64 0, .int .i64 0] 24 (0, 0)) (by (with_reducible repeat (first | refine blk_drewN ?_ _ | refine blk_drew ?_ | refine blk_alloc ?_ _)); exact BK101.out) hb2); have n1_ := Aside0.mk (hb); have n2_ := Aside0.mk (hi); have n3_ := Aside0.mk (IsS143.ne_blk hi (blk_below (g := gb101) (o := .cells #[.slice none 0 0, .int .i64 0, .int .i64 0, .int .i64 0, .int .i64 0, .int .i64 0, .int .i64 0] 24 (0, 0)) (by (with_reducible repeat (first | refine blk_drewN ?_ _ | refine blk_drew ?_ | refine blk_alloc ?_ _)); exact BK101.out) hb2) (by decide)); have n4_ := Aside0.mk (Ne.symm (IsS143.ne_blk hi (blk_below (g := gb101) (o := .cells #[.slice none 0 0, .int .i64 0, .int .i64 0, .int .i64 0, .int .i64 0, .int .i64 0, .int .i64 0] 24 (0, 0)) (by (with_reducible repeat (first | refine blk_drewN ?_ _ | refine blk_drew ?_ | refine blk_alloc ?_ _)); exact BK101.out) hb2) (by decide))); clear BK101; clear HB; have BK101 := n0_; have HB := n1_; have HI104 := n2_; have NB104_101 := n3_; have NB101_104 := n4_; clear n0_ n1_ n2_ n3_ n4_; (try clear hb); (try clear hb2); (try clear hk); (try clear hi)) | ((with_reducible refine gate_callee (f := 60) rfl ?_); refine goesL_ (some 5) rfl rfl Try.func60 (by kernel_rfl) rfl #[.pointer (some ⟨g104, 0, none⟩), .int .i64 2] rfl (by (try simp only [List.map_toArray, List.map_cons, List.map_nil]); first | done | rfl | (simp only [List.length_drop, List.length_take]; rfl)) ?_; (with_reducible refine (spec_l20Cfg.calls k g104 t102 t103 2 t105 t108 t109 t110 t111 t112 t113 t114 w _ ?side1 ?side2 A3.out).mono ?_); (case side1 => repeat (first | (with_reducible first | exact HI104.out | apply IsS143.alloc | apply IsS143.drewN | apply IsS143.drew | apply IsS143.set_1 | refine IsS143.far ?_ NB104_101.out _) | exact HI104.out)); (case side2 => repeat (first | (with_reducible first | exact HB.out | apply below_alloc | apply pw_below_drewN | apply below_drew1 | refine below_set ?_ (IsS143.ge HI104.out) | refine below_set ?_ GE101.out) | exact HB.out)); rintro e w6 ⟨v106, rfl, ho0, hi, hb, hk⟩; refine ⟨_, rfl, ?_⟩; have n0_ := Aside0.mk (KeepBut.blk hk (g' := gb101) (o := .cells #[.slice none 0 0, .int .i64 0, .int .i64 0, .int .i64 0, .int .i64 0, .int .i64 0, .int .i64 0] 24 (0, 0)) (by (with_reducible repeat (first | refine blk_drewN ?_ _ | refine blk_drew ?_ | refine blk_alloc ?_ _)); exact BK101.out) NB101_104.out (by simp)); have n1_ := Aside0.mk (Kd.R_lower ho0 (below_size (by repeat (first | (with_reducible first | exact HB.out | apply below_alloc | apply pw_below_drewN | apply below_drew1 | refine below_set ?_ (IsS143.ge HI104.out) | refine below_set ?_ GE101.out) | exact HB.out)))); have n2_ := Aside0.mk (hb); have n3_ := Aside0.mk (hi); clear BK101; clear HB; clear HI104; have BK101 := n0_; have HO107 := n1_; have HB := n2_; have HI104 := n3_; clear n0_ n1_ n2_ n3_; (try clear hb); (try clear hb2); (try clear hk); (try clear hi); (try clear ho0); obtain ⟨Ao7, co7, eo7⟩ := Kd.R_slice HO107.out; subst eo7; have hnb8 := NB101_104.out; have hnc8 := NB104_101.out; have hcz9_0 : w6.cell? ⟨gb101, 0, none⟩ = some (.slice none 0 0) := (blk_cell BK101.out 0).trans rfl; have hcz9_1 : w6.cell? ⟨gb101, 1, none⟩ = some (.int .i64 0) := (blk_cell BK101.out 1).trans rfl; have hcz9_2 : w6.cell? ⟨gb101, 2, none⟩ = some (.int .i64 0) := (blk_cell BK101.out 2).trans rfl; have hcz9_3 : w6.cell? ⟨gb101, 3, none⟩ = some (.int .i64 0) := (blk_cell BK101.out 3).trans rfl; have hcz9_4 : w6.cell? ⟨gb101, 4, none⟩ = some (.int .i64 0) := (blk_cell BK101.out 4).trans rfl; have hcz9_5 : w6.cell? ⟨gb101, 5, none⟩ = some (.int .i64 0) := (blk_cell BK101.out 5).trans rfl; have hcz9_6 : w6.cell? ⟨gb101, 6, none⟩ = some (.int .i64 0) := (blk_cell BK101.out 6).trans rfl; have hfz9_0 := blk_frozen BK101.out 0; have hfz9_1 := blk_frozen BK101.out 1; have hfz9_2 := blk_frozen BK101.out 2; have hfz9_3 := blk_frozen BK101.out 3; have hfz9_4 := blk_frozen BK101.out 4; have hfz9_5 := blk_frozen BK101.out 5; have hfz9_6 := blk_frozen BK101.out 6))
  refine bodyPost_ret (results_cell_row rfl _ _ gb101 24 #[.slice Ao7 t105.length co7, .int .i64 t108, .int .i64 t109, .int .i64 t110, .int .i64 t111, .int .i64 t112, .int .i64 t113] (0, 0) _ rfl (by (with_reducible repeat (first | refine blk_drewN ?_ _ | refine blk_drew ?_ | refine blk_alloc ?_ _)); refine blk_put (cs := #[.slice Ao7 t105.length co7, .int .i64 t108, .int .i64 t109, .int .i64 t110, .int .i64 t111, .int .i64 t112, .int .i64 0]) ?_ 6 _ rfl; (with_reducible repeat (first | refine blk_drewN ?_ _ | refine blk_drew ?_ | refine blk_alloc ?_ _)); refine blk_put (cs := #[.slice Ao7 t105.length co7, .int .i64 t108, .int .i64 t109, .int .i64 t110, .int .i64 t111, .int .i64 0, .int .i64 0]) ?_ 5 _ rfl; (with_reducible repeat (first | refine blk_drewN ?_ _ | refine blk_drew ?_ | refine blk_alloc ?_ _)); refine blk_put (cs := #[.slice Ao7 t105.length co7, .int .i64 t108, .int .i64 t109, .int .i64 t110, .int .i64 0, .int .i64 0, .int .i64 0]) ?_ 4 _ rfl; (with_reducible repeat (first | refine blk_drewN ?_ _ | refine blk_drew ?_ | refine blk_alloc ?_ _)); refine blk_put (cs := #[.slice Ao7 t105.length co7, .int .i64 t108, .int .i64 t109, .int .i64 0, .int .i64 0, .int .i64 0, .int .i64 0]) ?_ 3 _ rfl; (with_reducible repeat (first | refine blk_drewN ?_ _ | refine blk_drew ?_ | refine blk_alloc ?_ _)); refine blk_put (cs := #[.slice Ao7 t105.length co7, .int .i64 t108, .int .i64 0, .int .i64 0, .int .i64 0, .int .i64 0, .int .i64 0]) ?_ 2 _ rfl; (with_reducible repeat (first | refine blk_drewN ?_ _ | refine blk_drew ?_ | refine blk_alloc ?_ _)); refine blk_put (cs := #[.slice Ao7 t105.length co7, .int .i64 0, .int .i64 0, .int .i64 0, .int .i64 0, .int .i64 0, .int .i64 0]) ?_ 1 _ rfl; (with_reducible repeat (first | refine blk_drewN ?_ _ | refine blk_drew ?_ | refine blk_alloc ?_ _)); refine blk_put (cs := #[.slice none 0 0, .int .i64 0, .int .i64 0, .int .i64 0, .int .i64 0, .int .i64 0, .int .i64 0]) ?_ 0 _ rfl; (with_reducible repeat (first | refine blk_drewN ?_ _ | refine blk_drew ?_ | refine blk_alloc ?_ _)); exact BK101.out) Try.underlying24 rfl (by kernel_rfl)) rfl ?_
  exact ⟨_, by first | rfl | (simp [errW_none, errW_some] <;> rfl) | (simp [*, errW_none, errW_some] <;> rfl), by (with_reducible repeat (first | apply Kd.R_alloc | apply Kd.R_drewN | apply Kd.R_drew)); exact Kd.R_mono (Kd.R_far (p := ⟨gb101, 6, none⟩) (Kd.R_far (p := ⟨gb101, 5, none⟩) (Kd.R_far (p := ⟨gb101, 4, none⟩) (Kd.R_far (p := ⟨gb101, 3, none⟩) (Kd.R_far (p := ⟨gb101, 2, none⟩) (Kd.R_far (p := ⟨gb101, 1, none⟩) (Kd.R_far (p := ⟨gb101, 0, none⟩) (Kd.R_types HO107.out BK101.out (by decide)) (fun _ hk => hk.2) (.slice Ao7 t105.length co7)) (fun _ hk => hk.2) (.int .i64 t108)) (fun _ hk => hk.2) (.int .i64 t109)) (fun _ hk => hk.2) (.int .i64 t110)) (fun _ hk => hk.2) (.int .i64 t111)) (fun _ hk => hk.2) (.int .i64 t112)) (fun _ hk => hk.2) (.int .i64 t113)) (fun _ hk => trivial), by repeat (first | (with_reducible first | exact HB.out | apply below_alloc | apply pw_below_drewN | apply below_drew1 | refine below_set ?_ (IsS143.ge HI104.out) | refine below_set ?_ GE101.out) | exact HB.out)⟩

end Go.Proofs.Ytgpkkkmapgnhkaa.X

namespace Go.Proofs.Ytgpkkkmapgnhkaa.X
open Go.RowKit Go.Proofs.YtgpkkkmapgnhkaaW.PrintWords Go.Proofs.YtgpkkkmapgnhkaaW.PrintLast Go.Proofs.YtgpkkkmapgnhkaaW.PrintMore
attribute [local go_sem] max2_int min2_int max_two min_two max_three min_three max_four min_four   -- for this text's walks alone
set_option linter.unusedVariables false
set_option linter.unusedSimpArgs false

/-! ### impl_within: function 62 -/
def impl_within.f (a0 : Int) (a1 : Int) (a2 : Int) : Option (Bool) := if a0 ≥ a1 then (some (decide (a0 ≤ a2))) else (some false)
set_option maxHeartbeats 8000000 in
set_option maxRecDepth 100000 in
theorem impl_within.calls (a0 : Int) (a1 : Int) (a2 : Int) (r : Bool) (w : World) (h : impl_within.f a0 a1 a2 = some r) :
    Calls Try.prog 62 #[.int .i64 a0, .int .i64 a1, .int .i64 a2] w fun e w' => e = .returned (.bool r) ∧ Drawn0 w w' := by
  have H : (if a0 ≥ a1 then (some (decide (a0 ≤ a2))) else (some false)) = some r := h
  clear h
  by_cases c4 : a0 ≥ a1
  · rw [if_pos c4] at H
    have c4b0 : decide (a1 ≤ a0) = true := decide_eq_true c4
    clear c4
    obtain rfl := Option.some.inj H
    go_enter Try.func62, Try.ntmps62
    go_wp2
    go_ret
    exact ⟨by first | rfl | (simp; done) | (simp [*]; done), by repeat (first | exact Drawn0.refl _ | apply Drawn0.step)⟩
  · rw [if_neg c4] at H
    have c4b0 : decide (a1 ≤ a0) = false := decide_eq_false c4
    clear c4
    obtain rfl := Option.some.inj H
    go_enter Try.func62, Try.ntmps62
    go_wp2
    go_ret
    exact ⟨by first | rfl | (simp; done) | (simp [*]; done), by repeat (first | exact Drawn0.refl _ | apply Drawn0.step)⟩

end Go.Proofs.Ytgpkkkmapgnhkaa.X

namespace Go.Proofs.Ytgpkkkmapgnhkaa.X
open Go.RowKit Go.Proofs.YtgpkkkmapgnhkaaW.PrintWords Go.Proofs.YtgpkkkmapgnhkaaW.PrintLast Go.Proofs.YtgpkkkmapgnhkaaW.PrintMore
attribute [local go_sem] max2_int min2_int max_two min_two max_three min_three max_four min_four   -- for this text's walks alone
set_option linter.unusedVariables false
set_option linter.unusedSimpArgs false

/-! ### impl_CfgOk: function 14 -/
def impl_CfgOk.f (l0_0 : List Int) (a0_1 : Int) (a0_2 : Int) (a0_3 : Int) (a0_4 : Int) (a0_5 : Int) (a0_6 : Int) : Option (Bool) := if (l0_0.length : Int) ≤ 32 then ((impl_within.f a0_1 1 9).bind fun t102 => (if t102 = true then ((impl_within.f a0_2 1 99).bind fun t103 => (if t103 = true then ((impl_within.f a0_3 1 4).bind fun t104 => (if t104 = true then ((impl_within.f a0_4 1 999).bind fun t105 => (if t105 = true then ((impl_within.f a0_5 1 3).bind fun t106 => (if t106 = true then ((impl_within.f a0_6 1 999).bind fun t107 => (some t107)) else (some false))) else (some false))) else (some false))) else (some false))) else (some false))) else (some false)
set_option maxHeartbeats 8000000 in
set_option maxRecDepth 100000 in
theorem impl_CfgOk.calls (A0_0 : Option Addr) (c0_0 : Nat) (l0_0 : List Int) (a0_1 : Int) (a0_2 : Int) (a0_3 : Int) (a0_4 : Int) (a0_5 : Int) (a0_6 : Int) (r : Bool) (w : World) (hr0_0 : Kd.C (Kd.int .u8) w A0_0 l0_0.length l0_0) (hc0_0 : l0_0.length ≤ c0_0) (h : impl_CfgOk.f l0_0 a0_1 a0_2 a0_3 a0_4 a0_5 a0_6 = some r) :
    Calls Try.prog 14 #[.agg #[.slice A0_0 l0_0.length c0_0, .int .i64 a0_1, .int .i64 a0_2, .int .i64 a0_3, .int .i64 a0_4, .int .i64 a0_5, .int .i64 a0_6]] w fun e w' => e = .returned (.bool r) ∧ Below w.heap.size w w' := by
  have hu24 := Try.underlying24
  have HR0_0 := Aside0.mk hr0_0
  have HC0_0 := Aside0.mk hc0_0
  clear hr0_0 hc0_0
  have HB := Aside0.mk (Below.refl w.heap.size w)
  have H : (if (l0_0.length : Int) ≤ 32 then ((impl_within.f a0_1 1 9).bind fun t102 => (if t102 = true then ((impl_within.f a0_2 1 99).bind fun t103 => (if t103 = true then ((impl_within.f a0_3 1 4).bind fun t104 => (if t104 = true then ((impl_within.f a0_4 1 999).bind fun t105 => (if t105 = true then ((impl_within.f a0_5 1 3).bind fun t106 => (if t106 = true then ((impl_within.f a0_6 1 999).bind fun t107 => (some t107)) else (some false))) else (some false))) else (some false))) else (some false))) else (some false))) else (some false)) = some r := h
  clear h
  by_cases c2 : (l0_0.length : Int) ≤ 32
  · rw [if_pos c2] at H
    have c2b0 : decide ((l0_0.length : Int) ≤ 32) = true := decide_eq_true c2
    have c2b1 : decide (l0_0.length ≤ 32) = true := decide_eq_true (by omega)
    clear c2
    replace H := Option.bind_eq_some_iff.mp H
    obtain ⟨t102, A30, H⟩ := H
    replace H : (if t102 = true then ((impl_within.f a0_2 1 99).bind fun t103 => (if t103 = true then ((impl_within.f a0_3 1 4).bind fun t104 => (if t104 = true then ((impl_within.f a0_4 1 999).bind fun t105 => (if t105 = true then ((impl_within.f a0_5 1 3).bind fun t106 => (if t106 = true then ((impl_within.f a0_6 1 999).bind fun t107 => (some t107)) else (some false))) else (some false))) else (some false))) else (some false))) else (some false)) = some r := H
    have A3 := Aside0.mk A30
    clear A30
    by_cases c4 : t102 = true
    · subst c4
      have H1 : ((impl_within.f a0_2 1 99).bind fun t103 => (if t103 = true then ((impl_within.f a0_3 1 4).bind fun t104 => (if t104 = true then ((impl_within.f a0_4 1 999).bind fun t105 => (if t105 = true then ((impl_within.f a0_5 1 3).bind fun t106 => (if t106 = true then ((impl_within.f a0_6 1 999).bind fun t107 => (some t107)) else (some false))) else (some false))) else (some false))) else (some false))) = some r := by rw [if_pos rfl] at H; exact H
      clear H
      have H := H1
      clear H1
      replace H := Option.bind_eq_some_iff.mp H
      obtain ⟨t103, A50, H⟩ := H
      replace H : (if t103 = true then ((impl_within.f a0_3 1 4).bind fun t104 => (if t104 = true then ((impl_within.f a0_4 1 999).bind fun t105 => (if t105 = true then ((impl_within.f a0_5 1 3).bind fun t106 => (if t106 = true then ((impl_within.f a0_6 1 999).bind fun t107 => (some t107)) else (some false))) else (some false))) else (some false))) else (some false)) = some r := H
      have A5 := Aside0.mk A50
      clear A50
      by_cases c6 : t103 = true
      · subst c6
        have H1 : ((impl_within.f a0_3 1 4).bind fun t104 => (if t104 = true then ((impl_within.f a0_4 1 999).bind fun t105 => (if t105 = true then ((impl_within.f a0_5 1 3).bind fun t106 => (if t106 = true then ((impl_within.f a0_6 1 999).bind fun t107 => (some t107)) else (some false))) else (some false))) else (some false))) = some r := by rw [if_pos rfl] at H; exact H
        clear H
        have H := H1
        clear H1
        replace H := Option.bind_eq_some_iff.mp H
        obtain ⟨t104, A70, H⟩ := H
        replace H : (if t104 = true then ((impl_within.f a0_4 1 999).bind fun t105 => (if t105 = true then ((impl_within.f a0_5 1 3).bind fun t106 => (if t106 = true then ((impl_within.f a0_6 1 999).bind fun t107 => (some t107)) else (some false))) else (some false))) else (some false)) = some r := H
        have A7 := Aside0.mk A70
        clear A70
        by_cases c8 : t104 = true
        · subst c8
          have H1 : ((impl_within.f a0_4 1 999).bind fun t105 => (if t105 = true then ((impl_within.f a0_5 1 3).bind fun t106 => (if t106 = true then ((impl_within.f a0_6 1 999).bind fun t107 => (some t107)) else (some false))) else (some false))) = some r := by rw [if_pos rfl] at H; exact H
          clear H
          have H := H1
          clear H1
          replace H := Option.bind_eq_some_iff.mp H
          obtain ⟨t105, A90, H⟩ := H
          replace H : (if t105 = true then ((impl_within.f a0_5 1 3).bind fun t106 => (if t106 = true then ((impl_within.f a0_6 1 999).bind fun t107 => (some t107)) else (some false))) else (some false)) = some r := H
          have A9 := Aside0.mk A90
          clear A90
          by_cases c10 : t105 = true
          · subst c10
            have H1 : ((impl_within.f a0_5 1 3).bind fun t106 => (if t106 = true then ((impl_within.f a0_6 1 999).bind fun t107 => (some t107)) else (some false))) = some r := by rw [if_pos rfl] at H; exact H
            clear H
            have H := H1
            clear H1
            replace H := Option.bind_eq_some_iff.mp H
            obtain ⟨t106, A110, H⟩ := H
            replace H : (if t106 = true then ((impl_within.f a0_6 1 999).bind fun t107 => (some t107)) else (some false)) = some r := H
            have A11 := Aside0.mk A110
            clear A110
            by_cases c12 : t106 = true
            · subst c12
              have H1 : ((impl_within.f a0_6 1 999).bind fun t107 => (some t107)) = some r := by rw [if_pos rfl] at H; exact H
              clear H
              have H := H1
              clear H1
              replace H := Option.bind_eq_some_iff.mp H
              obtain ⟨t107, A130, H⟩ := H
              replace H : (some t107) = some r := H
              have A13 := Aside0.mk A130
              clear A130
              obtain rfl := Option.some.inj H
              go_enter Try.func14, Try.ntmps14
              go_wp2_with (first | ((with_reducible refine gate_dst (N := 1) rfl ?_); refine box_event ?hg (N := 1) ?hd (cs := #[.slice A0_0 l0_0.length c0_0, .int .i64 a0_1, .int .i64 a0_2, .int .i64 a0_3, .int .i64 a0_4, .int .i64 a0_5, .int .i64 a0_6]) (t := 24) ?hr ?_; (case hd => rfl); (case hg => rfl); (case hr => first | (go_simp; done) | (go_simp; rfl)); intro gb101 hg w14 hbox hb; have n0_ := Aside0.mk (below_step (by repeat (first | (with_reducible first | exact HB.out | apply below_alloc | apply pw_below_drewN | apply below_drew1) | exact HB.out)) hb); have n1_ := Aside0.mk (hbox); have n2_ := Aside0.mk ((by rw [hg]; exact (below_size (by repeat (first | (with_reducible first | exact HB.out | apply below_alloc | apply pw_below_drewN | apply below_drew1) | exact HB.out))) : w.heap.size ≤ gb101)); have n3_ := Aside0.mk ((by rw [hg]; exact (below_size (by repeat (first | (with_reducible first | exact HB.out | apply below_alloc | apply pw_below_drewN | apply below_drew1) | exact HB.out))) : w.heap.size ≤ gb101)); clear HB; have HB := n0_; have BK101 := n1_; have GW101 := n2_; have GE101 := n3_; clear n0_ n1_ n2_ n3_; clear hb hbox hg; have hcz15_0 : w14.cell? ⟨gb101, 0, none⟩ = some (.slice A0_0 l0_0.length c0_0) := (blk_cell BK101.out 0).trans rfl; have hcz15_1 : w14.cell? ⟨gb101, 1, none⟩ = some (.int .i64 a0_1) := (blk_cell BK101.out 1).trans rfl; have hcz15_2 : w14.cell? ⟨gb101, 2, none⟩ = some (.int .i64 a0_2) := (blk_cell BK101.out 2).trans rfl; have hcz15_3 : w14.cell? ⟨gb101, 3, none⟩ = some (.int .i64 a0_3) := (blk_cell BK101.out 3).trans rfl; have hcz15_4 : w14.cell? ⟨gb101, 4, none⟩ = some (.int .i64 a0_4) := (blk_cell BK101.out 4).trans rfl; have hcz15_5 : w14.cell? ⟨gb101, 5, none⟩ = some (.int .i64 a0_5) := (blk_cell BK101.out 5).trans rfl; have hcz15_6 : w14.cell? ⟨gb101, 6, none⟩ = some (.int .i64 a0_6) := (blk_cell BK101.out 6).trans rfl; have hfz15_0 := blk_frozen BK101.out 0; have hfz15_1 := blk_frozen BK101.out 1; have hfz15_2 := blk_frozen BK101.out 2; have hfz15_3 := blk_frozen BK101.out 3; have hfz15_4 := blk_frozen BK101.out 4; have hfz15_5 := blk_frozen BK101.out 5; have hfz15_6 := blk_frozen BK101.out 6) | (go_at_call 62; (with_reducible refine (impl_within.calls a0_1 1 9 true _ A3.out).mono ?_); rintro e w' ⟨rfl, ⟨nd, rfl⟩⟩) | (go_at_call 62; (with_reducible refine (impl_within.calls a0_2 1 99 true _ A5.out).mono ?_); rintro e w' ⟨rfl, ⟨nd, rfl⟩⟩) | (go_at_call 62; (with_reducible refine (impl_within.calls a0_3 1 4 true _ A7.out).mono ?_); rintro e w' ⟨rfl, ⟨nd, rfl⟩⟩) | (go_at_call 62; (with_reducible refine (impl_within.calls a0_4 1 999 true _ A9.out).mono ?_); rintro e w' ⟨rfl, ⟨nd, rfl⟩⟩) | (go_at_call 62; (with_reducible refine (impl_within.calls a0_5 1 3 true _ A11.out).mono ?_); rintro e w' ⟨rfl, ⟨nd, rfl⟩⟩) | (go_at_call 62; (with_reducible refine (impl_within.calls a0_6 1 999 t107 _ A13.out).mono ?_); rintro e w' ⟨rfl, ⟨nd, rfl⟩⟩))
              go_ret
              exact ⟨by first | rfl | (simp [errW_none, errW_some] <;> rfl) | (simp [*, errW_none, errW_some] <;> rfl), by repeat (first | (with_reducible first | exact HB.out | apply below_alloc | apply pw_below_drewN | apply below_drew1 | refine below_set ?_ GE101.out) | exact HB.out)⟩
            · replace c12 := Bool.eq_false_iff.mpr c12
              subst c12
              have H1 : (some false) = some r := by rw [if_neg (show ¬ (false = true) by decide)] at H; exact H
              clear H
              have H := H1
              clear H1
              obtain rfl := Option.some.inj H
              go_enter Try.func14, Try.ntmps14
              go_wp2_with (first | ((with_reducible refine gate_dst (N := 1) rfl ?_); refine box_event ?hg (N := 1) ?hd (cs := #[.slice A0_0 l0_0.length c0_0, .int .i64 a0_1, .int .i64 a0_2, .int .i64 a0_3, .int .i64 a0_4, .int .i64 a0_5, .int .i64 a0_6]) (t := 24) ?hr ?_; (case hd => rfl); (case hg => rfl); (case hr => first | (go_simp; done) | (go_simp; rfl)); intro gb101 hg w16 hbox hb; have n0_ := Aside0.mk (below_step (by repeat (first | (with_reducible first | exact HB.out | apply below_alloc | apply pw_below_drewN | apply below_drew1) | exact HB.out)) hb); have n1_ := Aside0.mk (hbox); have n2_ := Aside0.mk ((by rw [hg]; exact (below_size (by repeat (first | (with_reducible first | exact HB.out | apply below_alloc | apply pw_below_drewN | apply below_drew1) | exact HB.out))) : w.heap.size ≤ gb101)); have n3_ := Aside0.mk ((by rw [hg]; exact (below_size (by repeat (first | (with_reducible first | exact HB.out | apply below_alloc | apply pw_below_drewN | apply below_drew1) | exact HB.out))) : w.heap.size ≤ gb101)); clear HB; have HB := n0_; have BK101 := n1_; have GW101 := n2_; have GE101 := n3_; clear n0_ n1_ n2_ n3_; clear hb hbox hg; have hcz17_0 : w16.cell? ⟨gb101, 0, none⟩ = some (.slice A0_0 l0_0.length c0_0) := (blk_cell BK101.out 0).trans rfl; have hcz17_1 : w16.cell? ⟨gb101, 1, none⟩ = some (.int .i64 a0_1) := (blk_cell BK101.out 1).trans rfl; have hcz17_2 : w16.cell? ⟨gb101, 2, none⟩ = some (.int .i64 a0_2) := (blk_cell BK101.out 2).trans rfl; have hcz17_3 : w16.cell? ⟨gb101, 3, none⟩ = some (.int .i64 a0_3) := (blk_cell BK101.out 3).trans rfl; have hcz17_4 : w16.cell? ⟨gb101, 4, none⟩ = some (.int .i64 a0_4) := (blk_cell BK101.out 4).trans rfl; have hcz17_5 : w16.cell? ⟨gb101, 5, none⟩ = some (.int .i64 a0_5) := (blk_cell BK101.out 5).trans rfl; have hcz17_6 : w16.cell? ⟨gb101, 6, none⟩ = some (.int .i64 a0_6) := (blk_cell BK101.out 6).trans rfl; have hfz17_0 := blk_frozen BK101.out 0; have hfz17_1 := blk_frozen BK101.out 1; have hfz17_2 := blk_frozen BK101.out 2; have hfz17_3 := blk_frozen BK101.out 3; have hfz17_4 := blk_frozen BK101.out 4; have hfz17_5 := blk_frozen BK101.out 5; have hfz17_6 := blk_frozen BK101.out 6) | (go_at_call 62; (with_reducible refine (impl_within.calls a0_1 1 9 true _ A3.out).mono ?_); rintro e w' ⟨rfl, ⟨nd, rfl⟩⟩) | (go_at_call 62; (with_reducible refine (impl_within.calls a0_2 1 99 true _ A5.out).mono ?_); rintro e w' ⟨rfl, ⟨nd, rfl⟩⟩) | (go_at_call 62; (with_reducible refine (impl_within.calls a0_3 1 4 true _ A7.out).mono ?_); rintro e w' ⟨rfl, ⟨nd, rfl⟩⟩) | (go_at_call 62; (with_reducible refine (impl_within.calls a0_4 1 999 true _ A9.out).mono ?_); rintro e w' ⟨rfl, ⟨nd, rfl⟩⟩) | (go_at_call 62; (with_reducible refine (impl_within.calls a0_5 1 3 false _ A11.out).mono ?_); rintro e w' ⟨rfl, ⟨nd, rfl⟩⟩))
              go_ret
              exact ⟨by first | rfl | (simp [errW_none, errW_some] <;> rfl) | (simp [*, errW_none, errW_some] <;> rfl), by repeat (first | (with_reducible first | exact HB.out | apply below_alloc | apply pw_below_drewN | apply below_drew1 | refine below_set ?_ GE101.out) | exact HB.out)⟩
          · replace c10 := Bool.eq_false_iff.mpr c10
            subst c10
            have H1 : (some false) = some r := by rw [if_neg (show ¬ (false = true) by decide)] at H; exact H
            clear H
            have H := H1
            clear H1
            obtain rfl := Option.some.inj H
            go_enter Try.func14, Try.ntmps14
            go_wp2_with (first | ((with_reducible refine gate_dst (N := 1) rfl ?_); refine box_event ?hg (N := 1) ?hd (cs := #[.slice A0_0 l0_0.length c0_0, .int .i64 a0_1, .int .i64 a0_2, .int .i64 a0_3, .int .i64 a0_4, .int .i64 a0_5, .int .i64 a0_6]) (t := 24) ?hr ?_; (case hd => rfl); (case hg => rfl); (case hr => first | (go_simp; done) | (go_simp; rfl)); intro gb101 hg w18 hbox hb; have n0_ := Aside0.mk (below_step (by repeat (first | (with_reducible first | exact HB.out | apply below_alloc | apply pw_below_drewN | apply below_drew1) | exact HB.out)) hb); have n1_ := Aside0.mk (hbox); have n2_ := Aside0.mk ((by rw [hg]; exact (below_size (by repeat (first | (with_reducible first | exact HB.out | apply below_alloc | apply pw_below_drewN | apply below_drew1) | exact HB.out))) : w.heap.size ≤ gb101)); have n3_ := Aside0.mk ((by rw [hg]; exact (below_size (by repeat (first | (with_reducible first | exact HB.out | apply below_alloc | apply pw_below_drewN | apply below_drew1) | exact HB.out))) : w.heap.size ≤ gb101)); clear HB; have HB := n0_; have BK101 := n1_; have GW101 := n2_; have GE101 := n3_; clear n0_ n1_ n2_ n3_; clear hb hbox hg; have hcz19_0 : w18.cell? ⟨gb101, 0, none⟩ = some (.slice A0_0 l0_0.length c0_0) := (blk_cell BK101.out 0).trans rfl; have hcz19_1 : w18.cell? ⟨gb101, 1, none⟩ = some (.int .i64 a0_1) := (blk_cell BK101.out 1).trans rfl; have hcz19_2 : w18.cell? ⟨gb101, 2, none⟩ = some (.int .i64 a0_2) := (blk_cell BK101.out 2).trans rfl; have hcz19_3 : w18.cell? ⟨gb101, 3, none⟩ = some (.int .i64 a0_3) := (blk_cell BK101.out 3).trans rfl; have hcz19_4 : w18.cell? ⟨gb101, 4, none⟩ = some (.int .i64 a0_4) := (blk_cell BK101.out 4).trans rfl; have hcz19_5 : w18.cell? ⟨gb101, 5, none⟩ = some (.int .i64 a0_5) := (blk_cell BK101.out 5).trans rfl; have hcz19_6 : w18.cell? ⟨gb101, 6, none⟩ = some (.int .i64 a0_6) := (blk_cell BK101.out 6).trans rfl; have hfz19_0 := blk_frozen BK101.out 0; have hfz19_1 := blk_frozen BK101.out 1; have hfz19_2 := blk_frozen BK101.out 2; have hfz19_3 := blk_frozen BK101.out 3; have hfz19_4 := blk_frozen BK101.out 4; have hfz19_5 := blk_frozen BK101.out 5; have hfz19_6 := blk_frozen BK101.out 6) | (go_at_call 62; (with_reducible refine (impl_within.calls a0_1 1 9 true _ A3.out).mono ?_); rintro e w' ⟨rfl, ⟨nd, rfl⟩⟩) | (go_at_call 62; (with_reducible refine (impl_within.calls a0_2 1 99 true _ A5.out).mono ?_); rintro e w' ⟨rfl, ⟨nd, rfl⟩⟩) | (go_at_call 62; (with_reducible refine (impl_within.calls a0_3 1 4 true _ A7.out).mono ?_); rintro e w' ⟨rfl, ⟨nd, rfl⟩⟩) | (go_at_call 62; (with_reducible refine (impl_within.calls a0_4 1 999 false _ A9.out).mono ?_); rintro e w' ⟨rfl, ⟨nd, rfl⟩⟩))
            go_ret
            exact ⟨by first | rfl | (simp [errW_none, errW_some] <;> rfl) | (simp [*, errW_none, errW_some] <;> rfl), by repeat (first | (with_reducible first | exact HB.out | apply below_alloc | apply pw_below_drewN | apply below_drew1 | refine below_set ?_ GE101.out) | exact HB.out)⟩
        · replace c8 := Bool.eq_false_iff.mpr c8
          subst c8
          have H1 : (some false) = some r := by rw [if_neg (show ¬ (false = true) by decide)] at H; exact H
          clear H
          have H := H1
          clear H1
          obtain rfl := Option.some.inj H
          go_enter Try.func14, Try.ntmps14
          go_wp2_with (first | ((with_reducible refine gate_dst (N := 1) rfl ?_); refine box_event ?hg (N := 1) ?hd (cs := #[.slice A0_0 l0_0.length c0_0, .int .i64 a0_1, .int .i64 a0_2, .int .i64 a0_3, .int .i64 a0_4, .int .i64 a0_5, .int .i64 a0_6]) (t := 24) ?hr ?_; (case hd => rfl); (case hg => rfl); (case hr => first | (go_simp; done) | (go_simp; rfl)); intro gb101 hg w20 hbox hb; have n0_ := Aside0.mk (below_step (by repeat (first | (with_reducible first | exact HB.out | apply below_alloc | apply pw_below_drewN | apply below_drew1) | exact HB.out)) hb); have n1_ := Aside0.mk (hbox); have n2_ := Aside0.mk ((by rw [hg]; exact (below_size (by repeat (first | (with_reducible first | exact HB.out | apply below_alloc | apply pw_below_drewN | apply below_drew1) | exact HB.out))) : w.heap.size ≤ gb101)); have n3_ := Aside0.mk ((by rw [hg]; exact (below_size (by repeat (first | (with_reducible first | exact HB.out | apply below_alloc | apply pw_below_drewN | apply below_drew1) | exact HB.out))) : w.heap.size ≤ gb101)); clear HB; have HB := n0_; have BK101 := n1_; have GW101 := n2_; have GE101 := n3_; clear n0_ n1_ n2_ n3_; clear hb hbox hg; have hcz21_0 : w20.cell? ⟨gb101, 0, none⟩ = some (.slice A0_0 l0_0.length c0_0) := (blk_cell BK101.out 0).trans rfl; have hcz21_1 : w20.cell? ⟨gb101, 1, none⟩ = some (.int .i64 a0_1) := (blk_cell BK101.out 1).trans rfl; have hcz21_2 : w20.cell? ⟨gb101, 2, none⟩ = some (.int .i64 a0_2) := (blk_cell BK101.out 2).trans rfl; have hcz21_3 : w20.cell? ⟨gb101, 3, none⟩ = some (.int .i64 a0_3) := (blk_cell BK101.out 3).trans rfl; have hcz21_4 : w20.cell? ⟨gb101, 4, none⟩ = some (.int .i64 a0_4) := (blk_cell BK101.out 4).trans rfl; have hcz21_5 : w20.cell? ⟨gb101, 5, none⟩ = some (.int .i64 a0_5) := (blk_cell BK101.out 5).trans rfl; have hcz21_6 : w20.cell? ⟨gb101, 6, none⟩ = some (.int .i64 a0_6) := (blk_cell BK101.out 6).trans rfl; have hfz21_0 := blk_frozen BK101.out 0; have hfz21_1 := blk_frozen BK101.out 1; have hfz21_2 := blk_frozen BK101.out 2; have hfz21_3 := blk_frozen BK101.out 3; have hfz21_4 := blk_frozen BK101.out 4; have hfz21_5 := blk_frozen BK101.out 5; have hfz21_6 := blk_frozen BK101.out 6) | (go_at_call 62; (with_reducible refine (impl_within.calls a0_1 1 9 true _ A3.out).mono ?_); rintro e w' ⟨rfl, ⟨nd, rfl⟩⟩) | (go_at_call 62; (with_reducible refine (impl_within.calls a0_2 1 99 true _ A5.out).mono ?_); rintro e w' ⟨rfl, ⟨nd, rfl⟩⟩) | (go_at_call 62; (with_reducible refine (impl_within.calls a0_3 1 4 false _ A7.out).mono ?_); rintro e w' ⟨rfl, ⟨nd, rfl⟩⟩))
          go_ret
          exact ⟨by first | rfl | (simp [errW_none, errW_some] <;> rfl) | (simp [*, errW_none, errW_some] <;> rfl), by repeat (first | (with_reducible first | exact HB.out | apply below_alloc | apply pw_below_drewN | apply below_drew1 | refine below_set ?_ GE101.out) | exact HB.out)⟩
      · replace c6 := Bool.eq_false_iff.mpr c6
        subst c6
        have H1 : (some false) = some r := by rw [if_neg (show ¬ (false = true) by decide)] at H; exact H
        clear H
        have H := H1
        clear H1
        obtain rfl := Option.some.inj H
        go_enter Try.func14, Try.ntmps14
        go_wp2_with (first | ((with_reducible refine gate_dst (N := 1) rfl ?_); refine box_event ?hg (N := 1) ?hd (cs := #[.slice A0_0 l0_0.length c0_0, .int .i64 a0_1, .int .i64 a0_2, .int .i64 a0_3, .int .i64 a0_4, .int .i64 a0_5, .int .i64 a0_6]) (t := 24) ?hr ?_; (case hd => rfl); (case hg => rfl); (case hr => first | (go_simp; done) | (go_simp; rfl)); intro gb101 hg w22 hbox hb; have n0_ := Aside0.mk (below_step (by repeat (first | (with_reducible first | exact HB.out | apply below_alloc | apply pw_below_drewN | apply below_drew1) | exact HB.out)) hb); have n1_ := Aside0.mk (hbox); have n2_ := Aside0.mk ((by rw [hg]; exact (below_size (by repeat (first | (with_reducible first | exact HB.out | apply below_alloc | apply pw_below_drewN | apply below_drew1) | exact HB.out))) : w.heap.size ≤ gb101)); have n3_ := Aside0.mk ((by rw [hg]; exact (below_size (by repeat (first | (with_reducible first | exact HB.out | apply below_alloc | apply pw_below_drewN | apply below_drew1) | exact HB.out))) : w.heap.size ≤ gb101)); clear HB; have HB := n0_; have BK101 := n1_; have GW101 := n2_; have GE101 := n3_; clear n0_ n1_ n2_ n3_; clear hb hbox hg; have hcz23_0 : w22.cell? ⟨gb101, 0, none⟩ = some (.slice A0_0 l0_0.length c0_0) := (blk_cell BK101.out 0).trans rfl; have hcz23_1 : w22.cell? ⟨gb101, 1, none⟩ = some (.int .i64 a0_1) := (blk_cell BK101.out 1).trans rfl; have hcz23_2 : w22.cell? ⟨gb101, 2, none⟩ = some (.int .i64 a0_2) := (blk_cell BK101.out 2).trans rfl; have hcz23_3 : w22.cell? ⟨gb101, 3, none⟩ = some (.int .i64 a0_3) := (blk_cell BK101.out 3).trans rfl; have hcz23_4 : w22.cell? ⟨gb101, 4, none⟩ = some (.int .i64 a0_4) := (blk_cell BK101.out 4).trans rfl; have hcz23_5 : w22.cell? ⟨gb101, 5, none⟩ = some (.int .i64 a0_5) := (blk_cell BK101.out 5).trans rfl; have hcz23_6 : w22.cell? ⟨gb101, 6, none⟩ = some (.int .i64 a0_6) := (blk_cell BK101.out 6).trans rfl; have hfz23_0 := blk_frozen BK101.out 0; have hfz23_1 := blk_frozen BK101.out 1; have hfz23_2 := blk_frozen BK101.out 2; have hfz23_3 := blk_frozen BK101.out 3; have hfz23_4 := blk_frozen BK101.out 4; have hfz23_5 := blk_frozen BK101.out 5; have hfz23_6 := blk_frozen BK101.out 6) | (go_at_call 62; (with_reducible refine (impl_within.calls a0_1 1 9 true _ A3.out).mono ?_); rintro e w' ⟨rfl, ⟨nd, rfl⟩⟩) | (go_at_call 62; (with_reducible refine (impl_within.calls a0_2 1 99 false _ A5.out).mono ?_); rintro e w' ⟨rfl, ⟨nd, rfl⟩⟩))
        go_ret
        exact ⟨by first | rfl | (simp [errW_none, errW_some] <;> rfl) | (simp [*, errW_none, errW_some] <;> rfl), by repeat (first | (with_reducible first | exact HB.out | apply below_alloc | apply pw_below_drewN | apply below_drew1 | refine below_set ?_ GE101.out) | exact HB.out)⟩
    · replace c4 := Bool.eq_false_iff.mpr c4
      subst c4
      have H1 : (some false) = some r := by rw [if_neg (show ¬ (false = true) by decide)] at H; exact H
      clear H
      have H := H1
      clear H1
      obtain rfl := Option.some.inj H
      go_enter Try.func14, Try.ntmps14
      go_wp2_with (first | ((with_reducible refine gate_dst (N := 1) rfl ?_); refine box_event ?hg (N := 1) ?hd (cs := #[.slice A0_0 l0_0.length c0_0, .int .i64 a0_1, .int .i64 a0_2, .int .i64 a0_3, .int .i64 a0_4, .int .i64 a0_5, .int .i64 a0_6]) (t := 24) ?hr ?_; (case hd => rfl); (case hg => rfl); (case hr => first | (go_simp; done) | (go_simp; rfl)); intro gb101 hg w24 hbox hb; have n0_ := Aside0.mk (below_step (by repeat (first | (with_reducible first | exact HB.out | apply below_alloc | apply pw_below_drewN | apply below_drew1) | exact HB.out)) hb); have n1_ := Aside0.mk (hbox); have n2_ := Aside0.mk ((by rw [hg]; exact (below_size (by repeat (first | (with_reducible first | exact HB.out | apply below_alloc | apply pw_below_drewN | apply below_drew1) | exact HB.out))) : w.heap.size ≤ gb101)); have n3_ := Aside0.mk ((by rw [hg]; exact (below_size (by repeat (first | (with_reducible first | exact HB.out | apply below_alloc | apply pw_below_drewN | apply below_drew1) | exact HB.out))) : w.heap.size ≤ gb101)); clear HB; have HB := n0_; have BK101 := n1_; have GW101 := n2_; have GE101 := n3_; clear n0_ n1_ n2_ n3_; clear hb hbox hg; have hcz25_0 : w24.cell? ⟨gb101, 0, none⟩ = some (.slice A0_0 l0_0.length c0_0) := (blk_cell BK101.out 0).trans rfl; have hcz25_1 : w24.cell? ⟨gb101, 1, none⟩ = some (.int .i64 a0_1) := (blk_cell BK101.out 1).trans rfl; have hcz25_2 : w24.cell? ⟨gb101, 2, none⟩ = some (.int .i64 a0_2) := (blk_cell BK101.out 2).trans rfl; have hcz25_3 : w24.cell? ⟨gb101, 3, none⟩ = some (.int .i64 a0_3) := (blk_cell BK101.out 3).trans rfl; have hcz25_4 : w24.cell? ⟨gb101, 4, none⟩ = some (.int .i64 a0_4) := (blk_cell BK101.out 4).trans rfl; have hcz25_5 : w24.cell? ⟨gb101, 5, none⟩ = some (.int .i64 a0_5) := (blk_cell BK101.out 5).trans rfl; have hcz25_6 : w24.cell? ⟨gb101, 6, none⟩ = some (.int .i64 a0_6) := (blk_cell BK101.out 6).trans rfl; have hfz25_0 := blk_frozen BK101.out 0; have hfz25_1 := blk_frozen BK101.out 1; have hfz25_2 := blk_frozen BK101.out 2; have hfz25_3 := blk_frozen BK101.out 3; have hfz25_4 := blk_frozen BK101.out 4; have hfz25_5 := blk_frozen BK101.out 5; have hfz25_6 := blk_frozen BK101.out 6) | (go_at_call 62; (with_reducible refine (impl_within.calls a0_1 1 9 false _ A3.out).mono ?_); rintro e w' ⟨rfl, ⟨nd, rfl⟩⟩))
      go_ret
      exact ⟨by first | rfl | (simp [errW_none, errW_some] <;> rfl) | (simp [*, errW_none, errW_some] <;> rfl), by repeat (first | (with_reducible first | exact HB.out | apply below_alloc | apply pw_below_drewN | apply below_drew1 | refine below_set ?_ GE101.out) | exact HB.out)⟩
  · rw [if_neg c2] at H
    have c2b0 : decide ((l0_0.length : Int) ≤ 32) = false := decide_eq_false c2
    have c2b1 : decide (l0_0.length ≤ 32) = false := decide_eq_false (by omega)
    clear c2
    obtain rfl := Option.some.inj H
    go_enter Try.func14, Try.ntmps14
    go_wp2_with (first | ((with_reducible refine gate_dst (N := 1) rfl ?_); refine box_event ?hg (N := 1) ?hd (cs := #[.slice A0_0 l0_0.length c0_0, .int .i64 a0_1, .int .i64 a0_2, .int .i64 a0_3, .int .i64 a0_4, .int .i64 a0_5, .int .i64 a0_6]) (t := 24) ?hr ?_; (case hd => rfl); (case hg => rfl); (case hr => first | (go_simp; done) | (go_simp; rfl)); intro gb101 hg w26 hbox hb; have n0_ := Aside0.mk (below_step (by repeat (first | (with_reducible first | exact HB.out | apply below_alloc | apply pw_below_drewN | apply below_drew1) | exact HB.out)) hb); have n1_ := Aside0.mk (hbox); have n2_ := Aside0.mk ((by rw [hg]; exact (below_size (by repeat (first | (with_reducible first | exact HB.out | apply below_alloc | apply pw_below_drewN | apply below_drew1) | exact HB.out))) : w.heap.size ≤ gb101)); have n3_ := Aside0.mk ((by rw [hg]; exact (below_size (by repeat (first | (with_reducible first | exact HB.out | apply below_alloc | apply pw_below_drewN | apply below_drew1) | exact HB.out))) : w.heap.size ≤ gb101)); clear HB; have HB := n0_; have BK101 := n1_; have GW101 := n2_; have GE101 := n3_; clear n0_ n1_ n2_ n3_; clear hb hbox hg; have hcz27_0 : w26.cell? ⟨gb101, 0, none⟩ = some (.slice A0_0 l0_0.length c0_0) := (blk_cell BK101.out 0).trans rfl; have hcz27_1 : w26.cell? ⟨gb101, 1, none⟩ = some (.int .i64 a0_1) := (blk_cell BK101.out 1).trans rfl; have hcz27_2 : w26.cell? ⟨gb101, 2, none⟩ = some (.int .i64 a0_2) := (blk_cell BK101.out 2).trans rfl; have hcz27_3 : w26.cell? ⟨gb101, 3, none⟩ = some (.int .i64 a0_3) := (blk_cell BK101.out 3).trans rfl; have hcz27_4 : w26.cell? ⟨gb101, 4, none⟩ = some (.int .i64 a0_4) := (blk_cell BK101.out 4).trans rfl; have hcz27_5 : w26.cell? ⟨gb101, 5, none⟩ = some (.int .i64 a0_5) := (blk_cell BK101.out 5).trans rfl; have hcz27_6 : w26.cell? ⟨gb101, 6, none⟩ = some (.int .i64 a0_6) := (blk_cell BK101.out 6).trans rfl; have hfz27_0 := blk_frozen BK101.out 0; have hfz27_1 := blk_frozen BK101.out 1; have hfz27_2 := blk_frozen BK101.out 2; have hfz27_3 := blk_frozen BK101.out 3; have hfz27_4 := blk_frozen BK101.out 4; have hfz27_5 := blk_frozen BK101.out 5; have hfz27_6 := blk_frozen BK101.out 6))
    go_ret
    exact ⟨by first | rfl | (simp [errW_none, errW_some] <;> rfl) | (simp [*, errW_none, errW_some] <;> rfl), by repeat (first | (with_reducible first | exact HB.out | apply below_alloc | apply pw_below_drewN | apply below_drew1 | refine below_set ?_ GE101.out) | exact HB.out)⟩

end Go.Proofs.Ytgpkkkmapgnhkaa.X

namespace Go.Proofs.Ytgpkkkmapgnhkaa.X
open Go.RowKit Go.Proofs.YtgpkkkmapgnhkaaW.PrintWords Go.Proofs.YtgpkkkmapgnhkaaW.PrintLast Go.Proofs.YtgpkkkmapgnhkaaW.PrintMore
attribute [local go_sem] max2_int min2_int max_two min_two max_three min_three max_four min_four   -- for this text's walks alone
set_option linter.unusedVariables false
set_option linter.unusedSimpArgs false

/-! ### spec_l1In: function 63 -/
def spec_l1In.f (a0 : Int) (a1 : Int) (a2 : Int) : Option (Bool) := if a0 ≥ a1 then (some (decide (a0 ≤ a2))) else (some false)
set_option maxHeartbeats 8000000 in
set_option maxRecDepth 100000 in
theorem spec_l1In.calls (a0 : Int) (a1 : Int) (a2 : Int) (r : Bool) (w : World) (h : spec_l1In.f a0 a1 a2 = some r) :
    Calls Try.prog 63 #[.int .i64 a0, .int .i64 a1, .int .i64 a2] w fun e w' => e = .returned (.bool r) ∧ Drawn0 w w' := by
  have H : (if a0 ≥ a1 then (some (decide (a0 ≤ a2))) else (some false)) = some r := h
  clear h
  by_cases c4 : a0 ≥ a1
  · rw [if_pos c4] at H
    have c4b0 : decide (a1 ≤ a0) = true := decide_eq_true c4
    clear c4
    obtain rfl := Option.some.inj H
    go_enter Try.func63, Try.ntmps63
    go_wp2
    go_ret
    exact ⟨by first | rfl | (simp; done) | (simp [*]; done), by repeat (first | exact Drawn0.refl _ | apply Drawn0.step)⟩
  · rw [if_neg c4] at H
    have c4b0 : decide (a1 ≤ a0) = false := decide_eq_false c4
    clear c4
    obtain rfl := Option.some.inj H
    go_enter Try.func63, Try.ntmps63
    go_wp2
    go_ret
    exact ⟨by first | rfl | (simp; done) | (simp [*]; done), by repeat (first | exact Drawn0.refl _ | apply Drawn0.step)⟩

end Go.Proofs.Ytgpkkkmapgnhkaa.X

namespace Go.Proofs.Ytgpkkkmapgnhkaa.X
open Go.RowKit Go.Proofs.YtgpkkkmapgnhkaaW.PrintWords Go.Proofs.YtgpkkkmapgnhkaaW.PrintLast Go.Proofs.YtgpkkkmapgnhkaaW.PrintMore
attribute [local go_sem] max2_int min2_int max_two min_two max_three min_three max_four min_four   -- for this text's walks alone
set_option linter.unusedVariables false
set_option linter.unusedSimpArgs false

/-! ### spec_CfgOk: function 15 -/
def spec_CfgOk.f (l0_0 : List Int) (a0_1 : Int) (a0_2 : Int) (a0_3 : Int) (a0_4 : Int) (a0_5 : Int) (a0_6 : Int) : Option (Bool) := if (l0_0.length : Int) ≤ 32 then ((spec_l1In.f a0_1 1 9).bind fun t102 => (if t102 = true then ((spec_l1In.f a0_2 1 99).bind fun t103 => (if t103 = true then ((spec_l1In.f a0_3 1 4).bind fun t104 => (if t104 = true then ((spec_l1In.f a0_4 1 999).bind fun t105 => (if t105 = true then ((spec_l1In.f a0_5 1 3).bind fun t106 => (if t106 = true then ((spec_l1In.f a0_6 1 999).bind fun t107 => (some t107)) else (some false))) else (some false))) else (some false))) else (some false))) else (some false))) else (some false)
set_option maxHeartbeats 8000000 in
set_option maxRecDepth 100000 in
theorem spec_CfgOk.calls (A0_0 : Option Addr) (c0_0 : Nat) (l0_0 : List Int) (a0_1 : Int) (a0_2 : Int) (a0_3 : Int) (a0_4 : Int) (a0_5 : Int) (a0_6 : Int) (r : Bool) (w : World) (hr0_0 : Kd.C (Kd.int .u8) w A0_0 l0_0.length l0_0) (hc0_0 : l0_0.length ≤ c0_0) (h : spec_CfgOk.f l0_0 a0_1 a0_2 a0_3 a0_4 a0_5 a0_6 = some r) :
    Calls Try.prog 15 #[.agg #[.slice A0_0 l0_0.length c0_0, .int .i64 a0_1, .int .i64 a0_2, .int .i64 a0_3, .int .i64 a0_4, .int .i64 a0_5, .int .i64 a0_6]] w fun e w' => e = .returned (.bool r) ∧ Below w.heap.size w w' := by
  have hu24 := Try.underlying24
  have HR0_0 := Aside0.mk hr0_0
  have HC0_0 := Aside0.mk hc0_0
  clear hr0_0 hc0_0
  have HB := Aside0.mk (Below.refl w.heap.size w)
  have H : (if (l0_0.length : Int) ≤ 32 then ((spec_l1In.f a0_1 1 9).bind fun t102 => (if t102 = true then ((spec_l1In.f a0_2 1 99).bind fun t103 => (if t103 = true then ((spec_l1In.f a0_3 1 4).bind fun t104 => (if t104 = true then ((spec_l1In.f a0_4 1 999).bind fun t105 => (if t105 = true then ((spec_l1In.f a0_5 1 3).bind fun t106 => (if t106 = true then ((spec_l1In.f a0_6 1 999).bind fun t107 => (some t107)) else (some false))) else (some false))) else (some false))) else (some false))) else (some false))) else (some false)) = some r := h
  clear h
  by_cases c2 : (l0_0.length : Int) ≤ 32
  · rw [if_pos c2] at H
    have c2b0 : decide ((l0_0.length : Int) ≤ 32) = true := decide_eq_true c2
    have c2b1 : decide (l0_0.length ≤ 32) = true := decide_eq_true (by omega)
    clear c2
    replace H := Option.bind_eq_some_iff.mp H
    obtain ⟨t102, A30, H⟩ := H
    replace H : (if t102 = true then ((spec_l1In.f a0_2 1 99).bind fun t103 => (if t103 = true then ((spec_l1In.f a0_3 1 4).bind fun t104 => (if t104 = true then ((spec_l1In.f a0_4 1 999).bind fun t105 => (if t105 = true then ((spec_l1In.f a0_5 1 3).bind fun t106 => (if t106 = true then ((spec_l1In.f a0_6 1 999).bind fun t107 => (some t107)) else (some false))) else (some false))) else (some false))) else (some false))) else (some false)) = some r := H
    have A3 := Aside0.mk A30
    clear A30
    by_cases c4 : t102 = true
    · subst c4
      have H1 : ((spec_l1In.f a0_2 1 99).bind fun t103 => (if t103 = true then ((spec_l1In.f a0_3 1 4).bind fun t104 => (if t104 = true then ((spec_l1In.f a0_4 1 999).bind fun t105 => (if t105 = true then ((spec_l1In.f a0_5 1 3).bind fun t106 => (if t106 = true then ((spec_l1In.f a0_6 1 999).bind fun t107 => (some t107)) else (some false))) else (some false))) else (some false))) else (some false))) = some r := by rw [if_pos rfl] at H; exact H
      clear H
      have H := H1
      clear H1
      replace H := Option.bind_eq_some_iff.mp H
      obtain ⟨t103, A50, H⟩ := H
      replace H : (if t103 = true then ((spec_l1In.f a0_3 1 4).bind fun t104 => (if t104 = true then ((spec_l1In.f a0_4 1 999).bind fun t105 => (if t105 = true then ((spec_l1In.f a0_5 1 3).bind fun t106 => (if t106 = true then ((spec_l1In.f a0_6 1 999).bind fun t107 => (some t107)) else (some false))) else (some false))) else (some false))) else (some false)) = some r := H
      have A5 := Aside0.mk A50
      clear A50
      by_cases c6 : t103 = true
      · subst c6
        have H1 : ((spec_l1In.f a0_3 1 4).bind fun t104 => (if t104 = true then ((spec_l1In.f a0_4 1 999).bind fun t105 => (if t105 = true then ((spec_l1In.f a0_5 1 3).bind fun t106 => (if t106 = true then ((spec_l1In.f a0_6 1 999).bind fun t107 => (some t107)) else (some false))) else (some false))) else (some false))) = some r := by rw [if_pos rfl] at H; exact H
        clear H
        have H := H1
        clear H1
        replace H := Option.bind_eq_some_iff.mp H
        obtain ⟨t104, A70, H⟩ := H
        replace H : (if t104 = true then ((spec_l1In.f a0_4 1 999).bind fun t105 => (if t105 = true then ((spec_l1In.f a0_5 1 3).bind fun t106 => (if t106 = true then ((spec_l1In.f a0_6 1 999).bind fun t107 => (some t107)) else (some false))) else (some false))) else (some false)) = some r := H
        have A7 := Aside0.mk A70
        clear A70
        by_cases c8 : t104 = true
        · subst c8
          have H1 : ((spec_l1In.f a0_4 1 999).bind fun t105 => (if t105 = true then ((spec_l1In.f a0_5 1 3).bind fun t106 => (if t106 = true then ((spec_l1In.f a0_6 1 999).bind fun t107 => (some t107)) else (some false))) else (some false))) = some r := by rw [if_pos rfl] at H; exact H
          clear H
          have H := H1
          clear H1
          replace H := Option.bind_eq_some_iff.mp H
          obtain ⟨t105, A90, H⟩ := H
          replace H : (if t105 = true then ((spec_l1In.f a0_5 1 3).bind fun t106 => (if t106 = true then ((spec_l1In.f a0_6 1 999).bind fun t107 => (some t107)) else (some false))) else (some false)) = some r := H
          have A9 := Aside0.mk A90
          clear A90
          by_cases c10 : t105 = true
          · subst c10
            have H1 : ((spec_l1In.f a0_5 1 3).bind fun t106 => (if t106 = true then ((spec_l1In.f a0_6 1 999).bind fun t107 => (some t107)) else (some false))) = some r := by rw [if_pos rfl] at H; exact H
            clear H
            have H := H1
            clear H1
            replace H := Option.bind_eq_some_iff.mp H
            obtain ⟨t106, A110, H⟩ := H
            replace H : (if t106 = true then ((spec_l1In.f a0_6 1 999).bind fun t107 => (some t107)) else (some false)) = some r := H
            have A11 := Aside0.mk A110
            clear A110
            by_cases c12 : t106 = true
            · subst c12
              have H1 : ((spec_l1In.f a0_6 1 999).bind fun t107 => (some t107)) = some r := by rw [if_pos rfl] at H; exact H
              clear H
              have H := H1
              clear H1
              replace H := Option.bind_eq_some_iff.mp H
              obtain ⟨t107, A130, H⟩ := H
              replace H : (some t107) = some r := H
              have A13 := Aside0.mk A130
              clear A130
              obtain rfl := Option.some.inj H
              go_enter Try.func15, Try.ntmps15
              go_wp2_with (first | ((with_reducible refine gate_dst (N := 1) rfl ?_); refine box_event ?hg (N := 1) ?hd (cs := #[.slice A0_0 l0_0.length c0_0, .int .i64 a0_1, .int .i64 a0_2, .int .i64 a0_3, .int .i64 a0_4, .int .i64 a0_5, .int .i64 a0_6]) (t := 24) ?hr ?_; (case hd => rfl); (case hg => rfl); (case hr => first | (go_simp; done) | (go_simp; rfl)); intro gb101 hg w14 hbox hb; have n0_ := Aside0.mk (below_step (by repeat (first | (with_reducible first | exact HB.out | apply below_alloc | apply pw_below_drewN | apply below_drew1) | exact HB.out)) hb); have n1_ := Aside0.mk (hbox); have n2_ := Aside0.mk ((by rw [hg]; exact (below_size (by repeat (first | (with_reducible first | exact HB.out | apply below_alloc | apply pw_below_drewN | apply below_drew1) | exact HB.out))) : w.heap.size ≤ gb101)); have n3_ := Aside0.mk ((by rw [hg]; exact (below_size (by repeat (first | (with_reducible first | exact HB.out | apply below_alloc | apply pw_below_drewN | apply below_drew1) | exact HB.out))) : w.heap.size ≤ gb101)); clear HB; have HB := n0_; have BK101 := n1_; have GW101 := n2_; have GE101 := n3_; clear n0_ n1_ n2_ n3_; clear hb hbox hg; have hcz15_0 : w14.cell? ⟨gb101, 0, none⟩ = some (.slice A0_0 l0_0.length c0_0) := (blk_cell BK101.out 0).trans rfl; have hcz15_1 : w14.cell? ⟨gb101, 1, none⟩ = some (.int .i64 a0_1) := (blk_cell BK101.out 1).trans rfl; have hcz15_2 : w14.cell? ⟨gb101, 2, none⟩ = some (.int .i64 a0_2) := (blk_cell BK101.out 2).trans rfl; have hcz15_3 : w14.cell? ⟨gb101, 3, none⟩ = some (.int .i64 a0_3) := (blk_cell BK101.out 3).trans rfl; have hcz15_4 : w14.cell? ⟨gb101, 4, none⟩ = some (.int .i64 a0_4) := (blk_cell BK101.out 4).trans rfl; have hcz15_5 : w14.cell? ⟨gb101, 5, none⟩ = some (.int .i64 a0_5) := (blk_cell BK101.out 5).trans rfl; have hcz15_6 : w14.cell? ⟨gb101, 6, none⟩ = some (.int .i64 a0_6) := (blk_cell BK101.out 6).trans rfl; have hfz15_0 := blk_frozen BK101.out 0; have hfz15_1 := blk_frozen BK101.out 1; have hfz15_2 := blk_frozen BK101.out 2; have hfz15_3 := blk_frozen BK101.out 3; have hfz15_4 := blk_frozen BK101.out 4; have hfz15_5 := blk_frozen BK101.out 5; have hfz15_6 := blk_frozen BK101.out 6) | (go_at_call 63; (with_reducible refine (spec_l1In.calls a0_1 1 9 true _ A3.out).mono ?_); rintro e w' ⟨rfl, ⟨nd, rfl⟩⟩) | (go_at_call 63; (with_reducible refine (spec_l1In.calls a0_2 1 99 true _ A5.out).mono ?_); rintro e w' ⟨rfl, ⟨nd, rfl⟩⟩) | (go_at_call 63; (with_reducible refine (spec_l1In.calls a0_3 1 4 true _ A7.out).mono ?_); rintro e w' ⟨rfl, ⟨nd, rfl⟩⟩) | (go_at_call 63; (with_reducible refine (spec_l1In.calls a0_4 1 999 true _ A9.out).mono ?_); rintro e w' ⟨rfl, ⟨nd, rfl⟩⟩) | (go_at_call 63; (with_reducible refine (spec_l1In.calls a0_5 1 3 true _ A11.out).mono ?_); rintro e w' ⟨rfl, ⟨nd, rfl⟩⟩) | (go_at_call 63; (with_reducible refine (spec_l1In.calls a0_6 1 999 t107 _ A13.out).mono ?_); rintro e w' ⟨rfl, ⟨nd, rfl⟩⟩))
              go_ret
              exact ⟨by first | rfl | (simp [errW_none, errW_some] <;> rfl) | (simp [*, errW_none, errW_some] <;> rfl), by repeat (first | (with_reducible first | exact HB.out | apply below_alloc | apply pw_below_drewN | apply below_drew1 | refine below_set ?_ GE101.out) | exact HB.out)⟩
            · replace c12 := Bool.eq_false_iff.mpr c12
              subst c12
              have H1 : (some false) = some r := by rw [if_neg (show ¬ (false = true) by decide)] at H; exact H
              clear H
              have H := H1
              clear H1
              obtain rfl := Option.some.inj H
              go_enter Try.func15, Try.ntmps15
              go_wp2_with (first | ((with_reducible refine gate_dst (N := 1) rfl ?_); refine box_event ?hg (N := 1) ?hd (cs := #[.slice A0_0 l0_0.length c0_0, .int .i64 a0_1, .int .i64 a0_2, .int .i64 a0_3, .int .i64 a0_4, .int .i64 a0_5, .int .i64 a0_6]) (t := 24) ?hr ?_; (case hd => rfl); (case hg => rfl); (case hr => first | (go_simp; done) | (go_simp; rfl)); intro gb101 hg w16 hbox hb; have n0_ := Aside0.mk (below_step (by repeat (first | (with_reducible first | exact HB.out | apply below_alloc | apply pw_below_drewN | apply below_drew1) | exact HB.out)) hb); have n1_ := Aside0.mk (hbox); have n2_ := Aside0.mk ((by rw [hg]; exact (below_size (by repeat (first | (with_reducible first | exact HB.out | apply below_alloc | apply pw_below_drewN | apply below_drew1) | exact HB.out))) : w.heap.size ≤ gb101)); have n3_ := Aside0.mk ((by rw [hg]; exact (below_size (by repeat (first | (with_reducible first | exact HB.out | apply below_alloc | apply pw_below_drewN | apply below_drew1) | exact HB.out))) : w.heap.size ≤ gb101)); clear HB; have HB := n0_; have BK101 := n1_; have GW101 := n2_; have GE101 := n3_; clear n0_ n1_ n2_ n3_; clear hb hbox hg; have hcz17_0 : w16.cell? ⟨gb101, 0, none⟩ = some (.slice A0_0 l0_0.length c0_0) := (blk_cell BK101.out 0).trans rfl; have hcz17_1 : w16.cell? ⟨gb101, 1, none⟩ = some (.int .i64 a0_1) := (blk_cell BK101.out 1).trans rfl; have hcz17_2 : w16.cell? ⟨gb101, 2, none⟩ = some (.int .i64 a0_2) := (blk_cell BK101.out 2).trans rfl; have hcz17_3 : w16.cell? ⟨gb101, 3, none⟩ = some (.int .i64 a0_3) := (blk_cell BK101.out 3).trans rfl; have hcz17_4 : w16.cell? ⟨gb101, 4, none⟩ = some (.int .i64 a0_4) := (blk_cell BK101.out 4).trans rfl; have hcz17_5 : w16.cell? ⟨gb101, 5, none⟩ = some (.int .i64 a0_5) := (blk_cell BK101.out 5).trans rfl; have hcz17_6 : w16.cell? ⟨gb101, 6, none⟩ = some (.int .i64 a0_6) := (blk_cell BK101.out 6).trans rfl; have hfz17_0 := blk_frozen BK101.out 0; have hfz17_1 := blk_frozen BK101.out 1; have hfz17_2 := blk_frozen BK101.out 2; have hfz17_3 := blk_frozen BK101.out 3; have hfz17_4 := blk_frozen BK101.out 4; have hfz17_5 := blk_frozen BK101.out 5; have hfz17_6 := blk_frozen BK101.out 6) | (go_at_call 63; (with_reducible refine (spec_l1In.calls a0_1 1 9 true _ A3.out).mono ?_); rintro e w' ⟨rfl, ⟨nd, rfl⟩⟩) | (go_at_call 63; (with_reducible refine (spec_l1In.calls a0_2 1 99 true _ A5.out).mono ?_); rintro e w' ⟨rfl, ⟨nd, rfl⟩⟩) | (go_at_call 63; (with_reducible refine (spec_l1In.calls a0_3 1 4 true _ A7.out).mono ?_); rintro e w' ⟨rfl, ⟨nd, rfl⟩⟩) | (go_at_call 63; (with_reducible refine (spec_l1In.calls a0_4 1 999 true _ A9.out).mono ?_); rintro e w' ⟨rfl, ⟨nd, rfl⟩⟩) | (go_at_call 63; (with_reducible refine (spec_l1In.calls a0_5 1 3 false _ A11.out).mono ?_); rintro e w' ⟨rfl, ⟨nd, rfl⟩⟩))
              go_ret
              exact ⟨by first | rfl | (simp [errW_none, errW_some] <;> rfl) | (simp [*, errW_none, errW_some] <;> rfl), by repeat (first | (with_reducible first | exact HB.out | apply below_alloc | apply pw_below_drewN | apply below_drew1 | refine below_set ?_ GE101.out) | exact HB.out)⟩
          · replace c10 := Bool.eq_false_iff.mpr c10
            subst c10
            have H1 : (some false) = some r := by rw [if_neg (show ¬ (false = true) by decide)] at H; exact H
            clear H
            have H := H1
            clear H1
            obtain rfl := Option.some.inj H
            go_enter Try.func15, Try.ntmps15
            go_wp2_with (first | ((with_reducible refine gate_dst (N := 1) rfl ?_); refine box_event ?hg (N := 1) ?hd (cs := #[.slice A0_0 l0_0.length c0_0, .int .i64 a0_1, .int .i64 a0_2, .int .i64 a0_3, .int .i64 a0_4, .int .i64 a0_5, .int .i64 a0_6]) (t := 24) ?hr ?_; (case hd => rfl); (case hg => rfl); (case hr => first | (go_simp; done) | (go_simp; rfl)); intro gb101 hg w18 hbox hb; have n0_ := Aside0.mk (below_step (by repeat (first | (with_reducible first | exact HB.out | apply below_alloc | apply pw_below_drewN | apply below_drew1) | exact HB.out)) hb); have n1_ := Aside0.mk (hbox); have n2_ := Aside0.mk ((by rw [hg]; exact (below_size (by repeat (first | (with_reducible first | exact HB.out | apply below_alloc | apply pw_below_drewN | apply below_drew1) | exact HB.out))) : w.heap.size ≤ gb101)); have n3_ := Aside0.mk ((by rw [hg]; exact (below_size (by repeat (first | (with_reducible first | exact HB.out | apply below_alloc | apply pw_below_drewN | apply below_drew1) | exact HB.out))) : w.heap.size ≤ gb101)); clear HB; have HB := n0_; have BK101 := n1_; have GW101 := n2_; have GE101 := n3_; clear n0_ n1_ n2_ n3_; clear hb hbox hg; have hcz19_0 : w18.cell? ⟨gb101, 0, none⟩ = some (.slice A0_0 l0_0.length c0_0) := (blk_cell BK101.out 0).trans rfl; have hcz19_1 : w18.cell? ⟨gb101, 1, none⟩ = some (.int .i64 a0_1) := (blk_cell BK101.out 1).trans rfl; have hcz19_2 : w18.cell? ⟨gb101, 2, none⟩ = some (.int .i64 a0_2) := (blk_cell BK101.out 2).trans rfl; have hcz19_3 : w18.cell? ⟨gb101, 3, none⟩ = some (.int .i64 a0_3) := (blk_cell BK101.out 3).trans rfl; have hcz19_4 : w18.cell? ⟨gb101, 4, none⟩ = some (.int .i64 a0_4) := (blk_cell BK101.out 4).trans rfl; have hcz19_5 : w18.cell? ⟨gb101, 5, none⟩ = some (.int .i64 a0_5) := (blk_cell BK101.out 5).trans rfl; have hcz19_6 : w18.cell? ⟨gb101, 6, none⟩ = some (.int .i64 a0_6) := (blk_cell BK101.out 6).trans rfl; have hfz19_0 := blk_frozen BK101.out 0; have hfz19_1 := blk_frozen BK101.out 1; have hfz19_2 := blk_frozen BK101.out 2; have hfz19_3 := blk_frozen BK101.out 3; have hfz19_4 := blk_frozen BK101.out 4; have hfz19_5 := blk_frozen BK101.out 5; have hfz19_6 := blk_frozen BK101.out 6) | (go_at_call 63; (with_reducible refine (spec_l1In.calls a0_1 1 9 true _ A3.out).mono ?_); rintro e w' ⟨rfl, ⟨nd, rfl⟩⟩) | (go_at_call 63; (with_reducible refine (spec_l1In.calls a0_2 1 99 true _ A5.out).mono ?_); rintro e w' ⟨rfl, ⟨nd, rfl⟩⟩) | (go_at_call 63; (with_reducible refine (spec_l1In.calls a0_3 1 4 true _ A7.out).mono ?_); rintro e w' ⟨rfl, ⟨nd, rfl⟩⟩) | (go_at_call 63; (with_reducible refine (spec_l1In.calls a0_4 1 999 false _ A9.out).mono ?_); rintro e w' ⟨rfl, ⟨nd, rfl⟩⟩))
            go_ret
            exact ⟨by first | rfl | (simp [errW_none, errW_some] <;> rfl) | (simp [*, errW_none, errW_some] <;> rfl), by repeat (first | (with_reducible first | exact HB.out | apply below_alloc | apply pw_below_drewN | apply below_drew1 | refine below_set ?_ GE101.out) | exact HB.out)⟩
        · replace c8 := Bool.eq_false_iff.mpr c8
          subst c8
          have H1 : (some false) = some r := by rw [if_neg (show ¬ (false = true) by decide)] at H; exact H
          clear H
          have H := H1
          clear H1
          obtain rfl := Option.some.inj H
          go_enter Try.func15, Try.ntmps15
          go_wp2_with (first | ((with_reducible refine gate_dst (N := 1) rfl ?_); refine box_event ?hg (N := 1) ?hd (cs := #[.slice A0_0 l0_0.length c0_0, .int .i64 a0_1, .int .i64 a0_2, .int .i64 a0_3, .int .i64 a0_4, .int .i64 a0_5, .int .i64 a0_6]) (t := 24) ?hr ?_; (case hd => rfl); (case hg => rfl); (case hr => first | (go_simp; done) | (go_simp; rfl)); intro gb101 hg w20 hbox hb; have n0_ := Aside0.mk (below_step (by repeat (first | (with_reducible first | exact HB.out | apply below_alloc | apply pw_below_drewN | apply below_drew1) | exact HB.out)) hb); have n1_ := Aside0.mk (hbox); have n2_ := Aside0.mk ((by rw [hg]; exact (below_size (by repeat (first | (with_reducible first | exact HB.out | apply below_alloc | apply pw_below_drewN | apply below_drew1) | exact HB.out))) : w.heap.size ≤ gb101)); have n3_ := Aside0.mk ((by rw [hg]; exact (below_size (by repeat (first | (with_reducible first | exact HB.out | apply below_alloc | apply pw_below_drewN | apply below_drew1) | exact HB.out))) : w.heap.size ≤ gb101)); clear HB; have HB := n0_; have BK101 := n1_; have GW101 := n2_; have GE101 := n3_; clear n0_ n1_ n2_ n3_; clear hb hbox hg; have hcz21_0 : w20.cell? ⟨gb101, 0, none⟩ = some (.slice A0_0 l0_0.length c0_0) := (blk_cell BK101.out 0).trans rfl; have hcz21_1 : w20.cell? ⟨gb101, 1, none⟩ = some (.int .i64 a0_1) := (blk_cell BK101.out 1).trans rfl; have hcz21_2 : w20.cell? ⟨gb101, 2, none⟩ = some (.int .i64 a0_2) := (blk_cell BK101.out 2).trans rfl; have hcz21_3 : w20.cell? ⟨gb101, 3, none⟩ = some (.int .i64 a0_3) := (blk_cell BK101.out 3).trans rfl; have hcz21_4 : w20.cell? ⟨gb101, 4, none⟩ = some (.int .i64 a0_4) := (blk_cell BK101.out 4).trans rfl; have hcz21_5 : w20.cell? ⟨gb101, 5, none⟩ = some (.int .i64 a0_5) := (blk_cell BK101.out 5).trans rfl; have hcz21_6 : w20.cell? ⟨gb101, 6, none⟩ = some (.int .i64 a0_6) := (blk_cell BK101.out 6).trans rfl; have hfz21_0 := blk_frozen BK101.out 0; have hfz21_1 := blk_frozen BK101.out 1; have hfz21_2 := blk_frozen BK101.out 2; have hfz21_3 := blk_frozen BK101.out 3; have hfz21_4 := blk_frozen BK101.out 4; have hfz21_5 := blk_frozen BK101.out 5; have hfz21_6 := blk_frozen BK101.out 6) | (go_at_call 63; (with_reducible refine (spec_l1In.calls a0_1 1 9 true _ A3.out).mono ?_); rintro e w' ⟨rfl, ⟨nd, rfl⟩⟩) | (go_at_call 63; (with_reducible refine (spec_l1In.calls a0_2 1 99 true _ A5.out).mono ?_); rintro e w' ⟨rfl, ⟨nd, rfl⟩⟩) | (go_at_call 63; (with_reducible refine (spec_l1In.calls a0_3 1 4 false _ A7.out).mono ?_); rintro e w' ⟨rfl, ⟨nd, rfl⟩⟩))
          go_ret
          exact ⟨by first | rfl | (simp [errW_none, errW_some] <;> rfl) | (simp [*, errW_none, errW_some] <;> rfl), by repeat (first | (with_reducible first | exact HB.out | apply below_alloc | apply pw_below_drewN | apply below_drew1 | refine below_set ?_ GE101.out) | exact HB.out)⟩
      · replace c6 := Bool.eq_false_iff.mpr c6
        subst c6
        have H1 : (some false) = some r := by rw [if_neg (show ¬ (false = true) by decide)] at H; exact H
        clear H
        have H := H1
        clear H1
        obtain rfl := Option.some.inj H
        go_enter Try.func15, Try.ntmps15
        go_wp2_with (first | ((with_reducible refine gate_dst (N := 1) rfl ?_); refine box_event ?hg (N := 1) ?hd (cs := #[.slice A0_0 l0_0.length c0_0, .int .i64 a0_1, .int .i64 a0_2, .int .i64 a0_3, .int .i64 a0_4, .int .i64 a0_5, .int .i64 a0_6]) (t := 24) ?hr ?_; (case hd => rfl); (case hg => rfl); (case hr => first | (go_simp; done) | (go_simp; rfl)); intro gb101 hg w22 hbox hb; have n0_ := Aside0.mk (below_step (by repeat (first | (with_reducible first | exact HB.out | apply below_alloc | apply pw_below_drewN | apply below_drew1) | exact HB.out)) hb); have n1_ := Aside0.mk (hbox); have n2_ := Aside0.mk ((by rw [hg]; exact (below_size (by repeat (first | (with_reducible first | exact HB.out | apply below_alloc | apply pw_below_drewN | apply below_drew1) | exact HB.out))) : w.heap.size ≤ gb101)); have n3_ := Aside0.mk ((by rw [hg]; exact (below_size (by repeat (first | (with_reducible first | exact HB.out | apply below_alloc | apply pw_below_drewN | apply below_drew1) | exact HB.out))) : w.heap.size ≤ gb101)); clear HB; have HB := n0_; have BK101 := n1_; have GW101 := n2_; have GE101 := n3_; clear n0_ n1_ n2_ n3_; clear hb hbox hg; have hcz23_0 : w22.cell? ⟨gb101, 0, none⟩ = some (.slice A0_0 l0_0.length c0_0) := (blk_cell BK101.out 0).trans rfl; have hcz23_1 : w22.cell? ⟨gb101, 1, none⟩ = some (.int .i64 a0_1) := (blk_cell BK101.out 1).trans rfl; have hcz23_2 : w22.cell? ⟨gb101, 2, none⟩ = some (.int .i64 a0_2) := (blk_cell BK101.out 2).trans rfl; have hcz23_3 : w22.cell? ⟨gb101, 3, none⟩ = some (.int .i64 a0_3) := (blk_cell BK101.out 3).trans rfl; have hcz23_4 : w22.cell? ⟨gb101, 4, none⟩ = some (.int .i64 a0_4) := (blk_cell BK101.out 4).trans rfl; have hcz23_5 : w22.cell? ⟨gb101, 5, none⟩ = some (.int .i64 a0_5) := (blk_cell BK101.out 5).trans rfl; have hcz23_6 : w22.cell? ⟨gb101, 6, none⟩ = some (.int .i64 a0_6) := (blk_cell BK101.out 6).trans rfl; have hfz23_0 := blk_frozen BK101.out 0; have hfz23_1 := blk_frozen BK101.out 1; have hfz23_2 := blk_frozen BK101.out 2; have hfz23_3 := blk_frozen BK101.out 3; have hfz23_4 := blk_frozen BK101.out 4; have hfz23_5 := blk_frozen BK101.out 5; have hfz23_6 := blk_frozen BK101.out 6) | (go_at_call 63; (with_reducible refine (spec_l1In.calls a0_1 1 9 true _ A3.out).mono ?_); rintro e w' ⟨rfl, ⟨nd, rfl⟩⟩) | (go_at_call 63; (with_reducible refine (spec_l1In.calls a0_2 1 99 false _ A5.out).mono ?_); rintro e w' ⟨rfl, ⟨nd, rfl⟩⟩))
        go_ret
        exact ⟨by first | rfl | (simp [errW_none, errW_some] <;> rfl) | (simp [*, errW_none, errW_some] <;> rfl), by repeat (first | (with_reducible first | exact HB.out | apply below_alloc | apply pw_below_drewN | apply below_drew1 | refine below_set ?_ GE101.out) | exact HB.out)⟩
    · replace c4 := Bool.eq_false_iff.mpr c4
      subst c4
      have H1 : (some false) = some r := by rw [if_neg (show ¬ (false = true) by decide)] at H; exact H
      clear H
      have H := H1
      clear H1
      obtain rfl := Option.some.inj H
      go_enter Try.func15, Try.ntmps15
      go_wp2_with (first | ((with_reducible refine gate_dst (N := 1) rfl ?_); refine box_event ?hg (N := 1) ?hd (cs := #[.slice A0_0 l0_0.length c0_0, .int .i64 a0_1, .int .i64 a0_2, .int .i64 a0_3, .int .i64 a0_4, .int .i64 a0_5, .int .i64 a0_6]) (t := 24) ?hr ?_; (case hd => rfl); (case hg => rfl); (case hr => first | (go_simp; done) | (go_simp; rfl)); intro gb101 hg w24 hbox hb; have n0_ := Aside0.mk (below_step (by repeat (first | (with_reducible first | exact HB.out | apply below_alloc | apply pw_below_drewN | apply below_drew1) | exact HB.out)) hb); have n1_ := Aside0.mk (hbox); have n2_ := Aside0.mk ((by rw [hg]; exact (below_size (by repeat (first | (with_reducible first | exact HB.out | apply below_alloc | apply pw_below_drewN | apply below_drew1) | exact HB.out))) : w.heap.size ≤ gb101)); have n3_ := Aside0.mk ((by rw [hg]; exact (below_size (by repeat (first | (with_reducible first | exact HB.out | apply below_alloc | apply pw_below_drewN | apply below_drew1) | exact HB.out))) : w.heap.size ≤ gb101)); clear HB; have HB := n0_; have BK101 := n1_; have GW101 := n2_; have GE101 := n3_; clear n0_ n1_ n2_ n3_; clear hb hbox hg; have hcz25_0 : w24.cell? ⟨gb101, 0, none⟩ = some (.slice A0_0 l0_0.length c0_0) := (blk_cell BK101.out 0).trans rfl; have hcz25_1 : w24.cell? ⟨gb101, 1, none⟩ = some (.int .i64 a0_1) := (blk_cell BK101.out 1).trans rfl; have hcz25_2 : w24.cell? ⟨gb101, 2, none⟩ = some (.int .i64 a0_2) := (blk_cell BK101.out 2).trans rfl; have hcz25_3 : w24.cell? ⟨gb101, 3, none⟩ = some (.int .i64 a0_3) := (blk_cell BK101.out 3).trans rfl; have hcz25_4 : w24.cell? ⟨gb101, 4, none⟩ = some (.int .i64 a0_4) := (blk_cell BK101.out 4).trans rfl; have hcz25_5 : w24.cell? ⟨gb101, 5, none⟩ = some (.int .i64 a0_5) := (blk_cell BK101.out 5).trans rfl; have hcz25_6 : w24.cell? ⟨gb101, 6, none⟩ = some (.int .i64 a0_6) := (blk_cell BK101.out 6).trans rfl; have hfz25_0 := blk_frozen BK101.out 0; have hfz25_1 := blk_frozen BK101.out 1; have hfz25_2 := blk_frozen BK101.out 2; have hfz25_3 := blk_frozen BK101.out 3; have hfz25_4 := blk_frozen BK101.out 4; have hfz25_5 := blk_frozen BK101.out 5; have hfz25_6 := blk_frozen BK101.out 6) | (go_at_call 63; (with_reducible refine (spec_l1In.calls a0_1 1 9 false _ A3.out).mono ?_); rintro e w' ⟨rfl, ⟨nd, rfl⟩⟩))
      go_ret
      exact ⟨by first | rfl | (simp [errW_none, errW_some] <;> rfl) | (simp [*, errW_none, errW_some] <;> rfl), by repeat (first | (with_reducible first | exact HB.out | apply below_alloc | apply pw_below_drewN | apply below_drew1 | refine below_set ?_ GE101.out) | exact HB.out)⟩
  · rw [if_neg c2] at H
    have c2b0 : decide ((l0_0.length : Int) ≤ 32) = false := decide_eq_false c2
    have c2b1 : decide (l0_0.length ≤ 32) = false := decide_eq_false (by omega)
    clear c2
    obtain rfl := Option.some.inj H
    go_enter Try.func15, Try.ntmps15
    go_wp2_with (first | ((with_reducible refine gate_dst (N := 1) rfl ?_); refine box_event ?hg (N := 1) ?hd (cs := #[.slice A0_0 l0_0.length c0_0, .int .i64 a0_1, .int .i64 a0_2, .int .i64 a0_3, .int .i64 a0_4, .int .i64 a0_5, .int .i64 a0_6]) (t := 24) ?hr ?_; (case hd => rfl); (case hg => rfl); (case hr => first | (go_simp; done) | (go_simp; rfl)); intro gb101 hg w26 hbox hb; have n0_ := Aside0.mk (below_step (by repeat (first | (with_reducible first | exact HB.out | apply below_alloc | apply pw_below_drewN | apply below_drew1) | exact HB.out)) hb); have n1_ := Aside0.mk (hbox); have n2_ := Aside0.mk ((by rw [hg]; exact (below_size (by repeat (first | (with_reducible first | exact HB.out | apply below_alloc | apply pw_below_drewN | apply below_drew1) | exact HB.out))) : w.heap.size ≤ gb101)); have n3_ := Aside0.mk ((by rw [hg]; exact (below_size (by repeat (first | (with_reducible first | exact HB.out | apply below_alloc | apply pw_below_drewN | apply below_drew1) | exact HB.out))) : w.heap.size ≤ gb101)); clear HB; have HB := n0_; have BK101 := n1_; have GW101 := n2_; have GE101 := n3_; clear n0_ n1_ n2_ n3_; clear hb hbox hg; have hcz27_0 : w26.cell? ⟨gb101, 0, none⟩ = some (.slice A0_0 l0_0.length c0_0) := (blk_cell BK101.out 0).trans rfl; have hcz27_1 : w26.cell? ⟨gb101, 1, none⟩ = some (.int .i64 a0_1) := (blk_cell BK101.out 1).trans rfl; have hcz27_2 : w26.cell? ⟨gb101, 2, none⟩ = some (.int .i64 a0_2) := (blk_cell BK101.out 2).trans rfl; have hcz27_3 : w26.cell? ⟨gb101, 3, none⟩ = some (.int .i64 a0_3) := (blk_cell BK101.out 3).trans rfl; have hcz27_4 : w26.cell? ⟨gb101, 4, none⟩ = some (.int .i64 a0_4) := (blk_cell BK101.out 4).trans rfl; have hcz27_5 : w26.cell? ⟨gb101, 5, none⟩ = some (.int .i64 a0_5) := (blk_cell BK101.out 5).trans rfl; have hcz27_6 : w26.cell? ⟨gb101, 6, none⟩ = some (.int .i64 a0_6) := (blk_cell BK101.out 6).trans rfl; have hfz27_0 := blk_frozen BK101.out 0; have hfz27_1 := blk_frozen BK101.out 1; have hfz27_2 := blk_frozen BK101.out 2; have hfz27_3 := blk_frozen BK101.out 3; have hfz27_4 := blk_frozen BK101.out 4; have hfz27_5 := blk_frozen BK101.out 5; have hfz27_6 := blk_frozen BK101.out 6))
    go_ret
    exact ⟨by first | rfl | (simp [errW_none, errW_some] <;> rfl) | (simp [*, errW_none, errW_some] <;> rfl), by repeat (first | (with_reducible first | exact HB.out | apply below_alloc | apply pw_below_drewN | apply below_drew1 | refine below_set ?_ GE101.out) | exact HB.out)⟩

end Go.Proofs.Ytgpkkkmapgnhkaa.X

namespace Go.Proofs.Ytgpkkkmapgnhkaa.X
open Go.RowKit Go.Proofs.YtgpkkkmapgnhkaaW.PrintWords Go.Proofs.YtgpkkkmapgnhkaaW.PrintLast Go.Proofs.YtgpkkkmapgnhkaaW.PrintMore
attribute [local go_sem] max2_int min2_int max_two min_two max_three min_three max_four min_four   -- for this text's walks alone
set_option linter.unusedVariables false
set_option linter.unusedSimpArgs false

/-! ### impl_partOk: function 118 -/
def impl_partOk.f (a0 : Int) : Option (Bool) := if a0 ≥ 0 then (some (decide (a0 ≤ 255))) else (some false)
set_option maxHeartbeats 8000000 in
set_option maxRecDepth 100000 in
theorem impl_partOk.calls (a0 : Int) (r : Bool) (w : World) (h : impl_partOk.f a0 = some r) :
    Calls Try.prog 118 #[.int .i64 a0] w fun e w' => e = .returned (.bool r) ∧ Drawn0 w w' := by
  have H : (if a0 ≥ 0 then (some (decide (a0 ≤ 255))) else (some false)) = some r := h
  clear h
  by_cases c2 : a0 ≥ 0
  · rw [if_pos c2] at H
    have c2b0 : decide (0 ≤ a0) = true := decide_eq_true c2
    clear c2
    obtain rfl := Option.some.inj H
    go_enter Try.func118, Try.ntmps118
    go_wp2
    go_ret
    exact ⟨by first | rfl | (simp; done) | (simp [*]; done), by repeat (first | exact Drawn0.refl _ | apply Drawn0.step)⟩
  · rw [if_neg c2] at H
    have c2b0 : decide (0 ≤ a0) = false := decide_eq_false c2
    clear c2
    obtain rfl := Option.some.inj H
    go_enter Try.func118, Try.ntmps118
    go_wp2
    go_ret
    exact ⟨by first | rfl | (simp; done) | (simp [*]; done), by repeat (first | exact Drawn0.refl _ | apply Drawn0.step)⟩

end Go.Proofs.Ytgpkkkmapgnhkaa.X

namespace Go.Proofs.Ytgpkkkmapgnhkaa.X
open Go.RowKit Go.Proofs.YtgpkkkmapgnhkaaW.PrintWords Go.Proofs.YtgpkkkmapgnhkaaW.PrintLast Go.Proofs.YtgpkkkmapgnhkaaW.PrintMore
attribute [local go_sem] max2_int min2_int max_two min_two max_three min_three max_four min_four   -- for this text's walks alone
set_option linter.unusedVariables false
set_option linter.unusedSimpArgs false

/-! ### impl_PixOk: function 64 -/
def impl_PixOk.f (a0_0 : Int) (a0_1 : Int) (a0_2 : Int) (a0_3 : Int) : Option (Bool) := (impl_partOk.f a0_0).bind fun t102 => (if t102 = true then ((impl_partOk.f a0_1).bind fun t103 => (if t103 = true then ((impl_partOk.f a0_2).bind fun t104 => (if t104 = true then ((impl_partOk.f a0_3).bind fun t105 => (some t105)) else (some false))) else (some false))) else (some false))
set_option maxHeartbeats 8000000 in
set_option maxRecDepth 100000 in
theorem impl_PixOk.calls (a0_0 : Int) (a0_1 : Int) (a0_2 : Int) (a0_3 : Int) (r : Bool) (w : World) (h : impl_PixOk.f a0_0 a0_1 a0_2 a0_3 = some r) :
    Calls Try.prog 64 #[.agg #[.int .i64 a0_0, .int .i64 a0_1, .int .i64 a0_2, .int .i64 a0_3]] w fun e w' => e = .returned (.bool r) ∧ Below w.heap.size w w' := by
  have hu98 := Try.underlying98
  have HB := Aside0.mk (Below.refl w.heap.size w)
  have H : ((impl_partOk.f a0_0).bind fun t102 => (if t102 = true then ((impl_partOk.f a0_1).bind fun t103 => (if t103 = true then ((impl_partOk.f a0_2).bind fun t104 => (if t104 = true then ((impl_partOk.f a0_3).bind fun t105 => (some t105)) else (some false))) else (some false))) else (some false))) = some r := h
  clear h
  replace H := Option.bind_eq_some_iff.mp H
  obtain ⟨t102, A20, H⟩ := H
  replace H : (if t102 = true then ((impl_partOk.f a0_1).bind fun t103 => (if t103 = true then ((impl_partOk.f a0_2).bind fun t104 => (if t104 = true then ((impl_partOk.f a0_3).bind fun t105 => (some t105)) else (some false))) else (some false))) else (some false)) = some r := H
  have A2 := Aside0.mk A20
  clear A20
  by_cases c3 : t102 = true
  · subst c3
    have H1 : ((impl_partOk.f a0_1).bind fun t103 => (if t103 = true then ((impl_partOk.f a0_2).bind fun t104 => (if t104 = true then ((impl_partOk.f a0_3).bind fun t105 => (some t105)) else (some false))) else (some false))) = some r := by rw [if_pos rfl] at H; exact H
    clear H
    have H := H1
    clear H1
    replace H := Option.bind_eq_some_iff.mp H
    obtain ⟨t103, A40, H⟩ := H
    replace H : (if t103 = true then ((impl_partOk.f a0_2).bind fun t104 => (if t104 = true then ((impl_partOk.f a0_3).bind fun t105 => (some t105)) else (some false))) else (some false)) = some r := H
    have A4 := Aside0.mk A40
    clear A40
    by_cases c5 : t103 = true
    · subst c5
      have H1 : ((impl_partOk.f a0_2).bind fun t104 => (if t104 = true then ((impl_partOk.f a0_3).bind fun t105 => (some t105)) else (some false))) = some r := by rw [if_pos rfl] at H; exact H
      clear H
      have H := H1
      clear H1
      replace H := Option.bind_eq_some_iff.mp H
      obtain ⟨t104, A60, H⟩ := H
      replace H : (if t104 = true then ((impl_partOk.f a0_3).bind fun t105 => (some t105)) else (some false)) = some r := H
      have A6 := Aside0.mk A60
      clear A60
      by_cases c7 : t104 = true
      · subst c7
        have H1 : ((impl_partOk.f a0_3).bind fun t105 => (some t105)) = some r := by rw [if_pos rfl] at H; exact H
        clear H
        have H := H1
        clear H1
        replace H := Option.bind_eq_some_iff.mp H
        obtain ⟨t105, A80, H⟩ := H
        replace H : (some t105) = some r := H
        have A8 := Aside0.mk A80
        clear A80
        obtain rfl := Option.some.inj H
        go_enter Try.func64, Try.ntmps64
        go_wp2_with (first | ((with_reducible refine gate_dst (N := 1) rfl ?_); refine box_event ?hg (N := 1) ?hd (cs := #[.int .i64 a0_0, .int .i64 a0_1, .int .i64 a0_2, .int .i64 a0_3]) (t := 98) ?hr ?_; (case hd => rfl); (case hg => rfl); (case hr => first | (go_simp; done) | (go_simp; rfl)); intro gb101 hg w9 hbox hb; have n0_ := Aside0.mk (below_step (by repeat (first | (with_reducible first | exact HB.out | apply below_alloc | apply pw_below_drewN | apply below_drew1) | exact HB.out)) hb); have n1_ := Aside0.mk (hbox); have n2_ := Aside0.mk ((by rw [hg]; exact (below_size (by repeat (first | (with_reducible first | exact HB.out | apply below_alloc | apply pw_below_drewN | apply below_drew1) | exact HB.out))) : w.heap.size ≤ gb101)); have n3_ := Aside0.mk ((by rw [hg]; exact (below_size (by repeat (first | (with_reducible first | exact HB.out | apply below_alloc | apply pw_below_drewN | apply below_drew1) | exact HB.out))) : w.heap.size ≤ gb101)); clear HB; have HB := n0_; have BK101 := n1_; have GW101 := n2_; have GE101 := n3_; clear n0_ n1_ n2_ n3_; clear hb hbox hg; have hcz10_0 : w9.cell? ⟨gb101, 0, none⟩ = some (.int .i64 a0_0) := (blk_cell BK101.out 0).trans rfl; have hcz10_1 : w9.cell? ⟨gb101, 1, none⟩ = some (.int .i64 a0_1) := (blk_cell BK101.out 1).trans rfl; have hcz10_2 : w9.cell? ⟨gb101, 2, none⟩ = some (.int .i64 a0_2) := (blk_cell BK101.out 2).trans rfl; have hcz10_3 : w9.cell? ⟨gb101, 3, none⟩ = some (.int .i64 a0_3) := (blk_cell BK101.out 3).trans rfl; have hfz10_0 := blk_frozen BK101.out 0; have hfz10_1 := blk_frozen BK101.out 1; have hfz10_2 := blk_frozen BK101.out 2; have hfz10_3 := blk_frozen BK101.out 3) | ((with_reducible refine gate_callee (f := 118) rfl ?_); refine goesL_ (some 5) rfl rfl Try.func118 (by kernel_rfl) rfl #[.int .i64 a0_0] rfl (by (try simp only [List.map_toArray, List.map_cons, List.map_nil]); first | done | rfl | (simp only [List.length_drop, List.length_take]; rfl)) ?_; (with_reducible refine (impl_partOk.calls a0_0 true _ A2.out).mono ?_); rintro e w' ⟨rfl, ⟨nd, rfl⟩⟩; refine ⟨_, rfl, ?_⟩) | (go_at_call 118; (with_reducible refine (impl_partOk.calls a0_1 true _ A4.out).mono ?_); rintro e w' ⟨rfl, ⟨nd, rfl⟩⟩) | (go_at_call 118; (with_reducible refine (impl_partOk.calls a0_2 true _ A6.out).mono ?_); rintro e w' ⟨rfl, ⟨nd, rfl⟩⟩) | (go_at_call 118; (with_reducible refine (impl_partOk.calls a0_3 t105 _ A8.out).mono ?_); rintro e w' ⟨rfl, ⟨nd, rfl⟩⟩))
        go_ret
        exact ⟨by first | rfl | (simp [errW_none, errW_some] <;> rfl) | (simp [*, errW_none, errW_some] <;> rfl), by repeat (first | (with_reducible first | exact HB.out | apply below_alloc | apply pw_below_drewN | apply below_drew1 | refine below_set ?_ GE101.out) | exact HB.out)⟩
      · replace c7 := Bool.eq_false_iff.mpr c7
        subst c7
        have H1 : (some false) = some r := by rw [if_neg (show ¬ (false = true) by decide)] at H; exact H
        clear H
        have H := H1
        clear H1
        obtain rfl := Option.some.inj H
        go_enter Try.func64, Try.ntmps64
        go_wp2_with (first | ((with_reducible refine gate_dst (N := 1) rfl ?_); refine box_event ?hg (N := 1) ?hd (cs := #[.int .i64 a0_0, .int .i64 a0_1, .int .i64 a0_2, .int .i64 a0_3]) (t := 98) ?hr ?_; (case hd => rfl); (case hg => rfl); (case hr => first | (go_simp; done) | (go_simp; rfl)); intro gb101 hg w11 hbox hb; have n0_ := Aside0.mk (below_step (by repeat (first | (with_reducible first | exact HB.out | apply below_alloc | apply pw_below_drewN | apply below_drew1) | exact HB.out)) hb); have n1_ := Aside0.mk (hbox); have n2_ := Aside0.mk ((by rw [hg]; exact (below_size (by repeat (first | (with_reducible first | exact HB.out | apply below_alloc | apply pw_below_drewN | apply below_drew1) | exact HB.out))) : w.heap.size ≤ gb101)); have n3_ := Aside0.mk ((by rw [hg]; exact (below_size (by repeat (first | (with_reducible first | exact HB.out | apply below_alloc | apply pw_below_drewN | apply below_drew1) | exact HB.out))) : w.heap.size ≤ gb101)); clear HB; have HB := n0_; have BK101 := n1_; have GW101 := n2_; have GE101 := n3_; clear n0_ n1_ n2_ n3_; clear hb hbox hg; have hcz12_0 : w11.cell? ⟨gb101, 0, none⟩ = some (.int .i64 a0_0) := (blk_cell BK101.out 0).trans rfl; have hcz12_1 : w11.cell? ⟨gb101, 1, none⟩ = some (.int .i64 a0_1) := (blk_cell BK101.out 1).trans rfl; have hcz12_2 : w11.cell? ⟨gb101, 2, none⟩ = some (.int .i64 a0_2) := (blk_cell BK101.out 2).trans rfl; have hcz12_3 : w11.cell? ⟨gb101, 3, none⟩ = some (.int .i64 a0_3) := (blk_cell BK101.out 3).trans rfl; have hfz12_0 := blk_frozen BK101.out 0; have hfz12_1 := blk_frozen BK101.out 1; have hfz12_2 := blk_frozen BK101.out 2; have hfz12_3 := blk_frozen BK101.out 3) | ((with_reducible refine gate_callee (f := 118) rfl ?_); refine goesL_ (some 5) rfl rfl Try.func118 (by kernel_rfl) rfl #[.int .i64 a0_0] rfl (by (try simp only [List.map_toArray, List.map_cons, List.map_nil]); first | done | rfl | (simp only [List.length_drop, List.length_take]; rfl)) ?_; (with_reducible refine (impl_partOk.calls a0_0 true _ A2.out).mono ?_); rintro e w' ⟨rfl, ⟨nd, rfl⟩⟩; refine ⟨_, rfl, ?_⟩) | (go_at_call 118; (with_reducible refine (impl_partOk.calls a0_1 true _ A4.out).mono ?_); rintro e w' ⟨rfl, ⟨nd, rfl⟩⟩) | (go_at_call 118; (with_reducible refine (impl_partOk.calls a0_2 false _ A6.out).mono ?_); rintro e w' ⟨rfl, ⟨nd, rfl⟩⟩))
        go_ret
        exact ⟨by first | rfl | (simp [errW_none, errW_some] <;> rfl) | (simp [*, errW_none, errW_some] <;> rfl), by repeat (first | (with_reducible first | exact HB.out | apply below_alloc | apply pw_below_drewN | apply below_drew1 | refine below_set ?_ GE101.out) | exact HB.out)⟩
    · replace c5 := Bool.eq_false_iff.mpr c5
      subst c5
      have H1 : (some false) = some r := by rw [if_neg (show ¬ (false = true) by decide)] at H; exact H
      clear H
      have H := H1
      clear H1
      obtain rfl := Option.some.inj H
      go_enter Try.func64, Try.ntmps64
      go_wp2_with (first | ((with_reducible refine gate_dst (N := 1) rfl ?_); refine box_event ?hg (N := 1) ?hd (cs := #[.int .i64 a0_0, .int .i64 a0_1, .int .i64 a0_2, .int .i64 a0_3]) (t := 98) ?hr ?_; (case hd => rfl); (case hg => rfl); (case hr => first | (go_simp; done) | (go_simp; rfl)); intro gb101 hg w13 hbox hb; have n0_ := Aside0.mk (below_step (by repeat (first | (with_reducible first | exact HB.out | apply below_alloc | apply pw_below_drewN | apply below_drew1) | exact HB.out)) hb); have n1_ := Aside0.mk (hbox); have n2_ := Aside0.mk ((by rw [hg]; exact (below_size (by repeat (first | (with_reducible first | exact HB.out | apply below_alloc | apply pw_below_drewN | apply below_drew1) | exact HB.out))) : w.heap.size ≤ gb101)); have n3_ := Aside0.mk ((by rw [hg]; exact (below_size (by repeat (first | (with_reducible first | exact HB.out | apply below_alloc | apply pw_below_drewN | apply below_drew1) | exact HB.out))) : w.heap.size ≤ gb101)); clear HB; have HB := n0_; have BK101 := n1_; have GW101 := n2_; have GE101 := n3_; clear n0_ n1_ n2_ n3_; clear hb hbox hg; have hcz14_0 : w13.cell? ⟨gb101, 0, none⟩ = some (.int .i64 a0_0) := (blk_cell BK101.out 0).trans rfl; have hcz14_1 : w13.cell? ⟨gb101, 1, none⟩ = some (.int .i64 a0_1) := (blk_cell BK101.out 1).trans rfl; have hcz14_2 : w13.cell? ⟨gb101, 2, none⟩ = some (.int .i64 a0_2) := (blk_cell BK101.out 2).trans rfl; have hcz14_3 : w13.cell? ⟨gb101, 3, none⟩ = some (.int .i64 a0_3) := (blk_cell BK101.out 3).trans rfl; have hfz14_0 := blk_frozen BK101.out 0; have hfz14_1 := blk_frozen BK101.out 1; have hfz14_2 := blk_frozen BK101.out 2; have hfz14_3 := blk_frozen BK101.out 3) | ((with_reducible refine gate_callee (f := 118) rfl ?_); refine goesL_ (some 5) rfl rfl Try.func118 (by kernel_rfl) rfl #[.int .i64 a0_0] rfl (by (try simp only [List.map_toArray, List.map_cons, List.map_nil]); first | done | rfl | (simp only [List.length_drop, List.length_take]; rfl)) ?_; (with_reducible refine (impl_partOk.calls a0_0 true _ A2.out).mono ?_); rintro e w' ⟨rfl, ⟨nd, rfl⟩⟩; refine ⟨_, rfl, ?_⟩) | (go_at_call 118; (with_reducible refine (impl_partOk.calls a0_1 false _ A4.out).mono ?_); rintro e w' ⟨rfl, ⟨nd, rfl⟩⟩))
      go_ret
      exact ⟨by first | rfl | (simp [errW_none, errW_some] <;> rfl) | (simp [*, errW_none, errW_some] <;> rfl), by repeat (first | (with_reducible first | exact HB.out | apply below_alloc | apply pw_below_drewN | apply below_drew1 | refine below_set ?_ GE101.out) | exact HB.out)⟩
  · replace c3 := Bool.eq_false_iff.mpr c3
    subst c3
    have H1 : (some false) = some r := by rw [if_neg (show ¬ (false = true) by decide)] at H; exact H
    clear H
    have H := H1
    clear H1
    obtain rfl := Option.some.inj H
    go_enter Try.func64, Try.ntmps64
    go_wp2_with (first | ((with_reducible refine gate_dst (N := 1) rfl ?_); refine box_event ?hg (N := 1) ?hd (cs := #[.int .i64 a0_0, .int .i64 a0_1, .int .i64 a0_2, .int .i64 a0_3]) (t := 98) ?hr ?_; (case hd => rfl); (case hg => rfl); (case hr => first | (go_simp; done) | (go_simp; rfl)); intro gb101 hg w15 hbox hb; have n0_ := Aside0.mk (below_step (by repeat (first | (with_reducible first | exact HB.out | apply below_alloc | apply pw_below_drewN | apply below_drew1) | exact HB.out)) hb); have n1_ := Aside0.mk (hbox); have n2_ := Aside0.mk ((by rw [hg]; exact (below_size (by repeat (first | (with_reducible first | exact HB.out | apply below_alloc | apply pw_below_drewN | apply below_drew1) | exact HB.out))) : w.heap.size ≤ gb101)); have n3_ := Aside0.mk ((by rw [hg]; exact (below_size (by repeat (first | (with_reducible first | exact HB.out | apply below_alloc | apply pw_below_drewN | apply below_drew1) | exact HB.out))) : w.heap.size ≤ gb101)); clear HB; have HB := n0_; have BK101 := n1_; have GW101 := n2_; have GE101 := n3_; clear n0_ n1_ n2_ n3_; clear hb hbox hg; have hcz16_0 : w15.cell? ⟨gb101, 0, none⟩ = some (.int .i64 a0_0) := (blk_cell BK101.out 0).trans rfl; have hcz16_1 : w15.cell? ⟨gb101, 1, none⟩ = some (.int .i64 a0_1) := (blk_cell BK101.out 1).trans rfl; have hcz16_2 : w15.cell? ⟨gb101, 2, none⟩ = some (.int .i64 a0_2) := (blk_cell BK101.out 2).trans rfl; have hcz16_3 : w15.cell? ⟨gb101, 3, none⟩ = some (.int .i64 a0_3) := (blk_cell BK101.out 3).trans rfl; have hfz16_0 := blk_frozen BK101.out 0; have hfz16_1 := blk_frozen BK101.out 1; have hfz16_2 := blk_frozen BK101.out 2; have hfz16_3 := blk_frozen BK101.out 3) | ((with_reducible refine gate_callee (f := 118) rfl ?_); refine goesL_ (some 5) rfl rfl Try.func118 (by kernel_rfl) rfl #[.int .i64 a0_0] rfl (by (try simp only [List.map_toArray, List.map_cons, List.map_nil]); first | done | rfl | (simp only [List.length_drop, List.length_take]; rfl)) ?_; (with_reducible refine (impl_partOk.calls a0_0 false _ A2.out).mono ?_); rintro e w' ⟨rfl, ⟨nd, rfl⟩⟩; refine ⟨_, rfl, ?_⟩))
    go_ret
    exact ⟨by first | rfl | (simp [errW_none, errW_some] <;> rfl) | (simp [*, errW_none, errW_some] <;> rfl), by repeat (first | (with_reducible first | exact HB.out | apply below_alloc | apply pw_below_drewN | apply below_drew1 | refine below_set ?_ GE101.out) | exact HB.out)⟩

end Go.Proofs.Ytgpkkkmapgnhkaa.X

namespace Go.Proofs.Ytgpkkkmapgnhkaa.X
open Go.RowKit Go.Proofs.YtgpkkkmapgnhkaaW.PrintWords Go.Proofs.YtgpkkkmapgnhkaaW.PrintLast Go.Proofs.YtgpkkkmapgnhkaaW.PrintMore
attribute [local go_sem] max2_int min2_int max_two min_two max_three min_three max_four min_four   -- for this text's walks alone
set_option linter.unusedVariables false
set_option linter.unusedSimpArgs false

/-! ### laws_eaOk: function 16 -/
def laws_eaOk.f  : Option (Bool) := (impl_PixOk.f 1 2 3 4).bind fun t101 => (some t101)
set_option maxHeartbeats 8000000 in
set_option maxRecDepth 100000 in
theorem laws_eaOk.calls  (r : Bool) (w : World) (h : laws_eaOk.f  = some r) :
    Calls Try.prog 16 #[] w fun e w' => e = .returned (.bool r) ∧ Below w.heap.size w w' := by
  have hu98 := Try.underlying98
  have HB := Aside0.mk (Below.refl w.heap.size w)
  have H : ((impl_PixOk.f 1 2 3 4).bind fun t101 => (some t101)) = some r := h
  clear h
  replace H := Option.bind_eq_some_iff.mp H
  obtain ⟨t101, A10, H⟩ := H
  replace H : (some t101) = some r := H
  have A1 := Aside0.mk A10
  clear A10
  obtain rfl := Option.some.inj H
  go_enter Try.func16, Try.ntmps16
  go_wp2_with (first | ((with_reducible refine gate_callee (f := 64) rfl ?_); refine goesL_ (some 2) rfl rfl Try.func64 (by kernel_rfl) rfl #[.agg #[.int .i64 1, .int .i64 2, .int .i64 3, .int .i64 4]] rfl (by (try simp only [List.map_toArray, List.map_cons, List.map_nil]); first | done | rfl | (simp only [List.length_drop, List.length_take]; rfl)) ?_; (with_reducible refine (impl_PixOk.calls 1 2 3 4 t101 _ A1.out).mono ?_); rintro e w2 ⟨rfl, hb⟩; refine ⟨_, rfl, ?_⟩; have n0_ := Aside0.mk (below_step (by repeat (first | (with_reducible first | exact HB.out | apply below_alloc | apply pw_below_drewN | apply below_drew1) | exact HB.out)) hb); clear HB; have HB := n0_; clear n0_; (try clear hb); (try clear hb2); (try clear hk); (try clear hi)))
  go_ret
  exact ⟨by first | rfl | (simp [errW_none, errW_some] <;> rfl) | (simp [*, errW_none, errW_some] <;> rfl), by repeat (first | (with_reducible first | exact HB.out | apply below_alloc | apply pw_below_drewN | apply below_drew1) | exact HB.out)⟩

end Go.Proofs.Ytgpkkkmapgnhkaa.X

namespace Go.Proofs.Ytgpkkkmapgnhkaa.X
open Go.RowKit Go.Proofs.YtgpkkkmapgnhkaaW.PrintWords Go.Proofs.YtgpkkkmapgnhkaaW.PrintLast Go.Proofs.YtgpkkkmapgnhkaaW.PrintMore
attribute [local go_sem] max2_int min2_int max_two min_two max_three min_three max_four min_four   -- for this text's walks alone
set_option linter.unusedVariables false
set_option linter.unusedSimpArgs false

open Go.Proofs.Ytgpkkkmapgnhkaa.X renaming rd_T24 → yaa
open Go.Proofs.YtgpkkkmapgnhkaaW.PrintWords.Aside0 renaming mk → yab
open Go.Proofs.YtgpkkkmapgnhkaaW.PrintWords renaming blk_frozen → yac, pw_below_drewN → yad, blk_cell → yae, below_alloc → yaf, below_drew1 → yag, blk_drewN → yah, blk_alloc → yai, blk_drew → yaj, below_set → yan
open Go.Proofs.YtgpkkkmapgnhkaaW.PrintWords.Kd renaming R_far → yak, R_reads' → yal, N_reads' → yam, R_types → yao

/-! ### laws_FnCfgOk: function 3 -/
def laws_FnCfgOk.l0 : Nat → List (S24) → Int → List Int → Int → Int → Int → Int → Int → Int → Option (Bool)
 | 0, _, _, _, _, _, _, _, _, _ => none
 | k + 1, x5, x6, x111000, x111001, x111002, x111003, x111004, x111005, x111006 => if x6 < (x5.length : Int) then (if 0 ≤ x6 then ((impl_CfgOk.f ((rd_T24 x5 x6).f0) ((rd_T24 x5 x6).f1) ((rd_T24 x5 x6).f2) ((rd_T24 x5 x6).f3) ((rd_T24 x5 x6).f4) ((rd_T24 x5 x6).f5) ((rd_T24 x5 x6).f6)).bind fun t124 => (if t124 = true then (some false) else (laws_FnCfgOk.l0 k x5 (wrap64 (x6 + 1)) x111000 x111001 x111002 x111003 x111004 x111005 x111006))) else (none)) else ((impl_CfgOk.f x111000 1 1 1 1 1 1).bind fun t125 => (some t125))
def laws_FnCfgOk.f (k : Nat) (l0 : List Int) : Option (Bool) := if (l0.length : Int) > 1048576 then (some true) else ((spec_DrawCfgOk.f k l0).bind fun bt101 => ((impl_CfgOk.f bt101.1 bt101.2.1 bt101.2.2.1 bt101.2.2.2.1 bt101.2.2.2.2.1 bt101.2.2.2.2.2.1 bt101.2.2.2.2.2.2).bind fun t111 => ((spec_CfgOk.f bt101.1 bt101.2.1 bt101.2.2.1 bt101.2.2.2.1 bt101.2.2.2.2.1 bt101.2.2.2.2.2.1 bt101.2.2.2.2.2.2).bind fun t112 => (if (t111 != t112) = true then (some false) else (if t111 = true then ((some (([(⟨bt101.1, bt101.2.1, bt101.2.2.1, bt101.2.2.2.1, bt101.2.2.2.2.1, bt101.2.2.2.2.2.1, bt101.2.2.2.2.2.2⟩ : S24), (⟨bt101.1, bt101.2.1, bt101.2.2.1, bt101.2.2.2.1, bt101.2.2.2.2.1, bt101.2.2.2.2.2.1, bt101.2.2.2.2.2.2⟩ : S24), (⟨bt101.1, bt101.2.1, bt101.2.2.1, bt101.2.2.2.1, bt101.2.2.2.2.1, bt101.2.2.2.2.2.1, bt101.2.2.2.2.2.2⟩ : S24), (⟨bt101.1, bt101.2.1, bt101.2.2.1, bt101.2.2.2.1, bt101.2.2.2.2.1, bt101.2.2.2.2.2.1, bt101.2.2.2.2.2.2⟩ : S24), (⟨bt101.1, bt101.2.1, bt101.2.2.1, bt101.2.2.2.1, bt101.2.2.2.2.1, bt101.2.2.2.2.2.1, bt101.2.2.2.2.2.2⟩ : S24), (⟨bt101.1, bt101.2.1, bt101.2.2.1, bt101.2.2.2.1, bt101.2.2.2.2.1, bt101.2.2.2.2.2.1, bt101.2.2.2.2.2.2⟩ : S24)] : List (S24)) : List (S24))).bind fun y114 => (if 0 < (y114.length : Int) then ((some (y114.set (0 : Int).toNat (⟨(rd_T24 y114 0).f0, 0, (rd_T24 y114 0).f2, (rd_T24 y114 0).f3, (rd_T24 y114 0).f4, (rd_T24 y114 0).f5, (rd_T24 y114 0).f6⟩ : S24) : List (S24))).bind fun y117 => (if 1 < (y114.length : Int) then ((some (y117.set (1 : Int).toNat (⟨(rd_T24 y117 1).f0, (rd_T24 y117 1).f1, 0, (rd_T24 y117 1).f3, (rd_T24 y117 1).f4, (rd_T24 y117 1).f5, (rd_T24 y117 1).f6⟩ : S24) : List (S24))).bind fun y118 => (if 2 < (y114.length : Int) then ((some (y118.set (2 : Int).toNat (⟨(rd_T24 y118 2).f0, (rd_T24 y118 2).f1, (rd_T24 y118 2).f2, 0, (rd_T24 y118 2).f4, (rd_T24 y118 2).f5, (rd_T24 y118 2).f6⟩ : S24) : List (S24))).bind fun y119 => (if 3 < (y114.length : Int) then ((some (y119.set (3 : Int).toNat (⟨(rd_T24 y119 3).f0, (rd_T24 y119 3).f1, (rd_T24 y119 3).f2, (rd_T24 y119 3).f3, 0, (rd_T24 y119 3).f5, (rd_T24 y119 3).f6⟩ : S24) : List (S24))).bind fun y120 => (if 4 < (y114.length : Int) then ((some (y120.set (4 : Int).toNat (⟨(rd_T24 y120 4).f0, (rd_T24 y120 4).f1, (rd_T24 y120 4).f2, (rd_T24 y120 4).f3, (rd_T24 y120 4).f4, 0, (rd_T24 y120 4).f6⟩ : S24) : List (S24))).bind fun y121 => (if 5 < (y114.length : Int) then (laws_FnCfgOk.l0 k (y121.set (5 : Int).toNat (⟨(rd_T24 y121 5).f0, (rd_T24 y121 5).f1, (rd_T24 y121 5).f2, (rd_T24 y121 5).f3, (rd_T24 y121 5).f4, (rd_T24 y121 5).f5, 0⟩ : S24)) 0 bt101.1 bt101.2.1 bt101.2.2.1 bt101.2.2.2.1 bt101.2.2.2.2.1 bt101.2.2.2.2.2.1 bt101.2.2.2.2.2.2) else (none))) else (none))) else (none))) else (none))) else (none))) else (none))) else ((laws_eaOk.f).bind fun t113 => (some t113)))))))
theorem laws_FnCfgOk.mono_l : ∀ k, (∀ y0 y1 y2 y3 y4 y5 y6 y7 y8, LeO (laws_FnCfgOk.l0 k y0 y1 y2 y3 y4 y5 y6 y7 y8) (laws_FnCfgOk.l0 (k + 1) y0 y1 y2 y3 y4 y5 y6 y7 y8))
 | 0 => fun _ _ _ _ _ _ _ _ _ r h => by simp [laws_FnCfgOk.l0] at h
 | k + 1 => by
  have ih0 := laws_FnCfgOk.mono_l k
  ·
   intro y0 y1 y2 y3 y4 y5 y6 y7 y8
   unfold laws_FnCfgOk.l0
   repeat' first
   | (with_reducible exact ih0 _ _ _ _ _ _ _ _ _)
   | (with_reducible exact spec_DrawCfgOk.mono _ _)
   | (with_reducible exact LeO.refl _)
   | (with_reducible exact LeO.none _)
   | (with_reducible refine LeO.ite ?_ ?_)
   | (with_reducible refine LeO.bind ?_ (fun _ => ?_))
   | exact ih0 _ _ _ _ _ _ _ _ _
   | exact spec_DrawCfgOk.mono _ _
   | exact LeO.none _
   | refine LeO.ite ?_ ?_
   | refine LeO.bind ?_ (fun _ => ?_)
theorem laws_FnCfgOk.mono : ∀ a0 k, LeO (laws_FnCfgOk.f k a0) (laws_FnCfgOk.f (k + 1) a0) := by
 intro a0 k
 have ih0 := laws_FnCfgOk.mono_l k
 unfold laws_FnCfgOk.f
 repeat' first
   | (with_reducible exact ih0 _ _ _ _ _ _ _ _ _)
   | (with_reducible exact spec_DrawCfgOk.mono _ _)
   | (with_reducible exact LeO.refl _)
   | (with_reducible exact LeO.none _)
   | (with_reducible refine LeO.ite ?_ ?_)
   | (with_reducible refine LeO.bind ?_ (fun _ => ?_))
   | exact ih0 _ _ _ _ _ _ _ _ _
   | exact spec_DrawCfgOk.mono _ _
   | exact LeO.none _
   | refine LeO.ite ?_ ?_
   | refine LeO.bind ?_ (fun _ => ?_)
set_option maxHeartbeats 8000000 in
set_option maxRecDepth 100000 in
theorem laws_FnCfgOk.calls (k : Nat) (A0 : Option Addr) (c0 : Nat) (l0 : List Int) (r : Bool) (w : World) (hr0 : Kd.C (Kd.int .u8) w A0 l0.length l0) (hc0 : l0.length ≤ c0) (h : laws_FnCfgOk.f k l0 = some r) (hrt : r = true) :
  Calls Try.prog 3 #[.slice A0 l0.length c0] w fun e w' => e = .returned (.bool r) ∧ Below w.heap.size w w' := by
 have hu24 := Try.underlying24
 have HR0 := yab hr0
 have HC0 := yab hc0
 clear hr0 hc0
 have HB := yab (Below.refl w.heap.size w)
 have H : (if (l0.length : Int) > 1048576 then (some true) else ((spec_DrawCfgOk.f k l0).bind fun bt101 => ((impl_CfgOk.f bt101.1 bt101.2.1 bt101.2.2.1 bt101.2.2.2.1 bt101.2.2.2.2.1 bt101.2.2.2.2.2.1 bt101.2.2.2.2.2.2).bind fun t111 => ((spec_CfgOk.f bt101.1 bt101.2.1 bt101.2.2.1 bt101.2.2.2.1 bt101.2.2.2.2.1 bt101.2.2.2.2.2.1 bt101.2.2.2.2.2.2).bind fun t112 => (if (t111 != t112) = true then (some false) else (if t111 = true then ((some (([(⟨bt101.1, bt101.2.1, bt101.2.2.1, bt101.2.2.2.1, bt101.2.2.2.2.1, bt101.2.2.2.2.2.1, bt101.2.2.2.2.2.2⟩ : S24), (⟨bt101.1, bt101.2.1, bt101.2.2.1, bt101.2.2.2.1, bt101.2.2.2.2.1, bt101.2.2.2.2.2.1, bt101.2.2.2.2.2.2⟩ : S24), (⟨bt101.1, bt101.2.1, bt101.2.2.1, bt101.2.2.2.1, bt101.2.2.2.2.1, bt101.2.2.2.2.2.1, bt101.2.2.2.2.2.2⟩ : S24), (⟨bt101.1, bt101.2.1, bt101.2.2.1, bt101.2.2.2.1, bt101.2.2.2.2.1, bt101.2.2.2.2.2.1, bt101.2.2.2.2.2.2⟩ : S24), (⟨bt101.1, bt101.2.1, bt101.2.2.1, bt101.2.2.2.1, bt101.2.2.2.2.1, bt101.2.2.2.2.2.1, bt101.2.2.2.2.2.2⟩ : S24), (⟨bt101.1, bt101.2.1, bt101.2.2.1, bt101.2.2.2.1, bt101.2.2.2.2.1, bt101.2.2.2.2.2.1, bt101.2.2.2.2.2.2⟩ : S24)] : List (S24)) : List (S24))).bind fun y114 => (if 0 < (y114.length : Int) then ((some (y114.set (0 : Int).toNat (⟨(yaa y114 0).f0, 0, (yaa y114 0).f2, (yaa y114 0).f3, (yaa y114 0).f4, (yaa y114 0).f5, (yaa y114 0).f6⟩ : S24) : List (S24))).bind fun y117 => (if 1 < (y114.length : Int) then ((some (y117.set (1 : Int).toNat (⟨(yaa y117 1).f0, (yaa y117 1).f1, 0, (yaa y117 1).f3, (yaa y117 1).f4, (yaa y117 1).f5, (yaa y117 1).f6⟩ : S24) : List (S24))).bind fun y118 => (if 2 < (y114.length : Int) then ((some (y118.set (2 : Int).toNat (⟨(yaa y118 2).f0, (yaa y118 2).f1, (yaa y118 2).f2, 0, (yaa y118 2).f4, (yaa y118 2).f5, (yaa y118 2).f6⟩ : S24) : List (S24))).bind fun y119 => (if 3 < (y114.length : Int) then ((some (y119.set (3 : Int).toNat (⟨(yaa y119 3).f0, (yaa y119 3).f1, (yaa y119 3).f2, (yaa y119 3).f3, 0, (yaa y119 3).f5, (yaa y119 3).f6⟩ : S24) : List (S24))).bind fun y120 => (if 4 < (y114.length : Int) then ((some (y120.set (4 : Int).toNat (⟨(yaa y120 4).f0, (yaa y120 4).f1, (yaa y120 4).f2, (yaa y120 4).f3, (yaa y120 4).f4, 0, (yaa y120 4).f6⟩ : S24) : List (S24))).bind fun y121 => (if 5 < (y114.length : Int) then (laws_FnCfgOk.l0 k (y121.set (5 : Int).toNat (⟨(yaa y121 5).f0, (yaa y121 5).f1, (yaa y121 5).f2, (yaa y121 5).f3, (yaa y121 5).f4, (yaa y121 5).f5, 0⟩ : S24)) 0 bt101.1 bt101.2.1 bt101.2.2.1 bt101.2.2.2.1 bt101.2.2.2.2.1 bt101.2.2.2.2.2.1 bt101.2.2.2.2.2.2) else (none))) else (none))) else (none))) else (none))) else (none))) else (none))) else ((laws_eaOk.f).bind fun t113 => (some t113)))))))) = some r := h
 clear h
 by_cases c2 : (l0.length : Int) > 1048576
 ·
  rw [if_pos c2] at H
  have c2b0 : decide (1048576 < (l0.length : Int)) = true := decide_eq_true c2
  have c2b1 : decide (1048576 < l0.length) = true := decide_eq_true (by omega)
  clear c2
  obtain rfl := Option.some.inj H
  go_enter Try.func3, Try.ntmps3
  go_wp2
  go_ret
  exact ⟨by first | rfl | (simp [errW_none, errW_some] <;> rfl) | (simp [*, errW_none, errW_some] <;> rfl), by repeat (first | (with_reducible first | exact HB.out | apply yaf | apply yad | apply yag) | exact HB.out)⟩
 ·
  rw [if_neg c2] at H
  have c2b0 : decide (1048576 < (l0.length : Int)) = false := decide_eq_false c2
  have c2b1 : decide (1048576 < l0.length) = false := decide_eq_false (by omega)
  clear c2
  replace H := Option.bind_eq_some_iff.mp H
  obtain ⟨⟨t101, t104, t105, t106, t107, t108, t109⟩, A30, H⟩ := H
  replace H : ((impl_CfgOk.f t101 t104 t105 t106 t107 t108 t109).bind fun t111 => ((spec_CfgOk.f t101 t104 t105 t106 t107 t108 t109).bind fun t112 => (if (t111 != t112) = true then (some false) else (if t111 = true then ((some (([(⟨t101, t104, t105, t106, t107, t108, t109⟩ : S24), (⟨t101, t104, t105, t106, t107, t108, t109⟩ : S24), (⟨t101, t104, t105, t106, t107, t108, t109⟩ : S24), (⟨t101, t104, t105, t106, t107, t108, t109⟩ : S24), (⟨t101, t104, t105, t106, t107, t108, t109⟩ : S24), (⟨t101, t104, t105, t106, t107, t108, t109⟩ : S24)] : List (S24)) : List (S24))).bind fun y114 => (if 0 < (y114.length : Int) then ((some (y114.set (0 : Int).toNat (⟨(yaa y114 0).f0, 0, (yaa y114 0).f2, (yaa y114 0).f3, (yaa y114 0).f4, (yaa y114 0).f5, (yaa y114 0).f6⟩ : S24) : List (S24))).bind fun y117 => (if 1 < (y114.length : Int) then ((some (y117.set (1 : Int).toNat (⟨(yaa y117 1).f0, (yaa y117 1).f1, 0, (yaa y117 1).f3, (yaa y117 1).f4, (yaa y117 1).f5, (yaa y117 1).f6⟩ : S24) : List (S24))).bind fun y118 => (if 2 < (y114.length : Int) then ((some (y118.set (2 : Int).toNat (⟨(yaa y118 2).f0, (yaa y118 2).f1, (yaa y118 2).f2, 0, (yaa y118 2).f4, (yaa y118 2).f5, (yaa y118 2).f6⟩ : S24) : List (S24))).bind fun y119 => (if 3 < (y114.length : Int) then ((some (y119.set (3 : Int).toNat (⟨(yaa y119 3).f0, (yaa y119 3).f1, (yaa y119 3).f2, (yaa y119 3).f3, 0, (yaa y119 3).f5, (yaa y119 3).f6⟩ : S24) : List (S24))).bind fun y120 => (if 4 < (y114.length : Int) then ((some (y120.set (4 : Int).toNat (⟨(yaa y120 4).f0, (yaa y120 4).f1, (yaa y120 4).f2, (yaa y120 4).f3, (yaa y120 4).f4, 0, (yaa y120 4).f6⟩ : S24) : List (S24))).bind fun y121 => (if 5 < (y114.length : Int) then (laws_FnCfgOk.l0 k (y121.set (5 : Int).toNat (⟨(yaa y121 5).f0, (yaa y121 5).f1, (yaa y121 5).f2, (yaa y121 5).f3, (yaa y121 5).f4, (yaa y121 5).f5, 0⟩ : S24)) 0 t101 t104 t105 t106 t107 t108 t109) else (none))) else (none))) else (none))) else (none))) else (none))) else (none))) else ((laws_eaOk.f).bind fun t113 => (some t113)))))) = some r := H
  have A3 := yab A30
  clear A30
  replace H := Option.bind_eq_some_iff.mp H
  obtain ⟨t111, A40, H⟩ := H
  replace H : ((spec_CfgOk.f t101 t104 t105 t106 t107 t108 t109).bind fun t112 => (if (t111 != t112) = true then (some false) else (if t111 = true then ((some (([(⟨t101, t104, t105, t106, t107, t108, t109⟩ : S24), (⟨t101, t104, t105, t106, t107, t108, t109⟩ : S24), (⟨t101, t104, t105, t106, t107, t108, t109⟩ : S24), (⟨t101, t104, t105, t106, t107, t108, t109⟩ : S24), (⟨t101, t104, t105, t106, t107, t108, t109⟩ : S24), (⟨t101, t104, t105, t106, t107, t108, t109⟩ : S24)] : List (S24)) : List (S24))).bind fun y114 => (if 0 < (y114.length : Int) then ((some (y114.set (0 : Int).toNat (⟨(yaa y114 0).f0, 0, (yaa y114 0).f2, (yaa y114 0).f3, (yaa y114 0).f4, (yaa y114 0).f5, (yaa y114 0).f6⟩ : S24) : List (S24))).bind fun y117 => (if 1 < (y114.length : Int) then ((some (y117.set (1 : Int).toNat (⟨(yaa y117 1).f0, (yaa y117 1).f1, 0, (yaa y117 1).f3, (yaa y117 1).f4, (yaa y117 1).f5, (yaa y117 1).f6⟩ : S24) : List (S24))).bind fun y118 => (if 2 < (y114.length : Int) then ((some (y118.set (2 : Int).toNat (⟨(yaa y118 2).f0, (yaa y118 2).f1, (yaa y118 2).f2, 0, (yaa y118 2).f4, (yaa y118 2).f5, (yaa y118 2).f6⟩ : S24) : List (S24))).bind fun y119 => (if 3 < (y114.length : Int) then ((some (y119.set (3 : Int).toNat (⟨(yaa y119 3).f0, (yaa y119 3).f1, (yaa y119 3).f2, (yaa y119 3).f3, 0, (yaa y119 3).f5, (yaa y119 3).f6⟩ : S24) : List (S24))).bind fun y120 => (if 4 < (y114.length : Int) then ((some (y120.set (4 : Int).toNat (⟨(yaa y120 4).f0, (yaa y120 4).f1, (yaa y120 4).f2, (yaa y120 4).f3, (yaa y120 4).f4, 0, (yaa y120 4).f6⟩ : S24) : List (S24))).bind fun y121 => (if 5 < (y114.length : Int) then (laws_FnCfgOk.l0 k (y121.set (5 : Int).toNat (⟨(yaa y121 5).f0, (yaa y121 5).f1, (yaa y121 5).f2, (yaa y121 5).f3, (yaa y121 5).f4, (yaa y121 5).f5, 0⟩ : S24)) 0 t101 t104 t105 t106 t107 t108 t109) else (none))) else (none))) else (none))) else (none))) else (none))) else (none))) else ((laws_eaOk.f).bind fun t113 => (some t113))))) = some r := H
  have A4 := yab A40
  clear A40
  replace H := Option.bind_eq_some_iff.mp H
  obtain ⟨t112, A50, H⟩ := H
  replace H : (if (t111 != t112) = true then (some false) else (if t111 = true then ((some (([(⟨t101, t104, t105, t106, t107, t108, t109⟩ : S24), (⟨t101, t104, t105, t106, t107, t108, t109⟩ : S24), (⟨t101, t104, t105, t106, t107, t108, t109⟩ : S24), (⟨t101, t104, t105, t106, t107, t108, t109⟩ : S24), (⟨t101, t104, t105, t106, t107, t108, t109⟩ : S24), (⟨t101, t104, t105, t106, t107, t108, t109⟩ : S24)] : List (S24)) : List (S24))).bind fun y114 => (if 0 < (y114.length : Int) then ((some (y114.set (0 : Int).toNat (⟨(yaa y114 0).f0, 0, (yaa y114 0).f2, (yaa y114 0).f3, (yaa y114 0).f4, (yaa y114 0).f5, (yaa y114 0).f6⟩ : S24) : List (S24))).bind fun y117 => (if 1 < (y114.length : Int) then ((some (y117.set (1 : Int).toNat (⟨(yaa y117 1).f0, (yaa y117 1).f1, 0, (yaa y117 1).f3, (yaa y117 1).f4, (yaa y117 1).f5, (yaa y117 1).f6⟩ : S24) : List (S24))).bind fun y118 => (if 2 < (y114.length : Int) then ((some (y118.set (2 : Int).toNat (⟨(yaa y118 2).f0, (yaa y118 2).f1, (yaa y118 2).f2, 0, (yaa y118 2).f4, (yaa y118 2).f5, (yaa y118 2).f6⟩ : S24) : List (S24))).bind fun y119 => (if 3 < (y114.length : Int) then ((some (y119.set (3 : Int).toNat (⟨(yaa y119 3).f0, (yaa y119 3).f1, (yaa y119 3).f2, (yaa y119 3).f3, 0, (yaa y119 3).f5, (yaa y119 3).f6⟩ : S24) : List (S24))).bind fun y120 => (if 4 < (y114.length : Int) then ((some (y120.set (4 : Int).toNat (⟨(yaa y120 4).f0, (yaa y120 4).f1, (yaa y120 4).f2, (yaa y120 4).f3, (yaa y120 4).f4, 0, (yaa y120 4).f6⟩ : S24) : List (S24))).bind fun y121 => (if 5 < (y114.length : Int) then (laws_FnCfgOk.l0 k (y121.set (5 : Int).toNat (⟨(yaa y121 5).f0, (yaa y121 5).f1, (yaa y121 5).f2, (yaa y121 5).f3, (yaa y121 5).f4, (yaa y121 5).f5, 0⟩ : S24)) 0 t101 t104 t105 t106 t107 t108 t109) else (none))) else (none))) else (none))) else (none))) else (none))) else (none))) else ((laws_eaOk.f).bind fun t113 => (some t113)))) = some r := H
  have A5 := yab A50
  clear A50
  by_cases c6 : (t111 != t112) = true
  ·
   rw [if_pos c6] at H
   have c6b0 : (t111 != t112) = true := c6
   (try (have c6b1 : decide (t111 = t112) = false := by simpa using c6))
   (try (have c6b2 : (t111 == t112) = false := by simpa using c6))
   (try (have c6b3 : ¬ (t111 = t112) := by simpa using c6))
   clear c6
   rw [hrt] at H
   exact absurd H (by simp)
  ·
   rw [if_neg c6] at H
   have c6b0 : (t111 != t112) = false := by simpa using c6
   (try (have c6b1 : decide (t111 = t112) = true := by simpa using c6))
   (try (have c6b2 : (t111 == t112) = true := by simpa using c6))
   clear c6
   by_cases c7 : t111 = true
   ·
    subst c7
    have H1 : ((some (([(⟨t101, t104, t105, t106, t107, t108, t109⟩ : S24), (⟨t101, t104, t105, t106, t107, t108, t109⟩ : S24), (⟨t101, t104, t105, t106, t107, t108, t109⟩ : S24), (⟨t101, t104, t105, t106, t107, t108, t109⟩ : S24), (⟨t101, t104, t105, t106, t107, t108, t109⟩ : S24), (⟨t101, t104, t105, t106, t107, t108, t109⟩ : S24)] : List (S24)) : List (S24))).bind fun y114 => (if 0 < (y114.length : Int) then ((some (y114.set (0 : Int).toNat (⟨(yaa y114 0).f0, 0, (yaa y114 0).f2, (yaa y114 0).f3, (yaa y114 0).f4, (yaa y114 0).f5, (yaa y114 0).f6⟩ : S24) : List (S24))).bind fun y117 => (if 1 < (y114.length : Int) then ((some (y117.set (1 : Int).toNat (⟨(yaa y117 1).f0, (yaa y117 1).f1, 0, (yaa y117 1).f3, (yaa y117 1).f4, (yaa y117 1).f5, (yaa y117 1).f6⟩ : S24) : List (S24))).bind fun y118 => (if 2 < (y114.length : Int) then ((some (y118.set (2 : Int).toNat (⟨(yaa y118 2).f0, (yaa y118 2).f1, (yaa y118 2).f2, 0, (yaa y118 2).f4, (yaa y118 2).f5, (yaa y118 2).f6⟩ : S24) : List (S24))).bind fun y119 => (if 3 < (y114.length : Int) then ((some (y119.set (3 : Int).toNat (⟨(yaa y119 3).f0, (yaa y119 3).f1, (yaa y119 3).f2, (yaa y119 3).f3, 0, (yaa y119 3).f5, (yaa y119 3).f6⟩ : S24) : List (S24))).bind fun y120 => (if 4 < (y114.length : Int) then ((some (y120.set (4 : Int).toNat (⟨(yaa y120 4).f0, (yaa y120 4).f1, (yaa y120 4).f2, (yaa y120 4).f3, (yaa y120 4).f4, 0, (yaa y120 4).f6⟩ : S24) : List (S24))).bind fun y121 => (if 5 < (y114.length : Int) then (laws_FnCfgOk.l0 k (y121.set (5 : Int).toNat (⟨(yaa y121 5).f0, (yaa y121 5).f1, (yaa y121 5).f2, (yaa y121 5).f3, (yaa y121 5).f4, (yaa y121 5).f5, 0⟩ : S24)) 0 t101 t104 t105 t106 t107 t108 t109) else (none))) else (none))) else (none))) else (none))) else (none))) else (none))) = some r := by rw [if_pos rfl] at H; exact H
    clear H
    have H := H1
    clear H1
    obtain ⟨y114, hy114⟩ : ∃ y_ : List (S24), y_ = (([(⟨t101, t104, t105, t106, t107, t108, t109⟩ : S24), (⟨t101, t104, t105, t106, t107, t108, t109⟩ : S24), (⟨t101, t104, t105, t106, t107, t108, t109⟩ : S24), (⟨t101, t104, t105, t106, t107, t108, t109⟩ : S24), (⟨t101, t104, t105, t106, t107, t108, t109⟩ : S24), (⟨t101, t104, t105, t106, t107, t108, t109⟩ : S24)] : List (S24))) := ⟨_, rfl⟩
    replace H : (if 0 < (y114.length : Int) then ((some (y114.set (0 : Int).toNat (⟨(yaa y114 0).f0, 0, (yaa y114 0).f2, (yaa y114 0).f3, (yaa y114 0).f4, (yaa y114 0).f5, (yaa y114 0).f6⟩ : S24) : List (S24))).bind fun y117 => (if 1 < (y114.length : Int) then ((some (y117.set (1 : Int).toNat (⟨(yaa y117 1).f0, (yaa y117 1).f1, 0, (yaa y117 1).f3, (yaa y117 1).f4, (yaa y117 1).f5, (yaa y117 1).f6⟩ : S24) : List (S24))).bind fun y118 => (if 2 < (y114.length : Int) then ((some (y118.set (2 : Int).toNat (⟨(yaa y118 2).f0, (yaa y118 2).f1, (yaa y118 2).f2, 0, (yaa y118 2).f4, (yaa y118 2).f5, (yaa y118 2).f6⟩ : S24) : List (S24))).bind fun y119 => (if 3 < (y114.length : Int) then ((some (y119.set (3 : Int).toNat (⟨(yaa y119 3).f0, (yaa y119 3).f1, (yaa y119 3).f2, (yaa y119 3).f3, 0, (yaa y119 3).f5, (yaa y119 3).f6⟩ : S24) : List (S24))).bind fun y120 => (if 4 < (y114.length : Int) then ((some (y120.set (4 : Int).toNat (⟨(yaa y120 4).f0, (yaa y120 4).f1, (yaa y120 4).f2, (yaa y120 4).f3, (yaa y120 4).f4, 0, (yaa y120 4).f6⟩ : S24) : List (S24))).bind fun y121 => (if 5 < (y114.length : Int) then (laws_FnCfgOk.l0 k (y121.set (5 : Int).toNat (⟨(yaa y121 5).f0, (yaa y121 5).f1, (yaa y121 5).f2, (yaa y121 5).f3, (yaa y121 5).f4, (yaa y121 5).f5, 0⟩ : S24)) 0 t101 t104 t105 t106 t107 t108 t109) else (none))) else (none))) else (none))) else (none))) else (none))) else (none)) = some r := by first | (rw [hy114]; with_reducible exact H) | (have H2_ := (Option.bind_some _ _).symm.trans H; rw [hy114]; with_reducible exact H2_) | (have H2_ := (Option.bind_some _ _).symm.trans H; with_reducible exact H2_) | with_reducible exact H | (rw [hy114]; exact H) | exact H
    have Ny114 := yab hy114
    clear hy114
    by_cases c8 : 0 < (y114.length : Int)
    ·
     rw [if_pos c8] at H
     have c8b0 : decide (0 < (y114.length : Int)) = true := decide_eq_true c8
     have c8b1 : decide (0 < y114.length) = true := decide_eq_true (by omega)
     clear c8
     obtain ⟨y117, hy117⟩ : ∃ y_ : List (S24), y_ = (y114.set (0 : Int).toNat (⟨(yaa y114 0).f0, 0, (yaa y114 0).f2, (yaa y114 0).f3, (yaa y114 0).f4, (yaa y114 0).f5, (yaa y114 0).f6⟩ : S24)) := ⟨_, rfl⟩
     replace H : (if 1 < (y114.length : Int) then ((some (y117.set (1 : Int).toNat (⟨(yaa y117 1).f0, (yaa y117 1).f1, 0, (yaa y117 1).f3, (yaa y117 1).f4, (yaa y117 1).f5, (yaa y117 1).f6⟩ : S24) : List (S24))).bind fun y118 => (if 2 < (y114.length : Int) then ((some (y118.set (2 : Int).toNat (⟨(yaa y118 2).f0, (yaa y118 2).f1, (yaa y118 2).f2, 0, (yaa y118 2).f4, (yaa y118 2).f5, (yaa y118 2).f6⟩ : S24) : List (S24))).bind fun y119 => (if 3 < (y114.length : Int) then ((some (y119.set (3 : Int).toNat (⟨(yaa y119 3).f0, (yaa y119 3).f1, (yaa y119 3).f2, (yaa y119 3).f3, 0, (yaa y119 3).f5, (yaa y119 3).f6⟩ : S24) : List (S24))).bind fun y120 => (if 4 < (y114.length : Int) then ((some (y120.set (4 : Int).toNat (⟨(yaa y120 4).f0, (yaa y120 4).f1, (yaa y120 4).f2, (yaa y120 4).f3, (yaa y120 4).f4, 0, (yaa y120 4).f6⟩ : S24) : List (S24))).bind fun y121 => (if 5 < (y114.length : Int) then (laws_FnCfgOk.l0 k (y121.set (5 : Int).toNat (⟨(yaa y121 5).f0, (yaa y121 5).f1, (yaa y121 5).f2, (yaa y121 5).f3, (yaa y121 5).f4, (yaa y121 5).f5, 0⟩ : S24)) 0 t101 t104 t105 t106 t107 t108 t109) else (none))) else (none))) else (none))) else (none))) else (none)) = some r := by first | (rw [hy117]; with_reducible exact H) | (have H2_ := (Option.bind_some _ _).symm.trans H; rw [hy117]; with_reducible exact H2_) | (have H2_ := (Option.bind_some _ _).symm.trans H; with_reducible exact H2_) | with_reducible exact H | (rw [hy117]; exact H) | exact H
     have Ny117 := yab hy117
     clear hy117
     by_cases c10 : 1 < (y114.length : Int)
     ·
      rw [if_pos c10] at H
      have c10b0 : decide (1 < (y114.length : Int)) = true := decide_eq_true c10
      have c10b1 : decide (1 < y114.length) = true := decide_eq_true (by omega)
      clear c10
      obtain ⟨y118, hy118⟩ : ∃ y_ : List (S24), y_ = (y117.set (1 : Int).toNat (⟨(yaa y117 1).f0, (yaa y117 1).f1, 0, (yaa y117 1).f3, (yaa y117 1).f4, (yaa y117 1).f5, (yaa y117 1).f6⟩ : S24)) := ⟨_, rfl⟩
      replace H : (if 2 < (y114.length : Int) then ((some (y118.set (2 : Int).toNat (⟨(yaa y118 2).f0, (yaa y118 2).f1, (yaa y118 2).f2, 0, (yaa y118 2).f4, (yaa y118 2).f5, (yaa y118 2).f6⟩ : S24) : List (S24))).bind fun y119 => (if 3 < (y114.length : Int) then ((some (y119.set (3 : Int).toNat (⟨(yaa y119 3).f0, (yaa y119 3).f1, (yaa y119 3).f2, (yaa y119 3).f3, 0, (yaa y119 3).f5, (yaa y119 3).f6⟩ : S24) : List (S24))).bind fun y120 => (if 4 < (y114.length : Int) then ((some (y120.set (4 : Int).toNat (⟨(yaa y120 4).f0, (yaa y120 4).f1, (yaa y120 4).f2, (yaa y120 4).f3, (yaa y120 4).f4, 0, (yaa y120 4).f6⟩ : S24) : List (S24))).bind fun y121 => (if 5 < (y114.length : Int) then (laws_FnCfgOk.l0 k (y121.set (5 : Int).toNat (⟨(yaa y121 5).f0, (yaa y121 5).f1, (yaa y121 5).f2, (yaa y121 5).f3, (yaa y121 5).f4, (yaa y121 5).f5, 0⟩ : S24)) 0 t101 t104 t105 t106 t107 t108 t109) else (none))) else (none))) else (none))) else (none)) = some r := by first | (rw [hy118]; with_reducible exact H) | (have H2_ := (Option.bind_some _ _).symm.trans H; rw [hy118]; with_reducible exact H2_) | (have H2_ := (Option.bind_some _ _).symm.trans H; with_reducible exact H2_) | with_reducible exact H | (rw [hy118]; exact H) | exact H
      have Ny118 := yab hy118
      clear hy118
      by_cases c12 : 2 < (y114.length : Int)
      ·
       rw [if_pos c12] at H
       have c12b0 : decide (2 < (y114.length : Int)) = true := decide_eq_true c12
       have c12b1 : decide (2 < y114.length) = true := decide_eq_true (by omega)
       clear c12
       obtain ⟨y119, hy119⟩ : ∃ y_ : List (S24), y_ = (y118.set (2 : Int).toNat (⟨(yaa y118 2).f0, (yaa y118 2).f1, (yaa y118 2).f2, 0, (yaa y118 2).f4, (yaa y118 2).f5, (yaa y118 2).f6⟩ : S24)) := ⟨_, rfl⟩
       replace H : (if 3 < (y114.length : Int) then ((some (y119.set (3 : Int).toNat (⟨(yaa y119 3).f0, (yaa y119 3).f1, (yaa y119 3).f2, (yaa y119 3).f3, 0, (yaa y119 3).f5, (yaa y119 3).f6⟩ : S24) : List (S24))).bind fun y120 => (if 4 < (y114.length : Int) then ((some (y120.set (4 : Int).toNat (⟨(yaa y120 4).f0, (yaa y120 4).f1, (yaa y120 4).f2, (yaa y120 4).f3, (yaa y120 4).f4, 0, (yaa y120 4).f6⟩ : S24) : List (S24))).bind fun y121 => (if 5 < (y114.length : Int) then (laws_FnCfgOk.l0 k (y121.set (5 : Int).toNat (⟨(yaa y121 5).f0, (yaa y121 5).f1, (yaa y121 5).f2, (yaa y121 5).f3, (yaa y121 5).f4, (yaa y121 5).f5, 0⟩ : S24)) 0 t101 t104 t105 t106 t107 t108 t109) else (none))) else (none))) else (none)) = some r := by first | (rw [hy119]; with_reducible exact H) | (have H2_ := (Option.bind_some _ _).symm.trans H; rw [hy119]; with_reducible exact H2_) | (have H2_ := (Option.bind_some _ _).symm.trans H; with_reducible exact H2_) | with_reducible exact H | (rw [hy119]; exact H) | exact H
       have Ny119 := yab hy119
       clear hy119
       by_cases c14 : 3 < (y114.length : Int)
       ·
        rw [if_pos c14] at H
        have c14b0 : decide (3 < (y114.length : Int)) = true := decide_eq_true c14
        have c14b1 : decide (3 < y114.length) = true := decide_eq_true (by omega)
        clear c14
        obtain ⟨y120, hy120⟩ : ∃ y_ : List (S24), y_ = (y119.set (3 : Int).toNat (⟨(yaa y119 3).f0, (yaa y119 3).f1, (yaa y119 3).f2, (yaa y119 3).f3, 0, (yaa y119 3).f5, (yaa y119 3).f6⟩ : S24)) := ⟨_, rfl⟩
        replace H : (if 4 < (y114.length : Int) then ((some (y120.set (4 : Int).toNat (⟨(yaa y120 4).f0, (yaa y120 4).f1, (yaa y120 4).f2, (yaa y120 4).f3, (yaa y120 4).f4, 0, (yaa y120 4).f6⟩ : S24) : List (S24))).bind fun y121 => (if 5 < (y114.length : Int) then (laws_FnCfgOk.l0 k (y121.set (5 : Int).toNat (⟨(yaa y121 5).f0, (yaa y121 5).f1, (yaa y121 5).f2, (yaa y121 5).f3, (yaa y121 5).f4, (yaa y121 5).f5, 0⟩ : S24)) 0 t101 t104 t105 t106 t107 t108 t109) else (none))) else (none)) = some r := by first | (rw [hy120]; with_reducible exact H) | (have H2_ := (Option.bind_some _ _).symm.trans H; rw [hy120]; with_reducible exact H2_) | (have H2_ := (Option.bind_some _ _).symm.trans H; with_reducible exact H2_) | with_reducible exact H | (rw [hy120]; exact H) | exact H
        have Ny120 := yab hy120
        clear hy120
        by_cases c16 : 4 < (y114.length : Int)
        ·
         rw [if_pos c16] at H
         have c16b0 : decide (4 < (y114.length : Int)) = true := decide_eq_true c16
         have c16b1 : decide (4 < y114.length) = true := decide_eq_true (by omega)
         clear c16
         obtain ⟨y121, hy121⟩ : ∃ y_ : List (S24), y_ = (y120.set (4 : Int).toNat (⟨(yaa y120 4).f0, (yaa y120 4).f1, (yaa y120 4).f2, (yaa y120 4).f3, (yaa y120 4).f4, 0, (yaa y120 4).f6⟩ : S24)) := ⟨_, rfl⟩
         replace H : (if 5 < (y114.length : Int) then (laws_FnCfgOk.l0 k (y121.set (5 : Int).toNat (⟨(yaa y121 5).f0, (yaa y121 5).f1, (yaa y121 5).f2, (yaa y121 5).f3, (yaa y121 5).f4, (yaa y121 5).f5, 0⟩ : S24)) 0 t101 t104 t105 t106 t107 t108 t109) else (none)) = some r := by first | (rw [hy121]; with_reducible exact H) | (have H2_ := (Option.bind_some _ _).symm.trans H; rw [hy121]; with_reducible exact H2_) | (have H2_ := (Option.bind_some _ _).symm.trans H; with_reducible exact H2_) | with_reducible exact H | (rw [hy121]; exact H) | exact H
         have Ny121 := yab hy121
         clear hy121
         by_cases c18 : 5 < (y114.length : Int)
         ·
          rw [if_pos c18] at H
          have c18b0 : decide (5 < (y114.length : Int)) = true := decide_eq_true c18
          have c18b1 : decide (5 < y114.length) = true := decide_eq_true (by omega)
          clear c18
          obtain ⟨y122, hy122⟩ : ∃ y_ : List (S24), y_ = (y121.set (5 : Int).toNat (⟨(yaa y121 5).f0, (yaa y121 5).f1, (yaa y121 5).f2, (yaa y121 5).f3, (yaa y121 5).f4, (yaa y121 5).f5, 0⟩ : S24)) := ⟨_, rfl⟩
          replace H : (laws_FnCfgOk.l0 k y122 0 t101 t104 t105 t106 t107 t108 t109) = some r := by first | (rw [hy122]; with_reducible exact H) | (have H2_ := (Option.bind_some _ _).symm.trans H; rw [hy122]; with_reducible exact H2_) | (have H2_ := (Option.bind_some _ _).symm.trans H; with_reducible exact H2_) | with_reducible exact H | (rw [hy122]; exact H) | exact H
          have Ny122 := yab hy122
          clear hy122
          have H' := yab H
          clear H
          go_enter Try.func3, Try.ntmps3
          go_wp2_with (first | ((with_reducible refine gate_callee (f := 13) rfl ?_); refine goesL_ (some 11) rfl rfl Try.func13 (by kernel_rfl) rfl #[.slice A0 l0.length c0] rfl (by (try simp only [List.map_toArray, List.map_cons, List.map_nil]); first | done | rfl | (simp only [List.length_drop, List.length_take]; rfl)) ?_; (with_reducible refine (spec_DrawCfgOk.calls k _ _ l0 t101 t104 t105 t106 t107 t108 t109 _ ?side1 ?side2 A3.out).mono ?_); (case side1 => repeat (first | exact HR0.out | (with_reducible refine Kd.C_alloc ?_ _) | (with_reducible refine Kd.C_drewN ?_ _) | (with_reducible refine Kd.C_drew ?_))); (case side2 => exact HC0.out); rintro e w20 ⟨v102, rfl, ho0, hb⟩; refine ⟨_, rfl, ?_⟩; have n0_ := yab (Kd.R_lower ho0 (below_size (by repeat (first | (with_reducible first | exact HB.out | apply yaf | apply yad | apply yag) | exact HB.out)))); have n1_ := yab (below_step (by repeat (first | (with_reducible first | exact HB.out | apply yaf | apply yad | apply yag) | exact HB.out)) hb); clear HB; have HO103 := n0_; have HB := n1_; clear n0_ n1_; (try clear hb); (try clear hb2); (try clear hk); (try clear hi); (try clear ho0)) | ((with_reducible refine gate_dst (N := 3) rfl ?_); refine box_event ?hg (N := 3) ?hd (cs := #[.slice none 0 0, .int .i64 0, .int .i64 0, .int .i64 0, .int .i64 0, .int .i64 0, .int .i64 0]) (t := 24) ?hr ?_; (case hd => rfl); (case hg => rfl); (case hr => first | (go_simp; done) | (go_simp; rfl)); intro gb110 hg w21 hbox hb; have n0_ := yab (Kd.R_below (by (with_reducible repeat (first | apply Kd.R_alloc | apply Kd.R_drewN | apply Kd.R_drew)); exact HO103.out) hb); have n1_ := yab (below_step (by repeat (first | (with_reducible first | exact HB.out | apply yaf | apply yad | apply yag) | exact HB.out)) hb); have n2_ := yab (hbox); have n3_ := yab ((by rw [hg]; exact (below_size (by repeat (first | (with_reducible first | exact HB.out | apply yaf | apply yad | apply yag) | exact HB.out))) : w.heap.size ≤ gb110)); have n4_ := yab ((by rw [hg]; exact (below_size (by repeat (first | (with_reducible first | exact HB.out | apply yaf | apply yad | apply yag) | exact HB.out))) : w.heap.size ≤ gb110)); clear HO103; clear HB; have HO103 := n0_; have HB := n1_; have BK110 := n2_; have GW110 := n3_; have GE110 := n4_; clear n0_ n1_ n2_ n3_ n4_; clear hb hbox hg; obtain ⟨Ao22, co22, eo22⟩ := Kd.R_slice HO103.out; subst eo22; have hcz23_0 : w21.cell? ⟨gb110, 0, none⟩ = some (.slice none 0 0) := (yae BK110.out 0).trans rfl; have hcz23_1 : w21.cell? ⟨gb110, 1, none⟩ = some (.int .i64 0) := (yae BK110.out 1).trans rfl; have hcz23_2 : w21.cell? ⟨gb110, 2, none⟩ = some (.int .i64 0) := (yae BK110.out 2).trans rfl; have hcz23_3 : w21.cell? ⟨gb110, 3, none⟩ = some (.int .i64 0) := (yae BK110.out 3).trans rfl; have hcz23_4 : w21.cell? ⟨gb110, 4, none⟩ = some (.int .i64 0) := (yae BK110.out 4).trans rfl; have hcz23_5 : w21.cell? ⟨gb110, 5, none⟩ = some (.int .i64 0) := (yae BK110.out 5).trans rfl; have hcz23_6 : w21.cell? ⟨gb110, 6, none⟩ = some (.int .i64 0) := (yae BK110.out 6).trans rfl; have hfz23_0 := yac BK110.out 0; have hfz23_1 := yac BK110.out 1; have hfz23_2 := yac BK110.out 2; have hfz23_3 := yac BK110.out 3; have hfz23_4 := yac BK110.out 4; have hfz23_5 := yac BK110.out 5; have hfz23_6 := yac BK110.out 6) | ((with_reducible refine gate_callee (f := 14) rfl ?_); refine goesL_ (some 13) rfl rfl Try.func14 (by kernel_rfl) rfl #[.agg #[.slice Ao22 t101.length co22, .int .i64 t104, .int .i64 t105, .int .i64 t106, .int .i64 t107, .int .i64 t108, .int .i64 t109]] rfl (by (try simp only [List.map_toArray, List.map_cons, List.map_nil]); first | done | rfl | (simp only [List.length_drop, List.length_take]; rfl)) ?_; (with_reducible refine (impl_CfgOk.calls _ _ t101 t104 t105 t106 t107 t108 t109 true _ ?side1 ?side2 A4.out).mono ?_); (case side1 => refine (yal (e := 5) (base := w.heap.size) (ok := fun k_ => True) (n := t101.length) (c := co22) ?_).2.2; exact (by (with_reducible repeat (first | apply Kd.R_alloc | apply Kd.R_drewN | apply Kd.R_drew)); exact (Kd.R_mono (yak (p := ⟨gb110, 6, none⟩) (yak (p := ⟨gb110, 5, none⟩) (yak (p := ⟨gb110, 4, none⟩) (yak (p := ⟨gb110, 3, none⟩) (yak (p := ⟨gb110, 2, none⟩) (yak (p := ⟨gb110, 1, none⟩) (yak (p := ⟨gb110, 0, none⟩) (yao HO103.out BK110.out (by decide)) (fun _ hk => hk.2) (.slice Ao22 t101.length co22)) (fun _ hk => hk.2) (.int .i64 t104)) (fun _ hk => hk.2) (.int .i64 t105)) (fun _ hk => hk.2) (.int .i64 t106)) (fun _ hk => hk.2) (.int .i64 t107)) (fun _ hk => hk.2) (.int .i64 t108)) (fun _ hk => hk.2) (.int .i64 t109)) (fun _ h_ => h_.1)))); (case side2 => exact (yal HO103.out).2.1); rintro e w24 ⟨rfl, hb⟩; refine ⟨_, rfl, ?_⟩; have n0_ := yab (Kd.R_below (by (with_reducible repeat (first | apply Kd.R_alloc | apply Kd.R_drewN | apply Kd.R_drew)); exact (Kd.R_mono (yak (p := ⟨gb110, 6, none⟩) (yak (p := ⟨gb110, 5, none⟩) (yak (p := ⟨gb110, 4, none⟩) (yak (p := ⟨gb110, 3, none⟩) (yak (p := ⟨gb110, 2, none⟩) (yak (p := ⟨gb110, 1, none⟩) (yak (p := ⟨gb110, 0, none⟩) (yao HO103.out BK110.out (by decide)) (fun _ hk => hk.2) (.slice Ao22 t101.length co22)) (fun _ hk => hk.2) (.int .i64 t104)) (fun _ hk => hk.2) (.int .i64 t105)) (fun _ hk => hk.2) (.int .i64 t106)) (fun _ hk => hk.2) (.int .i64 t107)) (fun _ hk => hk.2) (.int .i64 t108)) (fun _ hk => hk.2) (.int .i64 t109)) (fun _ h_ => h_.1))) hb); have n1_ := yab (blk_below (g := gb110) (o := .cells #[.slice Ao22 t101.length co22, .int .i64 t104, .int .i64 t105, .int .i64 t106, .int .i64 t107, .int .i64 t108, .int .i64 t109] 24 (0, 0)) (by (with_reducible repeat (first | refine yah ?_ _ | refine yaj ?_ | refine yai ?_ _)); refine blk_put (cs := #[.slice Ao22 t101.length co22, .int .i64 t104, .int .i64 t105, .int .i64 t106, .int .i64 t107, .int .i64 t108, .int .i64 0]) ?_ 6 _ rfl; (with_reducible repeat (first | refine yah ?_ _ | refine yaj ?_ | refine yai ?_ _)); refine blk_put (cs := #[.slice Ao22 t101.length co22, .int .i64 t104, .int .i64 t105, .int .i64 t106, .int .i64 t107, .int .i64 0, .int .i64 0]) ?_ 5 _ rfl; (with_reducible repeat (first | refine yah ?_ _ | refine yaj ?_ | refine yai ?_ _)); refine blk_put (cs := #[.slice Ao22 t101.length co22, .int .i64 t104, .int .i64 t105, .int .i64 t106, .int .i64 0, .int .i64 0, .int .i64 0]) ?_ 4 _ rfl; (with_reducible repeat (first | refine yah ?_ _ | refine yaj ?_ | refine yai ?_ _)); refine blk_put (cs := #[.slice Ao22 t101.length co22, .int .i64 t104, .int .i64 t105, .int .i64 0, .int .i64 0, .int .i64 0, .int .i64 0]) ?_ 3 _ rfl; (with_reducible repeat (first | refine yah ?_ _ | refine yaj ?_ | refine yai ?_ _)); refine blk_put (cs := #[.slice Ao22 t101.length co22, .int .i64 t104, .int .i64 0, .int .i64 0, .int .i64 0, .int .i64 0, .int .i64 0]) ?_ 2 _ rfl; (with_reducible repeat (first | refine yah ?_ _ | refine yaj ?_ | refine yai ?_ _)); refine blk_put (cs := #[.slice Ao22 t101.length co22, .int .i64 0, .int .i64 0, .int .i64 0, .int .i64 0, .int .i64 0, .int .i64 0]) ?_ 1 _ rfl; (with_reducible repeat (first | refine yah ?_ _ | refine yaj ?_ | refine yai ?_ _)); refine blk_put (cs := #[.slice none 0 0, .int .i64 0, .int .i64 0, .int .i64 0, .int .i64 0, .int .i64 0, .int .i64 0]) ?_ 0 _ rfl; (with_reducible repeat (first | refine yah ?_ _ | refine yaj ?_ | refine yai ?_ _)); exact BK110.out) hb); have n2_ := yab (below_step (by repeat (first | (with_reducible first | exact HB.out | apply yaf | apply yad | apply yag | refine yan ?_ GE110.out) | exact HB.out)) hb); clear HO103; clear BK110; clear HB; have HO103 := n0_; have BK110 := n1_; have HB := n2_; clear n0_ n1_ n2_; (try clear hb); (try clear hb2); (try clear hk); (try clear hi); have hcz25_0 : w24.cell? ⟨gb110, 0, none⟩ = some (.slice Ao22 t101.length co22) := (yae BK110.out 0).trans rfl; have hcz25_1 : w24.cell? ⟨gb110, 1, none⟩ = some (.int .i64 t104) := (yae BK110.out 1).trans rfl; have hcz25_2 : w24.cell? ⟨gb110, 2, none⟩ = some (.int .i64 t105) := (yae BK110.out 2).trans rfl; have hcz25_3 : w24.cell? ⟨gb110, 3, none⟩ = some (.int .i64 t106) := (yae BK110.out 3).trans rfl; have hcz25_4 : w24.cell? ⟨gb110, 4, none⟩ = some (.int .i64 t107) := (yae BK110.out 4).trans rfl; have hcz25_5 : w24.cell? ⟨gb110, 5, none⟩ = some (.int .i64 t108) := (yae BK110.out 5).trans rfl; have hcz25_6 : w24.cell? ⟨gb110, 6, none⟩ = some (.int .i64 t109) := (yae BK110.out 6).trans rfl; have hfz25_0 := yac BK110.out 0; have hfz25_1 := yac BK110.out 1; have hfz25_2 := yac BK110.out 2; have hfz25_3 := yac BK110.out 3; have hfz25_4 := yac BK110.out 4; have hfz25_5 := yac BK110.out 5; have hfz25_6 := yac BK110.out 6) | ((with_reducible refine gate_callee (f := 15) rfl ?_); refine goesL_ (some 16) rfl rfl Try.func15 (by kernel_rfl) rfl #[.agg #[.slice Ao22 t101.length co22, .int .i64 t104, .int .i64 t105, .int .i64 t106, .int .i64 t107, .int .i64 t108, .int .i64 t109]] rfl (by (try simp only [List.map_toArray, List.map_cons, List.map_nil]); first | done | rfl | (simp only [List.length_drop, List.length_take]; rfl)) ?_; (with_reducible refine (spec_CfgOk.calls _ _ t101 t104 t105 t106 t107 t108 t109 t112 _ ?side1 ?side2 A5.out).mono ?_); (case side1 => repeat (first | exact (yal HO103.out).2.2 | (with_reducible refine Kd.C_alloc ?_ _) | (with_reducible refine Kd.C_drewN ?_ _) | (with_reducible refine Kd.C_drew ?_))); (case side2 => exact (yal HO103.out).2.1); rintro e w26 ⟨rfl, hb⟩; refine ⟨_, rfl, ?_⟩; have n0_ := yab (Kd.R_below (by (with_reducible repeat (first | apply Kd.R_alloc | apply Kd.R_drewN | apply Kd.R_drew)); exact HO103.out) hb); have n1_ := yab (blk_below (g := gb110) (o := .cells #[.slice Ao22 t101.length co22, .int .i64 t104, .int .i64 t105, .int .i64 t106, .int .i64 t107, .int .i64 t108, .int .i64 t109] 24 (0, 0)) (by (with_reducible repeat (first | refine yah ?_ _ | refine yaj ?_ | refine yai ?_ _)); exact BK110.out) hb); have n2_ := yab (below_step (by repeat (first | (with_reducible first | exact HB.out | apply yaf | apply yad | apply yag | refine yan ?_ GE110.out) | exact HB.out)) hb); clear HO103; clear BK110; clear HB; have HO103 := n0_; have BK110 := n1_; have HB := n2_; clear n0_ n1_ n2_; (try clear hb); (try clear hb2); (try clear hk); (try clear hi); have hcz27_0 : w26.cell? ⟨gb110, 0, none⟩ = some (.slice Ao22 t101.length co22) := (yae BK110.out 0).trans rfl; have hcz27_1 : w26.cell? ⟨gb110, 1, none⟩ = some (.int .i64 t104) := (yae BK110.out 1).trans rfl; have hcz27_2 : w26.cell? ⟨gb110, 2, none⟩ = some (.int .i64 t105) := (yae BK110.out 2).trans rfl; have hcz27_3 : w26.cell? ⟨gb110, 3, none⟩ = some (.int .i64 t106) := (yae BK110.out 3).trans rfl; have hcz27_4 : w26.cell? ⟨gb110, 4, none⟩ = some (.int .i64 t107) := (yae BK110.out 4).trans rfl; have hcz27_5 : w26.cell? ⟨gb110, 5, none⟩ = some (.int .i64 t108) := (yae BK110.out 5).trans rfl; have hcz27_6 : w26.cell? ⟨gb110, 6, none⟩ = some (.int .i64 t109) := (yae BK110.out 6).trans rfl; have hfz27_0 := yac BK110.out 0; have hfz27_1 := yac BK110.out 1; have hfz27_2 := yac BK110.out 2; have hfz27_3 := yac BK110.out 3; have hfz27_4 := yac BK110.out 4; have hfz27_5 := yac BK110.out 5; have hfz27_6 := yac BK110.out 6) | ((with_reducible refine gate_dst (N := 27) rfl ?_); refine Kd.N_lit k24 _ 24 ?hg (N' := 27) ?hd (xs := ([(⟨t101, t104, t105, t106, t107, t108, t109⟩ : S24), (⟨t101, t104, t105, t106, t107, t108, t109⟩ : S24), (⟨t101, t104, t105, t106, t107, t108, t109⟩ : S24), (⟨t101, t104, t105, t106, t107, t108, t109⟩ : S24), (⟨t101, t104, t105, t106, t107, t108, t109⟩ : S24), (⟨t101, t104, t105, t106, t107, t108, t109⟩ : S24)] : List (S24))) (inner := [.slice Ao22 t101.length co22, .int .i64 t104, .int .i64 t105, .int .i64 t106, .int .i64 t107, .int .i64 t108, .int .i64 t109, .slice Ao22 t101.length co22, .int .i64 t104, .int .i64 t105, .int .i64 t106, .int .i64 t107, .int .i64 t108, .int .i64 t109, .slice Ao22 t101.length co22, .int .i64 t104, .int .i64 t105, .int .i64 t106, .int .i64 t107, .int .i64 t108, .int .i64 t109, .slice Ao22 t101.length co22, .int .i64 t104, .int .i64 t105, .int .i64 t106, .int .i64 t107, .int .i64 t108, .int .i64 t109, .slice Ao22 t101.length co22, .int .i64 t104, .int .i64 t105, .int .i64 t106, .int .i64 t107, .int .i64 t108, .int .i64 t109, .slice Ao22 t101.length co22, .int .i64 t104, .int .i64 t105, .int .i64 t106, .int .i64 t107, .int .i64 t108, .int .i64 t109]) (ok := (fun k_ => k_ ≠ gb110)) (okp := (fun k_ => k_ ≠ gb110)) ?hr ?hp (fun _ hk => hk) ((show ∀ k_, w26.heap.size ≤ k_ → (fun k_ => k_ ≠ gb110) k_ from fun k_ hk => Kd.freshB (g := gb110) (o := .cells #[.slice Ao22 t101.length co22, .int .i64 t104, .int .i64 t105, .int .i64 t106, .int .i64 t107, .int .i64 t108, .int .i64 t109] 24 (0, 0)) (by (with_reducible repeat (first | refine yah ?_ _ | refine yaj ?_ | refine yai ?_ _)); exact BK110.out) k_ hk) _ (Nat.le_refl _)) (Below.refl _ _) (Nat.le_refl _) (by simp) ?_; (case hd => rfl); (case hg => rfl); (case hr => first | (go_simp; done) | (go_simp; rfl)); (case hp => exact (Reps.c7 (show Kd.FK k24 _ _ (⟨t101, t104, t105, t106, t107, t108, t109⟩ : S24) [.slice Ao22 t101.length co22, .int .i64 t104, .int .i64 t105, .int .i64 t106, .int .i64 t107, .int .i64 t108, .int .i64 t109] from (k24_mkF _ _ (⟨t101, t104, t105, t106, t107, t108, t109⟩ : S24) (yal (Kd.R_mono (ok' := (fun k_ => k_ ≠ gb110)) (yao (HO103.out) BK110.out (by decide)) (fun k_ hk => hk.2))).2.1 (Kd.R_F (Kd.R_mono (ok' := (fun k_ => k_ ≠ gb110)) (yao (HO103.out) BK110.out (by decide)) (fun k_ hk => hk.2))))) (Reps.c7 (show Kd.FK k24 _ _ (⟨t101, t104, t105, t106, t107, t108, t109⟩ : S24) [.slice Ao22 t101.length co22, .int .i64 t104, .int .i64 t105, .int .i64 t106, .int .i64 t107, .int .i64 t108, .int .i64 t109] from (k24_mkF _ _ (⟨t101, t104, t105, t106, t107, t108, t109⟩ : S24) (yal (Kd.R_mono (ok' := (fun k_ => k_ ≠ gb110)) (yao (HO103.out) BK110.out (by decide)) (fun k_ hk => hk.2))).2.1 (Kd.R_F (Kd.R_mono (ok' := (fun k_ => k_ ≠ gb110)) (yao (HO103.out) BK110.out (by decide)) (fun k_ hk => hk.2))))) (Reps.c7 (show Kd.FK k24 _ _ (⟨t101, t104, t105, t106, t107, t108, t109⟩ : S24) [.slice Ao22 t101.length co22, .int .i64 t104, .int .i64 t105, .int .i64 t106, .int .i64 t107, .int .i64 t108, .int .i64 t109] from (k24_mkF _ _ (⟨t101, t104, t105, t106, t107, t108, t109⟩ : S24) (yal (Kd.R_mono (ok' := (fun k_ => k_ ≠ gb110)) (yao (HO103.out) BK110.out (by decide)) (fun k_ hk => hk.2))).2.1 (Kd.R_F (Kd.R_mono (ok' := (fun k_ => k_ ≠ gb110)) (yao (HO103.out) BK110.out (by decide)) (fun k_ hk => hk.2))))) (Reps.c7 (show Kd.FK k24 _ _ (⟨t101, t104, t105, t106, t107, t108, t109⟩ : S24) [.slice Ao22 t101.length co22, .int .i64 t104, .int .i64 t105, .int .i64 t106, .int .i64 t107, .int .i64 t108, .int .i64 t109] from (k24_mkF _ _ (⟨t101, t104, t105, t106, t107, t108, t109⟩ : S24) (yal (Kd.R_mono (ok' := (fun k_ => k_ ≠ gb110)) (yao (HO103.out) BK110.out (by decide)) (fun k_ hk => hk.2))).2.1 (Kd.R_F (Kd.R_mono (ok' := (fun k_ => k_ ≠ gb110)) (yao (HO103.out) BK110.out (by decide)) (fun k_ hk => hk.2))))) (Reps.c7 (show Kd.FK k24 _ _ (⟨t101, t104, t105, t106, t107, t108, t109⟩ : S24) [.slice Ao22 t101.length co22, .int .i64 t104, .int .i64 t105, .int .i64 t106, .int .i64 t107, .int .i64 t108, .int .i64 t109] from (k24_mkF _ _ (⟨t101, t104, t105, t106, t107, t108, t109⟩ : S24) (yal (Kd.R_mono (ok' := (fun k_ => k_ ≠ gb110)) (yao (HO103.out) BK110.out (by decide)) (fun k_ hk => hk.2))).2.1 (Kd.R_F (Kd.R_mono (ok' := (fun k_ => k_ ≠ gb110)) (yao (HO103.out) BK110.out (by decide)) (fun k_ hk => hk.2))))) (Reps.c7 (show Kd.FK k24 _ _ (⟨t101, t104, t105, t106, t107, t108, t109⟩ : S24) [.slice Ao22 t101.length co22, .int .i64 t104, .int .i64 t105, .int .i64 t106, .int .i64 t107, .int .i64 t108, .int .i64 t109] from (k24_mkF _ _ (⟨t101, t104, t105, t106, t107, t108, t109⟩ : S24) (yal (Kd.R_mono (ok' := (fun k_ => k_ ≠ gb110)) (yao (HO103.out) BK110.out (by decide)) (fun k_ hk => hk.2))).2.1 (Kd.R_F (Kd.R_mono (ok' := (fun k_ => k_ ≠ gb110)) (yao (HO103.out) BK110.out (by decide)) (fun k_ hk => hk.2))))) (Reps.none _ _)))))))); intro v115 w28 ho29 hb hg_ hnew_; clear hg_ hnew_; (first | rw [← Ny114.out] at ho29 | (simp only [Int.reduceToNat] at ho29; rw [← Ny114.out] at ho29)); have n0_ := yab (Kd.N_lower ho29 (below_size (by repeat (first | (with_reducible first | exact HB.out | apply yaf | apply yad | apply yag | refine yan ?_ GE110.out) | exact HB.out)))); have n1_ := yab (blk_below (g := gb110) (o := .cells #[.slice Ao22 t101.length co22, .int .i64 t104, .int .i64 t105, .int .i64 t106, .int .i64 t107, .int .i64 t108, .int .i64 t109] 24 (0, 0)) (by (with_reducible repeat (first | refine yah ?_ _ | refine yaj ?_ | refine yai ?_ _)); exact BK110.out) hb); have n2_ := yab (below_step (by repeat (first | (with_reducible first | exact HB.out | apply yaf | apply yad | apply yag | refine yan ?_ GE110.out) | exact HB.out)) hb); clear BK110; clear HB; have n9_ := yab (Kd.R_below (by (with_reducible repeat (first | apply Kd.R_alloc | apply Kd.R_drewN | apply Kd.R_drew)); exact HO103.out) hb); clear HO103; have HO103 := n9_; clear n9_; have HO116 := n0_; have BK110 := n1_; have HB := n2_; clear n0_ n1_ n2_; clear hb ho29; have p9 : 0 ≤ (0 : Int) := (by omega); have q9 : (0 : Int) < ((y114.length : Int) : Int) := of_decide_eq_true (by first | (with_reducible assumption) | assumption); have qi9 : (0 < y114.length) = True := eq_true (by omega); obtain ⟨go9, co9, eo9, gb9, gl9, cl9, HG9⟩ := Kd.N_form HO116.out (by omega); (first | cases eo9 | (injection eo9 with ea_ en_ ec_; (first | subst ea_ | (injection ea_ with ea_; subst ea_)); subst ec_; clear en_)); have GB9 := yab gb9; have GG9 := yab HG9; have n9_ := yab (Kd.R_mono (Kd.R_types HO103.out GG9.out (by decide)) (fun _ hk => hk.2)); clear HO103; have HO103 := n9_; clear n9_; clear gb9 gl9 HG9; obtain ⟨ce9, hcl9, hM9, hcc9, hfr9⟩ := Kd.N_elem HO116.out z24 (0 : Int) p9 q9; obtain ⟨ua9_0, uc9_0, rfl, ul9_0, ge9_0⟩ := k24_openF hM9; have hx9_0 : w28.cell? ⟨go9, (0 : Int).toNat * 7, none⟩ = some (.slice ua9_0 ((yaa y114 0).f0).length uc9_0) := hcc9 0 _ rfl; have hx9_1 : w28.cell? ⟨go9, (0 : Int).toNat * 7 + 1, none⟩ = some (.int .i64 ((yaa y114 0).f1)) := hcc9 1 _ rfl; have hx9_2 : w28.cell? ⟨go9, (0 : Int).toNat * 7 + 2, none⟩ = some (.int .i64 ((yaa y114 0).f2)) := hcc9 2 _ rfl; have hx9_3 : w28.cell? ⟨go9, (0 : Int).toNat * 7 + 3, none⟩ = some (.int .i64 ((yaa y114 0).f3)) := hcc9 3 _ rfl; have hx9_4 : w28.cell? ⟨go9, (0 : Int).toNat * 7 + 4, none⟩ = some (.int .i64 ((yaa y114 0).f4)) := hcc9 4 _ rfl; have hx9_5 : w28.cell? ⟨go9, (0 : Int).toNat * 7 + 5, none⟩ = some (.int .i64 ((yaa y114 0).f5)) := hcc9 5 _ rfl; have hx9_6 : w28.cell? ⟨go9, (0 : Int).toNat * 7 + 6, none⟩ = some (.int .i64 ((yaa y114 0).f6)) := hcc9 6 _ rfl; have hf9_0 : w28.frozen? ⟨go9, (0 : Int).toNat * 7, none⟩ = false := hfr9 0; have hf9_1 : w28.frozen? ⟨go9, (0 : Int).toNat * 7 + 1, none⟩ = false := hfr9 1; have hf9_2 : w28.frozen? ⟨go9, (0 : Int).toNat * 7 + 2, none⟩ = false := hfr9 2; have hf9_3 : w28.frozen? ⟨go9, (0 : Int).toNat * 7 + 3, none⟩ = false := hfr9 3; have hf9_4 : w28.frozen? ⟨go9, (0 : Int).toNat * 7 + 4, none⟩ = false := hfr9 4; have hf9_5 : w28.frozen? ⟨go9, (0 : Int).toNat * 7 + 5, none⟩ = false := hfr9 5; have hf9_6 : w28.frozen? ⟨go9, (0 : Int).toNat * 7 + 6, none⟩ = false := hfr9 6; clear hcl9 hcc9 hfr9 hM9; (try rw [show ((0 : Int)).toNat = 0 from rfl] at hx9_0); (try simp only [Nat.reduceMul, Nat.zero_mul, Nat.zero_add, Nat.reduceAdd] at hx9_0); (try rw [show ((0 : Int)).toNat = 0 from rfl] at hf9_0); (try simp only [Nat.reduceMul, Nat.zero_mul, Nat.zero_add, Nat.reduceAdd] at hf9_0); (try rw [show ((0 : Int)).toNat = 0 from rfl] at hx9_1); (try simp only [Nat.reduceMul, Nat.zero_mul, Nat.zero_add, Nat.reduceAdd] at hx9_1); (try rw [show ((0 : Int)).toNat = 0 from rfl] at hf9_1); (try simp only [Nat.reduceMul, Nat.zero_mul, Nat.zero_add, Nat.reduceAdd] at hf9_1); (try rw [show ((0 : Int)).toNat = 0 from rfl] at hx9_2); (try simp only [Nat.reduceMul, Nat.zero_mul, Nat.zero_add, Nat.reduceAdd] at hx9_2); (try rw [show ((0 : Int)).toNat = 0 from rfl] at hf9_2); (try simp only [Nat.reduceMul, Nat.zero_mul, Nat.zero_add, Nat.reduceAdd] at hf9_2); (try rw [show ((0 : Int)).toNat = 0 from rfl] at hx9_3); (try simp only [Nat.reduceMul, Nat.zero_mul, Nat.zero_add, Nat.reduceAdd] at hx9_3); (try rw [show ((0 : Int)).toNat = 0 from rfl] at hf9_3); (try simp only [Nat.reduceMul, Nat.zero_mul, Nat.zero_add, Nat.reduceAdd] at hf9_3); (try rw [show ((0 : Int)).toNat = 0 from rfl] at hx9_4); (try simp only [Nat.reduceMul, Nat.zero_mul, Nat.zero_add, Nat.reduceAdd] at hx9_4); (try rw [show ((0 : Int)).toNat = 0 from rfl] at hf9_4); (try simp only [Nat.reduceMul, Nat.zero_mul, Nat.zero_add, Nat.reduceAdd] at hf9_4); (try rw [show ((0 : Int)).toNat = 0 from rfl] at hx9_5); (try simp only [Nat.reduceMul, Nat.zero_mul, Nat.zero_add, Nat.reduceAdd] at hx9_5); (try rw [show ((0 : Int)).toNat = 0 from rfl] at hf9_5); (try simp only [Nat.reduceMul, Nat.zero_mul, Nat.zero_add, Nat.reduceAdd] at hf9_5); (try rw [show ((0 : Int)).toNat = 0 from rfl] at hx9_6); (try simp only [Nat.reduceMul, Nat.zero_mul, Nat.zero_add, Nat.reduceAdd] at hx9_6); (try rw [show ((0 : Int)).toNat = 0 from rfl] at hf9_6); (try simp only [Nat.reduceMul, Nat.zero_mul, Nat.zero_add, Nat.reduceAdd] at hf9_6); replace p9 := eq_true p9; replace q9 := eq_true q9; have HX30 := yab (show Kd.N k24 24 w28 w.heap.size (fun k_ => k_ ≠ gb110) (.slice (some ⟨go9, 0, none⟩) y114.length co9) y114 from (by (with_reducible repeat (first | apply Kd.N_alloc | apply Kd.N_drewN | apply Kd.N_drew)); exact HO116.out)); obtain ⟨ce30, hcl30, hM30, hcc30, hfr30⟩ := Kd.N_elem HX30.out z24 (0 : Int) (by omega) (by have h_ : (0 : Int) < ((y114.length : Int) : Int) := of_decide_eq_true (by first | (with_reducible assumption) | assumption); first | exact h_ | (have e_ := (yam HO116.out).1; omega) | simpa using h_); obtain ⟨ua30_0, uc30_0, rfl, ul30_0, ge30_0⟩ := k24_openF hM30; have HP30 := Kd.N_seg HX30.out (0 : Int) (by omega) (by have h_ : (0 : Int) < ((y114.length : Int) : Int) := of_decide_eq_true (by first | (with_reducible assumption) | assumption); first | exact h_ | (have e_ := (yam HO116.out).1; omega) | simpa using h_) (seg := [.int .i64 0]) (j := 1) hcl30 hcc30 (show 2 ≤ 7 from by decide) (x' := (⟨(yaa y114 0).f0, 0, (yaa y114 0).f2, (yaa y114 0).f3, (yaa y114 0).f4, (yaa y114 0).f5, (yaa y114 0).f6⟩ : S24)) (k24_mkF _ _ (⟨(yaa y114 0).f0, 0, (yaa y114 0).f2, (yaa y114 0).f3, (yaa y114 0).f4, (yaa y114 0).f5, (yaa y114 0).f6⟩ : S24) ul30_0 ge30_0) (fun _ hk => hk); have hx30_1 := hcc30 1 _ rfl; (try simp only [show (k24).sz = 7 from rfl, Nat.mul_one, Nat.add_zero] at hx30_1); (try rw [show ((0 : Int)).toNat = 0 from rfl] at hx30_1); (try simp only [Nat.reduceMul, Nat.zero_mul, Nat.zero_add, Nat.reduceAdd] at hx30_1); have hf30_1 := hfr30 1; (try simp only [show (k24).sz = 7 from rfl, Nat.mul_one, Nat.add_zero] at hf30_1); (try rw [show ((0 : Int)).toNat = 0 from rfl] at hf30_1); (try simp only [Nat.reduceMul, Nat.zero_mul, Nat.zero_add, Nat.reduceAdd] at hf30_1); clear hcl30 hcc30 hfr30 hM30) | ((with_reducible refine gate_store (t := 3) (p := 30) rfl ?_); refine store_event (t := 3) (p := 30) (v := ?vo_w31) (w1 := (w28.setCell ⟨go9, 1, none⟩ (.int .i64 0))) ?hg ?ho ?hn ?hr ?_; (case ho => rfl); (case hg => rfl); (case hn => rfl); (case hr => first | (go_simp; done) | (go_simp; rfl)); intro w31 hw; have hg : w28.grownBy w31 (some go9) := (by rw [hw]; exact HP30.2); have hp_ : Kd.N k24 24 w31 w.heap.size (fun k_ => k_ ≠ gb110) (.slice (some ⟨go9, 0, none⟩) y114.length co9) y117 := (by rw [hw, Ny117.out]; exact HP30.1); clear HP30; have n9_ := yab (Kd.R_grown HO103.out hg (fun k hk h => hk (Option.some.inj h))); clear HO103; have HO103 := n9_; clear n9_; have n0_ := yab (blk_grown (g := gb110) (o := .cells #[.slice Ao22 t101.length co22, .int .i64 t104, .int .i64 t105, .int .i64 t106, .int .i64 t107, .int .i64 t108, .int .i64 t109] 24 (0, 0)) (by (with_reducible repeat (first | refine yah ?_ _ | refine yaj ?_ | refine yai ?_ _)); exact BK110.out) hg (Kd.N_away HO116.out (fun _ hk => hk))); have n1_ := yab (hp_); have n2_ := yab ((by rw [hw]; exact yan (HB.out) GB9.out : Below w.heap.size w w31)); clear BK110; clear HO116; clear HB; have BK110 := n0_; have HO116 := n1_; have HB := n2_; clear n0_ n1_ n2_; clear hg hw hp_; have p11 : 0 ≤ (1 : Int) := (by omega); have q11 : (1 : Int) < ((y114.length : Int) : Int) := of_decide_eq_true (by first | (with_reducible assumption) | assumption); have qi11 : (1 < y114.length) = True := eq_true (by omega); obtain ⟨ce11, hcl11, hM11, hcc11, hfr11⟩ := Kd.N_elem HO116.out z24 (1 : Int) p11 q11; obtain ⟨ua11_0, uc11_0, rfl, ul11_0, ge11_0⟩ := k24_openF hM11; have hx11_0 : w31.cell? ⟨go9, (1 : Int).toNat * 7, none⟩ = some (.slice ua11_0 ((yaa y117 1).f0).length uc11_0) := hcc11 0 _ rfl; have hx11_1 : w31.cell? ⟨go9, (1 : Int).toNat * 7 + 1, none⟩ = some (.int .i64 ((yaa y117 1).f1)) := hcc11 1 _ rfl; have hx11_2 : w31.cell? ⟨go9, (1 : Int).toNat * 7 + 2, none⟩ = some (.int .i64 ((yaa y117 1).f2)) := hcc11 2 _ rfl; have hx11_3 : w31.cell? ⟨go9, (1 : Int).toNat * 7 + 3, none⟩ = some (.int .i64 ((yaa y117 1).f3)) := hcc11 3 _ rfl; have hx11_4 : w31.cell? ⟨go9, (1 : Int).toNat * 7 + 4, none⟩ = some (.int .i64 ((yaa y117 1).f4)) := hcc11 4 _ rfl; have hx11_5 : w31.cell? ⟨go9, (1 : Int).toNat * 7 + 5, none⟩ = some (.int .i64 ((yaa y117 1).f5)) := hcc11 5 _ rfl; have hx11_6 : w31.cell? ⟨go9, (1 : Int).toNat * 7 + 6, none⟩ = some (.int .i64 ((yaa y117 1).f6)) := hcc11 6 _ rfl; have hf11_0 : w31.frozen? ⟨go9, (1 : Int).toNat * 7, none⟩ = false := hfr11 0; have hf11_1 : w31.frozen? ⟨go9, (1 : Int).toNat * 7 + 1, none⟩ = false := hfr11 1; have hf11_2 : w31.frozen? ⟨go9, (1 : Int).toNat * 7 + 2, none⟩ = false := hfr11 2; have hf11_3 : w31.frozen? ⟨go9, (1 : Int).toNat * 7 + 3, none⟩ = false := hfr11 3; have hf11_4 : w31.frozen? ⟨go9, (1 : Int).toNat * 7 + 4, none⟩ = false := hfr11 4; have hf11_5 : w31.frozen? ⟨go9, (1 : Int).toNat * 7 + 5, none⟩ = false := hfr11 5; have hf11_6 : w31.frozen? ⟨go9, (1 : Int).toNat * 7 + 6, none⟩ = false := hfr11 6; clear hcl11 hcc11 hfr11 hM11; (try rw [show ((1 : Int)).toNat = 1 from rfl] at hx11_0); (try simp only [Nat.reduceMul, Nat.zero_mul, Nat.zero_add, Nat.reduceAdd] at hx11_0); (try rw [show ((1 : Int)).toNat = 1 from rfl] at hf11_0); (try simp only [Nat.reduceMul, Nat.zero_mul, Nat.zero_add, Nat.reduceAdd] at hf11_0); (try rw [show ((1 : Int)).toNat = 1 from rfl] at hx11_1); (try simp only [Nat.reduceMul, Nat.zero_mul, Nat.zero_add, Nat.reduceAdd] at hx11_1); (try rw [show ((1 : Int)).toNat = 1 from rfl] at hf11_1); (try simp only [Nat.reduceMul, Nat.zero_mul, Nat.zero_add, Nat.reduceAdd] at hf11_1); (try rw [show ((1 : Int)).toNat = 1 from rfl] at hx11_2); (try simp only [Nat.reduceMul, Nat.zero_mul, Nat.zero_add, Nat.reduceAdd] at hx11_2); (try rw [show ((1 : Int)).toNat = 1 from rfl] at hf11_2); (try simp only [Nat.reduceMul, Nat.zero_mul, Nat.zero_add, Nat.reduceAdd] at hf11_2); (try rw [show ((1 : Int)).toNat = 1 from rfl] at hx11_3); (try simp only [Nat.reduceMul, Nat.zero_mul, Nat.zero_add, Nat.reduceAdd] at hx11_3); (try rw [show ((1 : Int)).toNat = 1 from rfl] at hf11_3); (try simp only [Nat.reduceMul, Nat.zero_mul, Nat.zero_add, Nat.reduceAdd] at hf11_3); (try rw [show ((1 : Int)).toNat = 1 from rfl] at hx11_4); (try simp only [Nat.reduceMul, Nat.zero_mul, Nat.zero_add, Nat.reduceAdd] at hx11_4); (try rw [show ((1 : Int)).toNat = 1 from rfl] at hf11_4); (try simp only [Nat.reduceMul, Nat.zero_mul, Nat.zero_add, Nat.reduceAdd] at hf11_4); (try rw [show ((1 : Int)).toNat = 1 from rfl] at hx11_5); (try simp only [Nat.reduceMul, Nat.zero_mul, Nat.zero_add, Nat.reduceAdd] at hx11_5); (try rw [show ((1 : Int)).toNat = 1 from rfl] at hf11_5); (try simp only [Nat.reduceMul, Nat.zero_mul, Nat.zero_add, Nat.reduceAdd] at hf11_5); (try rw [show ((1 : Int)).toNat = 1 from rfl] at hx11_6); (try simp only [Nat.reduceMul, Nat.zero_mul, Nat.zero_add, Nat.reduceAdd] at hx11_6); (try rw [show ((1 : Int)).toNat = 1 from rfl] at hf11_6); (try simp only [Nat.reduceMul, Nat.zero_mul, Nat.zero_add, Nat.reduceAdd] at hf11_6); replace p11 := eq_true p11; replace q11 := eq_true q11; have HX32 := yab (show Kd.N k24 24 w31 w.heap.size (fun k_ => k_ ≠ gb110) (.slice (some ⟨go9, 0, none⟩) y114.length co9) y117 from (by (with_reducible repeat (first | apply Kd.N_alloc | apply Kd.N_drewN | apply Kd.N_drew)); exact HO116.out)); obtain ⟨ce32, hcl32, hM32, hcc32, hfr32⟩ := Kd.N_elem HX32.out z24 (1 : Int) (by omega) (by have h_ : (1 : Int) < ((y114.length : Int) : Int) := of_decide_eq_true (by first | (with_reducible assumption) | assumption); first | exact h_ | (have e_ := (yam HO116.out).1; omega) | simpa using h_); obtain ⟨ua32_0, uc32_0, rfl, ul32_0, ge32_0⟩ := k24_openF hM32; have HP32 := Kd.N_seg HX32.out (1 : Int) (by omega) (by have h_ : (1 : Int) < ((y114.length : Int) : Int) := of_decide_eq_true (by first | (with_reducible assumption) | assumption); first | exact h_ | (have e_ := (yam HO116.out).1; omega) | simpa using h_) (seg := [.int .i64 0]) (j := 2) hcl32 hcc32 (show 3 ≤ 7 from by decide) (x' := (⟨(yaa y117 1).f0, (yaa y117 1).f1, 0, (yaa y117 1).f3, (yaa y117 1).f4, (yaa y117 1).f5, (yaa y117 1).f6⟩ : S24)) (k24_mkF _ _ (⟨(yaa y117 1).f0, (yaa y117 1).f1, 0, (yaa y117 1).f3, (yaa y117 1).f4, (yaa y117 1).f5, (yaa y117 1).f6⟩ : S24) ul32_0 ge32_0) (fun _ hk => hk); have hx32_2 := hcc32 2 _ rfl; (try simp only [show (k24).sz = 7 from rfl, Nat.mul_one, Nat.add_zero] at hx32_2); (try rw [show ((1 : Int)).toNat = 1 from rfl] at hx32_2); (try simp only [Nat.reduceMul, Nat.zero_mul, Nat.zero_add, Nat.reduceAdd] at hx32_2); have hf32_2 := hfr32 2; (try simp only [show (k24).sz = 7 from rfl, Nat.mul_one, Nat.add_zero] at hf32_2); (try rw [show ((1 : Int)).toNat = 1 from rfl] at hf32_2); (try simp only [Nat.reduceMul, Nat.zero_mul, Nat.zero_add, Nat.reduceAdd] at hf32_2); clear hcl32 hcc32 hfr32 hM32) | ((with_reducible refine gate_store (t := 3) (p := 33) rfl ?_); refine store_event (t := 3) (p := 33) (v := ?vo_w33) (w1 := (w31.setCell ⟨go9, 9, none⟩ (.int .i64 0))) ?hg ?ho ?hn ?hr ?_; (case ho => rfl); (case hg => rfl); (case hn => rfl); (case hr => first | (go_simp; done) | (go_simp; rfl)); intro w33 hw; have hg : w31.grownBy w33 (some go9) := (by rw [hw]; exact HP32.2); have hp_ : Kd.N k24 24 w33 w.heap.size (fun k_ => k_ ≠ gb110) (.slice (some ⟨go9, 0, none⟩) y114.length co9) y118 := (by rw [hw, Ny118.out]; exact HP32.1); clear HP32; have n9_ := yab (Kd.R_grown HO103.out hg (fun k hk h => hk (Option.some.inj h))); clear HO103; have HO103 := n9_; clear n9_; have n0_ := yab (blk_grown (g := gb110) (o := .cells #[.slice Ao22 t101.length co22, .int .i64 t104, .int .i64 t105, .int .i64 t106, .int .i64 t107, .int .i64 t108, .int .i64 t109] 24 (0, 0)) (by (with_reducible repeat (first | refine yah ?_ _ | refine yaj ?_ | refine yai ?_ _)); exact BK110.out) hg (Kd.N_away HO116.out (fun _ hk => hk))); have n1_ := yab (hp_); have n2_ := yab ((by rw [hw]; exact yan (HB.out) GB9.out : Below w.heap.size w w33)); clear BK110; clear HO116; clear HB; have BK110 := n0_; have HO116 := n1_; have HB := n2_; clear n0_ n1_ n2_; clear hg hw hp_; have p13 : 0 ≤ (2 : Int) := (by omega); have q13 : (2 : Int) < ((y114.length : Int) : Int) := of_decide_eq_true (by first | (with_reducible assumption) | assumption); have qi13 : (2 < y114.length) = True := eq_true (by omega); obtain ⟨ce13, hcl13, hM13, hcc13, hfr13⟩ := Kd.N_elem HO116.out z24 (2 : Int) p13 q13; obtain ⟨ua13_0, uc13_0, rfl, ul13_0, ge13_0⟩ := k24_openF hM13; have hx13_0 : w33.cell? ⟨go9, (2 : Int).toNat * 7, none⟩ = some (.slice ua13_0 ((yaa y118 2).f0).length uc13_0) := hcc13 0 _ rfl; have hx13_1 : w33.cell? ⟨go9, (2 : Int).toNat * 7 + 1, none⟩ = some (.int .i64 ((yaa y118 2).f1)) := hcc13 1 _ rfl; have hx13_2 : w33.cell? ⟨go9, (2 : Int).toNat * 7 + 2, none⟩ = some (.int .i64 ((yaa y118 2).f2)) := hcc13 2 _ rfl; have hx13_3 : w33.cell? ⟨go9, (2 : Int).toNat * 7 + 3, none⟩ = some (.int .i64 ((yaa y118 2).f3)) := hcc13 3 _ rfl; have hx13_4 : w33.cell? ⟨go9, (2 : Int).toNat * 7 + 4, none⟩ = some (.int .i64 ((yaa y118 2).f4)) := hcc13 4 _ rfl; have hx13_5 : w33.cell? ⟨go9, (2 : Int).toNat * 7 + 5, none⟩ = some (.int .i64 ((yaa y118 2).f5)) := hcc13 5 _ rfl; have hx13_6 : w33.cell? ⟨go9, (2 : Int).toNat * 7 + 6, none⟩ = some (.int .i64 ((yaa y118 2).f6)) := hcc13 6 _ rfl; have hf13_0 : w33.frozen? ⟨go9, (2 : Int).toNat * 7, none⟩ = false := hfr13 0; have hf13_1 : w33.frozen? ⟨go9, (2 : Int).toNat * 7 + 1, none⟩ = false := hfr13 1; have hf13_2 : w33.frozen? ⟨go9, (2 : Int).toNat * 7 + 2, none⟩ = false := hfr13 2; have hf13_3 : w33.frozen? ⟨go9, (2 : Int).toNat * 7 + 3, none⟩ = false := hfr13 3; have hf13_4 : w33.frozen? ⟨go9, (2 : Int).toNat * 7 + 4, none⟩ = false := hfr13 4; have hf13_5 : w33.frozen? ⟨go9, (2 : Int).toNat * 7 + 5, none⟩ = false := hfr13 5; have hf13_6 : w33.frozen? ⟨go9, (2 : Int).toNat * 7 + 6, none⟩ = false := hfr13 6; clear hcl13 hcc13 hfr13 hM13; (try rw [show ((2 : Int)).toNat = 2 from rfl] at hx13_0); (try simp only [Nat.reduceMul, Nat.zero_mul, Nat.zero_add, Nat.reduceAdd] at hx13_0); (try rw [show ((2 : Int)).toNat = 2 from rfl] at hf13_0); (try simp only [Nat.reduceMul, Nat.zero_mul, Nat.zero_add, Nat.reduceAdd] at hf13_0); (try rw [show ((2 : Int)).toNat = 2 from rfl] at hx13_1); (try simp only [Nat.reduceMul, Nat.zero_mul, Nat.zero_add, Nat.reduceAdd] at hx13_1); (try rw [show ((2 : Int)).toNat = 2 from rfl] at hf13_1); (try simp only [Nat.reduceMul, Nat.zero_mul, Nat.zero_add, Nat.reduceAdd] at hf13_1); (try rw [show ((2 : Int)).toNat = 2 from rfl] at hx13_2); (try simp only [Nat.reduceMul, Nat.zero_mul, Nat.zero_add, Nat.reduceAdd] at hx13_2); (try rw [show ((2 : Int)).toNat = 2 from rfl] at hf13_2); (try simp only [Nat.reduceMul, Nat.zero_mul, Nat.zero_add, Nat.reduceAdd] at hf13_2); (try rw [show ((2 : Int)).toNat = 2 from rfl] at hx13_3); (try simp only [Nat.reduceMul, Nat.zero_mul, Nat.zero_add, Nat.reduceAdd] at hx13_3); (try rw [show ((2 : Int)).toNat = 2 from rfl] at hf13_3); (try simp only [Nat.reduceMul, Nat.zero_mul, Nat.zero_add, Nat.reduceAdd] at hf13_3); (try rw [show ((2 : Int)).toNat = 2 from rfl] at hx13_4); (try simp only [Nat.reduceMul, Nat.zero_mul, Nat.zero_add, Nat.reduceAdd] at hx13_4); (try rw [show ((2 : Int)).toNat = 2 from rfl] at hf13_4); (try simp only [Nat.reduceMul, Nat.zero_mul, Nat.zero_add, Nat.reduceAdd] at hf13_4); (try rw [show ((2 : Int)).toNat = 2 from rfl] at hx13_5); (try simp only [Nat.reduceMul, Nat.zero_mul, Nat.zero_add, Nat.reduceAdd] at hx13_5); (try rw [show ((2 : Int)).toNat = 2 from rfl] at hf13_5); (try simp only [Nat.reduceMul, Nat.zero_mul, Nat.zero_add, Nat.reduceAdd] at hf13_5); (try rw [show ((2 : Int)).toNat = 2 from rfl] at hx13_6); (try simp only [Nat.reduceMul, Nat.zero_mul, Nat.zero_add, Nat.reduceAdd] at hx13_6); (try rw [show ((2 : Int)).toNat = 2 from rfl] at hf13_6); (try simp only [Nat.reduceMul, Nat.zero_mul, Nat.zero_add, Nat.reduceAdd] at hf13_6); replace p13 := eq_true p13; replace q13 := eq_true q13; have HX34 := yab (show Kd.N k24 24 w33 w.heap.size (fun k_ => k_ ≠ gb110) (.slice (some ⟨go9, 0, none⟩) y114.length co9) y118 from (by (with_reducible repeat (first | apply Kd.N_alloc | apply Kd.N_drewN | apply Kd.N_drew)); exact HO116.out)); obtain ⟨ce34, hcl34, hM34, hcc34, hfr34⟩ := Kd.N_elem HX34.out z24 (2 : Int) (by omega) (by have h_ : (2 : Int) < ((y114.length : Int) : Int) := of_decide_eq_true (by first | (with_reducible assumption) | assumption); first | exact h_ | (have e_ := (yam HO116.out).1; omega) | simpa using h_); obtain ⟨ua34_0, uc34_0, rfl, ul34_0, ge34_0⟩ := k24_openF hM34; have HP34 := Kd.N_seg HX34.out (2 : Int) (by omega) (by have h_ : (2 : Int) < ((y114.length : Int) : Int) := of_decide_eq_true (by first | (with_reducible assumption) | assumption); first | exact h_ | (have e_ := (yam HO116.out).1; omega) | simpa using h_) (seg := [.int .i64 0]) (j := 3) hcl34 hcc34 (show 4 ≤ 7 from by decide) (x' := (⟨(yaa y118 2).f0, (yaa y118 2).f1, (yaa y118 2).f2, 0, (yaa y118 2).f4, (yaa y118 2).f5, (yaa y118 2).f6⟩ : S24)) (k24_mkF _ _ (⟨(yaa y118 2).f0, (yaa y118 2).f1, (yaa y118 2).f2, 0, (yaa y118 2).f4, (yaa y118 2).f5, (yaa y118 2).f6⟩ : S24) ul34_0 ge34_0) (fun _ hk => hk); have hx34_3 := hcc34 3 _ rfl; (try simp only [show (k24).sz = 7 from rfl, Nat.mul_one, Nat.add_zero] at hx34_3); (try rw [show ((2 : Int)).toNat = 2 from rfl] at hx34_3); (try simp only [Nat.reduceMul, Nat.zero_mul, Nat.zero_add, Nat.reduceAdd] at hx34_3); have hf34_3 := hfr34 3; (try simp only [show (k24).sz = 7 from rfl, Nat.mul_one, Nat.add_zero] at hf34_3); (try rw [show ((2 : Int)).toNat = 2 from rfl] at hf34_3); (try simp only [Nat.reduceMul, Nat.zero_mul, Nat.zero_add, Nat.reduceAdd] at hf34_3); clear hcl34 hcc34 hfr34 hM34) | ((with_reducible refine gate_store (t := 3) (p := 36) rfl ?_); refine store_event (t := 3) (p := 36) (v := ?vo_w35) (w1 := (w33.setCell ⟨go9, 17, none⟩ (.int .i64 0))) ?hg ?ho ?hn ?hr ?_; (case ho => rfl); (case hg => rfl); (case hn => rfl); (case hr => first | (go_simp; done) | (go_simp; rfl)); intro w35 hw; have hg : w33.grownBy w35 (some go9) := (by rw [hw]; exact HP34.2); have hp_ : Kd.N k24 24 w35 w.heap.size (fun k_ => k_ ≠ gb110) (.slice (some ⟨go9, 0, none⟩) y114.length co9) y119 := (by rw [hw, Ny119.out]; exact HP34.1); clear HP34; have n9_ := yab (Kd.R_grown HO103.out hg (fun k hk h => hk (Option.some.inj h))); clear HO103; have HO103 := n9_; clear n9_; have n0_ := yab (blk_grown (g := gb110) (o := .cells #[.slice Ao22 t101.length co22, .int .i64 t104, .int .i64 t105, .int .i64 t106, .int .i64 t107, .int .i64 t108, .int .i64 t109] 24 (0, 0)) (by (with_reducible repeat (first | refine yah ?_ _ | refine yaj ?_ | refine yai ?_ _)); exact BK110.out) hg (Kd.N_away HO116.out (fun _ hk => hk))); have n1_ := yab (hp_); have n2_ := yab ((by rw [hw]; exact yan (HB.out) GB9.out : Below w.heap.size w w35)); clear BK110; clear HO116; clear HB; have BK110 := n0_; have HO116 := n1_; have HB := n2_; clear n0_ n1_ n2_; clear hg hw hp_; have p15 : 0 ≤ (3 : Int) := (by omega); have q15 : (3 : Int) < ((y114.length : Int) : Int) := of_decide_eq_true (by first | (with_reducible assumption) | assumption); have qi15 : (3 < y114.length) = True := eq_true (by omega); obtain ⟨ce15, hcl15, hM15, hcc15, hfr15⟩ := Kd.N_elem HO116.out z24 (3 : Int) p15 q15; obtain ⟨ua15_0, uc15_0, rfl, ul15_0, ge15_0⟩ := k24_openF hM15; have hx15_0 : w35.cell? ⟨go9, (3 : Int).toNat * 7, none⟩ = some (.slice ua15_0 ((yaa y119 3).f0).length uc15_0) := hcc15 0 _ rfl; have hx15_1 : w35.cell? ⟨go9, (3 : Int).toNat * 7 + 1, none⟩ = some (.int .i64 ((yaa y119 3).f1)) := hcc15 1 _ rfl; have hx15_2 : w35.cell? ⟨go9, (3 : Int).toNat * 7 + 2, none⟩ = some (.int .i64 ((yaa y119 3).f2)) := hcc15 2 _ rfl; have hx15_3 : w35.cell? ⟨go9, (3 : Int).toNat * 7 + 3, none⟩ = some (.int .i64 ((yaa y119 3).f3)) := hcc15 3 _ rfl; have hx15_4 : w35.cell? ⟨go9, (3 : Int).toNat * 7 + 4, none⟩ = some (.int .i64 ((yaa y119 3).f4)) := hcc15 4 _ rfl; have hx15_5 : w35.cell? ⟨go9, (3 : Int).toNat * 7 + 5, none⟩ = some (.int .i64 ((yaa y119 3).f5)) := hcc15 5 _ rfl; have hx15_6 : w35.cell? ⟨go9, (3 : Int).toNat * 7 + 6, none⟩ = some (.int .i64 ((yaa y119 3).f6)) := hcc15 6 _ rfl; have hf15_0 : w35.frozen? ⟨go9, (3 : Int).toNat * 7, none⟩ = false := hfr15 0; have hf15_1 : w35.frozen? ⟨go9, (3 : Int).toNat * 7 + 1, none⟩ = false := hfr15 1; have hf15_2 : w35.frozen? ⟨go9, (3 : Int).toNat * 7 + 2, none⟩ = false := hfr15 2; have hf15_3 : w35.frozen? ⟨go9, (3 : Int).toNat * 7 + 3, none⟩ = false := hfr15 3; have hf15_4 : w35.frozen? ⟨go9, (3 : Int).toNat * 7 + 4, none⟩ = false := hfr15 4; have hf15_5 : w35.frozen? ⟨go9, (3 : Int).toNat * 7 + 5, none⟩ = false := hfr15 5; have hf15_6 : w35.frozen? ⟨go9, (3 : Int).toNat * 7 + 6, none⟩ = false := hfr15 6; clear hcl15 hcc15 hfr15 hM15; (try rw [show ((3 : Int)).toNat = 3 from rfl] at hx15_0); (try simp only [Nat.reduceMul, Nat.zero_mul, Nat.zero_add, Nat.reduceAdd] at hx15_0); (try rw [show ((3 : Int)).toNat = 3 from rfl] at hf15_0); (try simp only [Nat.reduceMul, Nat.zero_mul, Nat.zero_add, Nat.reduceAdd] at hf15_0); (try rw [show ((3 : Int)).toNat = 3 from rfl] at hx15_1); (try simp only [Nat.reduceMul, Nat.zero_mul, Nat.zero_add, Nat.reduceAdd] at hx15_1); (try rw [show ((3 : Int)).toNat = 3 from rfl] at hf15_1); (try simp only [Nat.reduceMul, Nat.zero_mul, Nat.zero_add, Nat.reduceAdd] at hf15_1); (try rw [show ((3 : Int)).toNat = 3 from rfl] at hx15_2); (try simp only [Nat.reduceMul, Nat.zero_mul, Nat.zero_add, Nat.reduceAdd] at hx15_2); (try rw [show ((3 : Int)).toNat = 3 from rfl] at hf15_2); (try simp only [Nat.reduceMul, Nat.zero_mul, Nat.zero_add, Nat.reduceAdd] at hf15_2); (try rw [show ((3 : Int)).toNat = 3 from rfl] at hx15_3); (try simp only [Nat.reduceMul, Nat.zero_mul, Nat.zero_add, Nat.reduceAdd] at hx15_3); (try rw [show ((3 : Int)).toNat = 3 from rfl] at hf15_3); (try simp only [Nat.reduceMul, Nat.zero_mul, Nat.zero_add, Nat.reduceAdd] at hf15_3); (try rw [show ((3 : Int)).toNat = 3 from rfl] at hx15_4); (try simp only [Nat.reduceMul, Nat.zero_mul, Nat.zero_add, Nat.reduceAdd] at hx15_4); (try rw [show ((3 : Int)).toNat = 3 from rfl] at hf15_4); (try simp only [Nat.reduceMul, Nat.zero_mul, Nat.zero_add, Nat.reduceAdd] at hf15_4); (try rw [show ((3 : Int)).toNat = 3 from rfl] at hx15_5); (try simp only [Nat.reduceMul, Nat.zero_mul, Nat.zero_add, Nat.reduceAdd] at hx15_5); (try rw [show ((3 : Int)).toNat = 3 from rfl] at hf15_5); (try simp only [Nat.reduceMul, Nat.zero_mul, Nat.zero_add, Nat.reduceAdd] at hf15_5); (try rw [show ((3 : Int)).toNat = 3 from rfl] at hx15_6); (try simp only [Nat.reduceMul, Nat.zero_mul, Nat.zero_add, Nat.reduceAdd] at hx15_6); (try rw [show ((3 : Int)).toNat = 3 from rfl] at hf15_6); (try simp only [Nat.reduceMul, Nat.zero_mul, Nat.zero_add, Nat.reduceAdd] at hf15_6); replace p15 := eq_true p15; replace q15 := eq_true q15; have HX36 := yab (show Kd.N k24 24 w35 w.heap.size (fun k_ => k_ ≠ gb110) (.slice (some ⟨go9, 0, none⟩) y114.length co9) y119 from (by (with_reducible repeat (first | apply Kd.N_alloc | apply Kd.N_drewN | apply Kd.N_drew)); exact HO116.out)); obtain ⟨ce36, hcl36, hM36, hcc36, hfr36⟩ := Kd.N_elem HX36.out z24 (3 : Int) (by omega) (by have h_ : (3 : Int) < ((y114.length : Int) : Int) := of_decide_eq_true (by first | (with_reducible assumption) | assumption); first | exact h_ | (have e_ := (yam HO116.out).1; omega) | simpa using h_); obtain ⟨ua36_0, uc36_0, rfl, ul36_0, ge36_0⟩ := k24_openF hM36; have HP36 := Kd.N_seg HX36.out (3 : Int) (by omega) (by have h_ : (3 : Int) < ((y114.length : Int) : Int) := of_decide_eq_true (by first | (with_reducible assumption) | assumption); first | exact h_ | (have e_ := (yam HO116.out).1; omega) | simpa using h_) (seg := [.int .i64 0]) (j := 4) hcl36 hcc36 (show 5 ≤ 7 from by decide) (x' := (⟨(yaa y119 3).f0, (yaa y119 3).f1, (yaa y119 3).f2, (yaa y119 3).f3, 0, (yaa y119 3).f5, (yaa y119 3).f6⟩ : S24)) (k24_mkF _ _ (⟨(yaa y119 3).f0, (yaa y119 3).f1, (yaa y119 3).f2, (yaa y119 3).f3, 0, (yaa y119 3).f5, (yaa y119 3).f6⟩ : S24) ul36_0 ge36_0) (fun _ hk => hk); have hx36_4 := hcc36 4 _ rfl; (try simp only [show (k24).sz = 7 from rfl, Nat.mul_one, Nat.add_zero] at hx36_4); (try rw [show ((3 : Int)).toNat = 3 from rfl] at hx36_4); (try simp only [Nat.reduceMul, Nat.zero_mul, Nat.zero_add, Nat.reduceAdd] at hx36_4); have hf36_4 := hfr36 4; (try simp only [show (k24).sz = 7 from rfl, Nat.mul_one, Nat.add_zero] at hf36_4); (try rw [show ((3 : Int)).toNat = 3 from rfl] at hf36_4); (try simp only [Nat.reduceMul, Nat.zero_mul, Nat.zero_add, Nat.reduceAdd] at hf36_4); clear hcl36 hcc36 hfr36 hM36) | ((with_reducible refine gate_store (t := 3) (p := 39) rfl ?_); refine store_event (t := 3) (p := 39) (v := ?vo_w37) (w1 := (w35.setCell ⟨go9, 25, none⟩ (.int .i64 0))) ?hg ?ho ?hn ?hr ?_; (case ho => rfl); (case hg => rfl); (case hn => rfl); (case hr => first | (go_simp; done) | (go_simp; rfl)); intro w37 hw; have hg : w35.grownBy w37 (some go9) := (by rw [hw]; exact HP36.2); have hp_ : Kd.N k24 24 w37 w.heap.size (fun k_ => k_ ≠ gb110) (.slice (some ⟨go9, 0, none⟩) y114.length co9) y120 := (by rw [hw, Ny120.out]; exact HP36.1); clear HP36; have n9_ := yab (Kd.R_grown HO103.out hg (fun k hk h => hk (Option.some.inj h))); clear HO103; have HO103 := n9_; clear n9_; have n0_ := yab (blk_grown (g := gb110) (o := .cells #[.slice Ao22 t101.length co22, .int .i64 t104, .int .i64 t105, .int .i64 t106, .int .i64 t107, .int .i64 t108, .int .i64 t109] 24 (0, 0)) (by (with_reducible repeat (first | refine yah ?_ _ | refine yaj ?_ | refine yai ?_ _)); exact BK110.out) hg (Kd.N_away HO116.out (fun _ hk => hk))); have n1_ := yab (hp_); have n2_ := yab ((by rw [hw]; exact yan (HB.out) GB9.out : Below w.heap.size w w37)); clear BK110; clear HO116; clear HB; have BK110 := n0_; have HO116 := n1_; have HB := n2_; clear n0_ n1_ n2_; clear hg hw hp_; have p17 : 0 ≤ (4 : Int) := (by omega); have q17 : (4 : Int) < ((y114.length : Int) : Int) := of_decide_eq_true (by first | (with_reducible assumption) | assumption); have qi17 : (4 < y114.length) = True := eq_true (by omega); obtain ⟨ce17, hcl17, hM17, hcc17, hfr17⟩ := Kd.N_elem HO116.out z24 (4 : Int) p17 q17; obtain ⟨ua17_0, uc17_0, rfl, ul17_0, ge17_0⟩ := k24_openF hM17; have hx17_0 : w37.cell? ⟨go9, (4 : Int).toNat * 7, none⟩ = some (.slice ua17_0 ((yaa y120 4).f0).length uc17_0) := hcc17 0 _ rfl; have hx17_1 : w37.cell? ⟨go9, (4 : Int).toNat * 7 + 1, none⟩ = some (.int .i64 ((yaa y120 4).f1)) := hcc17 1 _ rfl; have hx17_2 : w37.cell? ⟨go9, (4 : Int).toNat * 7 + 2, none⟩ = some (.int .i64 ((yaa y120 4).f2)) := hcc17 2 _ rfl; have hx17_3 : w37.cell? ⟨go9, (4 : Int).toNat * 7 + 3, none⟩ = some (.int .i64 ((yaa y120 4).f3)) := hcc17 3 _ rfl; have hx17_4 : w37.cell? ⟨go9, (4 : Int).toNat * 7 + 4, none⟩ = some (.int .i64 ((yaa y120 4).f4)) := hcc17 4 _ rfl; have hx17_5 : w37.cell? ⟨go9, (4 : Int).toNat * 7 + 5, none⟩ = some (.int .i64 ((yaa y120 4).f5)) := hcc17 5 _ rfl; have hx17_6 : w37.cell? ⟨go9, (4 : Int).toNat * 7 + 6, none⟩ = some (.int .i64 ((yaa y120 4).f6)) := hcc17 6 _ rfl; have hf17_0 : w37.frozen? ⟨go9, (4 : Int).toNat * 7, none⟩ = false := hfr17 0; have hf17_1 : w37.frozen? ⟨go9, (4 : Int).toNat * 7 + 1, none⟩ = false := hfr17 1; have hf17_2 : w37.frozen? ⟨go9, (4 : Int).toNat * 7 + 2, none⟩ = false := hfr17 2; have hf17_3 : w37.frozen? ⟨go9, (4 : Int).toNat * 7 + 3, none⟩ = false := hfr17 3; have hf17_4 : w37.frozen? ⟨go9, (4 : Int).toNat * 7 + 4, none⟩ = false := hfr17 4; have hf17_5 : w37.frozen? ⟨go9, (4 : Int).toNat * 7 + 5, none⟩ = false := hfr17 5; have hf17_6 : w37.frozen? ⟨go9, (4 : Int).toNat * 7 + 6, none⟩ = false := hfr17 6; clear hcl17 hcc17 hfr17 hM17; (try rw [show ((4 : Int)).toNat = 4 from rfl] at hx17_0); (try simp only [Nat.reduceMul, Nat.zero_mul, Nat.zero_add, Nat.reduceAdd] at hx17_0); (try rw [show ((4 : Int)).toNat = 4 from rfl] at hf17_0); (try simp only [Nat.reduceMul, Nat.zero_mul, Nat.zero_add, Nat.reduceAdd] at hf17_0); (try rw [show ((4 : Int)).toNat = 4 from rfl] at hx17_1); (try simp only [Nat.reduceMul, Nat.zero_mul, Nat.zero_add, Nat.reduceAdd] at hx17_1); (try rw [show ((4 : Int)).toNat = 4 from rfl] at hf17_1); (try simp only [Nat.reduceMul, Nat.zero_mul, Nat.zero_add, Nat.reduceAdd] at hf17_1); (try rw [show ((4 : Int)).toNat = 4 from rfl] at hx17_2); (try simp only [Nat.reduceMul, Nat.zero_mul, Nat.zero_add, Nat.reduceAdd] at hx17_2); (try rw [show ((4 : Int)).toNat = 4 from rfl] at hf17_2); (try simp only [Nat.reduceMul, Nat.zero_mul, Nat.zero_add, Nat.reduceAdd] at hf17_2); (try rw [show ((4 : Int)).toNat = 4 from rfl] at hx17_3); (try simp only [Nat.reduceMul, Nat.zero_mul, Nat.zero_add, Nat.reduceAdd] at hx17_3); (try rw [show ((4 : Int)).toNat = 4 from rfl] at hf17_3); (try simp only [Nat.reduceMul, Nat.zero_mul, Nat.zero_add, Nat.reduceAdd] at hf17_3); (try rw [show ((4 : Int)).toNat = 4 from rfl] at hx17_4); (try simp only [Nat.reduceMul, Nat.zero_mul, Nat.zero_add, Nat.reduceAdd] at hx17_4); (try rw [show ((4 : Int)).toNat = 4 from rfl] at hf17_4); (try simp only [Nat.reduceMul, Nat.zero_mul, Nat.zero_add, Nat.reduceAdd] at hf17_4); (try rw [show ((4 : Int)).toNat = 4 from rfl] at hx17_5); (try simp only [Nat.reduceMul, Nat.zero_mul, Nat.zero_add, Nat.reduceAdd] at hx17_5); (try rw [show ((4 : Int)).toNat = 4 from rfl] at hf17_5); (try simp only [Nat.reduceMul, Nat.zero_mul, Nat.zero_add, Nat.reduceAdd] at hf17_5); (try rw [show ((4 : Int)).toNat = 4 from rfl] at hx17_6); (try simp only [Nat.reduceMul, Nat.zero_mul, Nat.zero_add, Nat.reduceAdd] at hx17_6); (try rw [show ((4 : Int)).toNat = 4 from rfl] at hf17_6); (try simp only [Nat.reduceMul, Nat.zero_mul, Nat.zero_add, Nat.reduceAdd] at hf17_6); replace p17 := eq_true p17; replace q17 := eq_true q17; have HX38 := yab (show Kd.N k24 24 w37 w.heap.size (fun k_ => k_ ≠ gb110) (.slice (some ⟨go9, 0, none⟩) y114.length co9) y120 from (by (with_reducible repeat (first | apply Kd.N_alloc | apply Kd.N_drewN | apply Kd.N_drew)); exact HO116.out)); obtain ⟨ce38, hcl38, hM38, hcc38, hfr38⟩ := Kd.N_elem HX38.out z24 (4 : Int) (by omega) (by have h_ : (4 : Int) < ((y114.length : Int) : Int) := of_decide_eq_true (by first | (with_reducible assumption) | assumption); first | exact h_ | (have e_ := (yam HO116.out).1; omega) | simpa using h_); obtain ⟨ua38_0, uc38_0, rfl, ul38_0, ge38_0⟩ := k24_openF hM38; have HP38 := Kd.N_seg HX38.out (4 : Int) (by omega) (by have h_ : (4 : Int) < ((y114.length : Int) : Int) := of_decide_eq_true (by first | (with_reducible assumption) | assumption); first | exact h_ | (have e_ := (yam HO116.out).1; omega) | simpa using h_) (seg := [.int .i64 0]) (j := 5) hcl38 hcc38 (show 6 ≤ 7 from by decide) (x' := (⟨(yaa y120 4).f0, (yaa y120 4).f1, (yaa y120 4).f2, (yaa y120 4).f3, (yaa y120 4).f4, 0, (yaa y120 4).f6⟩ : S24)) (k24_mkF _ _ (⟨(yaa y120 4).f0, (yaa y120 4).f1, (yaa y120 4).f2, (yaa y120 4).f3, (yaa y120 4).f4, 0, (yaa y120 4).f6⟩ : S24) ul38_0 ge38_0) (fun _ hk => hk); have hx38_5 := hcc38 5 _ rfl; (try simp only [show (k24).sz = 7 from rfl, Nat.mul_one, Nat.add_zero] at hx38_5); (try rw [show ((4 : Int)).toNat = 4 from rfl] at hx38_5); (try simp only [Nat.reduceMul, Nat.zero_mul, Nat.zero_add, Nat.reduceAdd] at hx38_5); have hf38_5 := hfr38 5; (try simp only [show (k24).sz = 7 from rfl, Nat.mul_one, Nat.add_zero] at hf38_5); (try rw [show ((4 : Int)).toNat = 4 from rfl] at hf38_5); (try simp only [Nat.reduceMul, Nat.zero_mul, Nat.zero_add, Nat.reduceAdd] at hf38_5); clear hcl38 hcc38 hfr38 hM38) | ((with_reducible refine gate_store (t := 3) (p := 42) rfl ?_); refine store_event (t := 3) (p := 42) (v := ?vo_w39) (w1 := (w37.setCell ⟨go9, 33, none⟩ (.int .i64 0))) ?hg ?ho ?hn ?hr ?_; (case ho => rfl); (case hg => rfl); (case hn => rfl); (case hr => first | (go_simp; done) | (go_simp; rfl)); intro w39 hw; have hg : w37.grownBy w39 (some go9) := (by rw [hw]; exact HP38.2); have hp_ : Kd.N k24 24 w39 w.heap.size (fun k_ => k_ ≠ gb110) (.slice (some ⟨go9, 0, none⟩) y114.length co9) y121 := (by rw [hw, Ny121.out]; exact HP38.1); clear HP38; have n9_ := yab (Kd.R_grown HO103.out hg (fun k hk h => hk (Option.some.inj h))); clear HO103; have HO103 := n9_; clear n9_; have n0_ := yab (blk_grown (g := gb110) (o := .cells #[.slice Ao22 t101.length co22, .int .i64 t104, .int .i64 t105, .int .i64 t106, .int .i64 t107, .int .i64 t108, .int .i64 t109] 24 (0, 0)) (by (with_reducible repeat (first | refine yah ?_ _ | refine yaj ?_ | refine yai ?_ _)); exact BK110.out) hg (Kd.N_away HO116.out (fun _ hk => hk))); have n1_ := yab (hp_); have n2_ := yab ((by rw [hw]; exact yan (HB.out) GB9.out : Below w.heap.size w w39)); clear BK110; clear HO116; clear HB; have BK110 := n0_; have HO116 := n1_; have HB := n2_; clear n0_ n1_ n2_; clear hg hw hp_; have p19 : 0 ≤ (5 : Int) := (by omega); have q19 : (5 : Int) < ((y114.length : Int) : Int) := of_decide_eq_true (by first | (with_reducible assumption) | assumption); have qi19 : (5 < y114.length) = True := eq_true (by omega); obtain ⟨ce19, hcl19, hM19, hcc19, hfr19⟩ := Kd.N_elem HO116.out z24 (5 : Int) p19 q19; obtain ⟨ua19_0, uc19_0, rfl, ul19_0, ge19_0⟩ := k24_openF hM19; have hx19_0 : w39.cell? ⟨go9, (5 : Int).toNat * 7, none⟩ = some (.slice ua19_0 ((yaa y121 5).f0).length uc19_0) := hcc19 0 _ rfl; have hx19_1 : w39.cell? ⟨go9, (5 : Int).toNat * 7 + 1, none⟩ = some (.int .i64 ((yaa y121 5).f1)) := hcc19 1 _ rfl; have hx19_2 : w39.cell? ⟨go9, (5 : Int).toNat * 7 + 2, none⟩ = some (.int .i64 ((yaa y121 5).f2)) := hcc19 2 _ rfl; have hx19_3 : w39.cell? ⟨go9, (5 : Int).toNat * 7 + 3, none⟩ = some (.int .i64 ((yaa y121 5).f3)) := hcc19 3 _ rfl; have hx19_4 : w39.cell? ⟨go9, (5 : Int).toNat * 7 + 4, none⟩ = some (.int .i64 ((yaa y121 5).f4)) := hcc19 4 _ rfl; have hx19_5 : w39.cell? ⟨go9, (5 : Int).toNat * 7 + 5, none⟩ = some (.int .i64 ((yaa y121 5).f5)) := hcc19 5 _ rfl; have hx19_6 : w39.cell? ⟨go9, (5 : Int).toNat * 7 + 6, none⟩ = some (.int .i64 ((yaa y121 5).f6)) := hcc19 6 _ rfl; have hf19_0 : w39.frozen? ⟨go9, (5 : Int).toNat * 7, none⟩ = false := hfr19 0; have hf19_1 : w39.frozen? ⟨go9, (5 : Int).toNat * 7 + 1, none⟩ = false := hfr19 1; have hf19_2 : w39.frozen? ⟨go9, (5 : Int).toNat * 7 + 2, none⟩ = false := hfr19 2; have hf19_3 : w39.frozen? ⟨go9, (5 : Int).toNat * 7 + 3, none⟩ = false := hfr19 3; have hf19_4 : w39.frozen? ⟨go9, (5 : Int).toNat * 7 + 4, none⟩ = false := hfr19 4; have hf19_5 : w39.frozen? ⟨go9, (5 : Int).toNat * 7 + 5, none⟩ = false := hfr19 5; have hf19_6 : w39.frozen? ⟨go9, (5 : Int).toNat * 7 + 6, none⟩ = false := hfr19 6; clear hcl19 hcc19 hfr19 hM19; (try rw [show ((5 : Int)).toNat = 5 from rfl] at hx19_0); (try simp only [Nat.reduceMul, Nat.zero_mul, Nat.zero_add, Nat.reduceAdd] at hx19_0); (try rw [show ((5 : Int)).toNat = 5 from rfl] at hf19_0); (try simp only [Nat.reduceMul, Nat.zero_mul, Nat.zero_add, Nat.reduceAdd] at hf19_0); (try rw [show ((5 : Int)).toNat = 5 from rfl] at hx19_1); (try simp only [Nat.reduceMul, Nat.zero_mul, Nat.zero_add, Nat.reduceAdd] at hx19_1); (try rw [show ((5 : Int)).toNat = 5 from rfl] at hf19_1); (try simp only [Nat.reduceMul, Nat.zero_mul, Nat.zero_add, Nat.reduceAdd] at hf19_1); (try rw [show ((5 : Int)).toNat = 5 from rfl] at hx19_2); (try simp only [Nat.reduceMul, Nat.zero_mul, Nat.zero_add, Nat.reduceAdd] at hx19_2); (try rw [show ((5 : Int)).toNat = 5 from rfl] at hf19_2); (try simp only [Nat.reduceMul, Nat.zero_mul, Nat.zero_add, Nat.reduceAdd] at hf19_2); (try rw [show ((5 : Int)).toNat = 5 from rfl] at hx19_3); (try simp only [Nat.reduceMul, Nat.zero_mul, Nat.zero_add, Nat.reduceAdd] at hx19_3); (try rw [show ((5 : Int)).toNat = 5 from rfl] at hf19_3); (try simp only [Nat.reduceMul, Nat.zero_mul, Nat.zero_add, Nat.reduceAdd] at hf19_3); (try rw [show ((5 : Int)).toNat = 5 from rfl] at hx19_4); (try simp only [Nat.reduceMul, Nat.zero_mul, Nat.zero_add, Nat.reduceAdd] at hx19_4); (try rw [show ((5 : Int)).toNat = 5 from rfl] at hf19_4); (try simp only [Nat.reduceMul, Nat.zero_mul, Nat.zero_add, Nat.reduceAdd] at hf19_4); (try rw [show ((5 : Int)).toNat = 5 from rfl] at hx19_5); (try simp only [Nat.reduceMul, Nat.zero_mul, Nat.zero_add, Nat.reduceAdd] at hx19_5); (try rw [show ((5 : Int)).toNat = 5 from rfl] at hf19_5); (try simp only [Nat.reduceMul, Nat.zero_mul, Nat.zero_add, Nat.reduceAdd] at hf19_5); (try rw [show ((5 : Int)).toNat = 5 from rfl] at hx19_6); (try simp only [Nat.reduceMul, Nat.zero_mul, Nat.zero_add, Nat.reduceAdd] at hx19_6); (try rw [show ((5 : Int)).toNat = 5 from rfl] at hf19_6); (try simp only [Nat.reduceMul, Nat.zero_mul, Nat.zero_add, Nat.reduceAdd] at hf19_6); replace p19 := eq_true p19; replace q19 := eq_true q19; have HX40 := yab (show Kd.N k24 24 w39 w.heap.size (fun k_ => k_ ≠ gb110) (.slice (some ⟨go9, 0, none⟩) y114.length co9) y121 from (by (with_reducible repeat (first | apply Kd.N_alloc | apply Kd.N_drewN | apply Kd.N_drew)); exact HO116.out)); obtain ⟨ce40, hcl40, hM40, hcc40, hfr40⟩ := Kd.N_elem HX40.out z24 (5 : Int) (by omega) (by have h_ : (5 : Int) < ((y114.length : Int) : Int) := of_decide_eq_true (by first | (with_reducible assumption) | assumption); first | exact h_ | (have e_ := (yam HO116.out).1; omega) | simpa using h_); obtain ⟨ua40_0, uc40_0, rfl, ul40_0, ge40_0⟩ := k24_openF hM40; have HP40 := Kd.N_seg HX40.out (5 : Int) (by omega) (by have h_ : (5 : Int) < ((y114.length : Int) : Int) := of_decide_eq_true (by first | (with_reducible assumption) | assumption); first | exact h_ | (have e_ := (yam HO116.out).1; omega) | simpa using h_) (seg := [.int .i64 0]) (j := 6) hcl40 hcc40 (show 7 ≤ 7 from by decide) (x' := (⟨(yaa y121 5).f0, (yaa y121 5).f1, (yaa y121 5).f2, (yaa y121 5).f3, (yaa y121 5).f4, (yaa y121 5).f5, 0⟩ : S24)) (k24_mkF _ _ (⟨(yaa y121 5).f0, (yaa y121 5).f1, (yaa y121 5).f2, (yaa y121 5).f3, (yaa y121 5).f4, (yaa y121 5).f5, 0⟩ : S24) ul40_0 ge40_0) (fun _ hk => hk); have hx40_6 := hcc40 6 _ rfl; (try simp only [show (k24).sz = 7 from rfl, Nat.mul_one, Nat.add_zero] at hx40_6); (try rw [show ((5 : Int)).toNat = 5 from rfl] at hx40_6); (try simp only [Nat.reduceMul, Nat.zero_mul, Nat.zero_add, Nat.reduceAdd] at hx40_6); have hf40_6 := hfr40 6; (try simp only [show (k24).sz = 7 from rfl, Nat.mul_one, Nat.add_zero] at hf40_6); (try rw [show ((5 : Int)).toNat = 5 from rfl] at hf40_6); (try simp only [Nat.reduceMul, Nat.zero_mul, Nat.zero_add, Nat.reduceAdd] at hf40_6); clear hcl40 hcc40 hfr40 hM40) | ((with_reducible refine gate_store (t := 3) (p := 45) rfl ?_); refine store_event (t := 3) (p := 45) (v := ?vo_w41) (w1 := (w39.setCell ⟨go9, 41, none⟩ (.int .i64 0))) ?hg ?ho ?hn ?hr ?_; (case ho => rfl); (case hg => rfl); (case hn => rfl); (case hr => first | (go_simp; done) | (go_simp; rfl)); intro w41 hw; have hg : w39.grownBy w41 (some go9) := (by rw [hw]; exact HP40.2); have hp_ : Kd.N k24 24 w41 w.heap.size (fun k_ => k_ ≠ gb110) (.slice (some ⟨go9, 0, none⟩) y114.length co9) y122 := (by rw [hw, Ny122.out]; exact HP40.1); clear HP40; have n9_ := yab (Kd.R_grown HO103.out hg (fun k hk h => hk (Option.some.inj h))); clear HO103; have HO103 := n9_; clear n9_; have n0_ := yab (blk_grown (g := gb110) (o := .cells #[.slice Ao22 t101.length co22, .int .i64 t104, .int .i64 t105, .int .i64 t106, .int .i64 t107, .int .i64 t108, .int .i64 t109] 24 (0, 0)) (by (with_reducible repeat (first | refine yah ?_ _ | refine yaj ?_ | refine yai ?_ _)); exact BK110.out) hg (Kd.N_away HO116.out (fun _ hk => hk))); have n1_ := yab (hp_); have n2_ := yab ((by rw [hw]; exact yan (HB.out) GB9.out : Below w.heap.size w w41)); clear BK110; clear HO116; clear HB; have BK110 := n0_; have HO116 := n1_; have HB := n2_; clear n0_ n1_ n2_; clear hg hw hp_))
          (try simp only [Act.put, List.setIfInBounds_toArray, List.set_cons_zero, List.set_cons_succ])
          go_loopg [6] k (fun kq v6 w' => ∃ (x6_1 : Int), v6 = .int .i64 x6_1 ∧ Aside0 (laws_FnCfgOk.l0 kq y122 x6_1 t101 t104 t105 t106 t107 t108 t109 = some r) ∧ Aside0 (kq ≤ k) ∧ Aside0 (Kd.N k24 24 w' w.heap.size (fun k_ => k_ ≠ gb110) (.slice (some ⟨go9, 0, none⟩) y114.length co9) y122) ∧ Aside0 (Kd.R (Kd.int .u8) 5 w' w.heap.size (fun _ => True) (.slice Ao22 t101.length co22) t101) ∧ Aside0 (w'.heap[gb110]? = some (.cells #[(.slice Ao22 t101.length co22), .int .i64 t104, .int .i64 t105, .int .i64 t106, .int .i64 t107, .int .i64 t108, .int .i64 t109] 24 (0, 0))) ∧ Aside0 (Below w.heap.size w w'))
          case atStart => exact ⟨(0), (by first | rfl | (simp; done) | (simp [*]; done)), H', ⟨Nat.le_refl _⟩, ⟨by (with_reducible repeat (first | apply Kd.N_alloc | apply Kd.N_drewN | apply Kd.N_drew)); exact HO116.out⟩, ⟨by (with_reducible repeat (first | apply Kd.R_alloc | apply Kd.R_drewN | apply Kd.R_drew)); exact Kd.R_mono HO103.out (fun _ _ => trivial)⟩, ⟨by (with_reducible repeat (first | refine yah ?_ _ | refine yaj ?_ | refine yai ?_ _)); exact BK110.out⟩, ⟨by repeat (first | (with_reducible first | exact HB.out | apply yaf | apply yad | apply yag | refine yan ?_ GE110.out) | exact HB.out)⟩⟩
          case round =>
           clear H'
           try clear c1
           try clear p1
           try clear q1
           try clear hx1
           try clear qi1
           try clear hf1
           try clear c2
           try clear c2b0
           try clear c2b1
           try clear p2
           try clear c3
           try clear hx3
           try clear hf3
           try clear c4
           try clear hx4
           try clear hf4
           try clear c6
           try clear c6b0
           try clear c6b1
           try clear c6b2
           try clear c7
           try clear c8
           try clear c8b0
           try clear c8b1
           try clear c9
           try clear p9
           try clear q9
           try clear hx9
           try clear qi9
           try clear hf9
           try clear c10
           try clear c10b0
           try clear c10b1
           try clear c11
           try clear p11
           try clear q11
           try clear hx11
           try clear qi11
           try clear hf11
           try clear c12
           try clear c12b0
           try clear c12b1
           try clear c13
           try clear p13
           try clear q13
           try clear hx13
           try clear qi13
           try clear hf13
           try clear c14
           try clear c14b0
           try clear c14b1
           try clear c15
           try clear p15
           try clear q15
           try clear hx15
           try clear qi15
           try clear hf15
           try clear c16
           try clear c16b0
           try clear c16b1
           try clear c17
           try clear p17
           try clear q17
           try clear hx17
           try clear qi17
           try clear hf17
           try clear c18
           try clear c18b0
           try clear c18b1
           try clear c19
           try clear p19
           try clear q19
           try clear hx19
           try clear qi19
           try clear hf19
           try clear c30
           try clear hx30
           try clear hf30
           try clear c32
           try clear hx32
           try clear hf32
           try clear c34
           try clear hx34
           try clear hf34
           try clear c36
           try clear hx36
           try clear hf36
           try clear c38
           try clear hx38
           try clear hf38
           try clear c40
           try clear hx40
           try clear hf40
           try clear hcz23_0
           try clear hcz23_1
           try clear hcz23_2
           try clear hcz23_3
           try clear hcz23_4
           try clear hcz23_5
           try clear hcz23_6
           try clear hcz25_0
           try clear hcz25_1
           try clear hcz25_2
           try clear hcz25_3
           try clear hcz25_4
           try clear hcz25_5
           try clear hcz25_6
           try clear hcz27_0
           try clear hcz27_1
           try clear hcz27_2
           try clear hcz27_3
           try clear hcz27_4
           try clear hcz27_5
           try clear hcz27_6
           try clear hfz23_0
           try clear hfz23_1
           try clear hfz23_2
           try clear hfz23_3
           try clear hfz23_4
           try clear hfz23_5
           try clear hfz23_6
           try clear hfz25_0
           try clear hfz25_1
           try clear hfz25_2
           try clear hfz25_3
           try clear hfz25_4
           try clear hfz25_5
           try clear hfz25_6
           try clear hfz27_0
           try clear hfz27_1
           try clear hfz27_2
           try clear hfz27_3
           try clear hfz27_4
           try clear hfz27_5
           try clear hfz27_6
           try clear hx11_0
           try clear hx11_1
           try clear hx11_2
           try clear hx11_3
           try clear hx11_4
           try clear hx11_5
           try clear hx11_6
           try clear hx13_0
           try clear hx13_1
           try clear hx13_2
           try clear hx13_3
           try clear hx13_4
           try clear hx13_5
           try clear hx13_6
           try clear hx15_0
           try clear hx15_1
           try clear hx15_2
           try clear hx15_3
           try clear hx15_4
           try clear hx15_5
           try clear hx15_6
           try clear hx17_0
           try clear hx17_1
           try clear hx17_2
           try clear hx17_3
           try clear hx17_4
           try clear hx17_5
           try clear hx17_6
           try clear hx19_0
           try clear hx19_1
           try clear hx19_2
           try clear hx19_3
           try clear hx19_4
           try clear hx19_5
           try clear hx19_6
           try clear hx30_1
           try clear hx32_2
           try clear hx34_3
           try clear hx36_4
           try clear hx38_5
           try clear hx40_6
           try clear hx9_0
           try clear hx9_1
           try clear hx9_2
           try clear hx9_3
           try clear hx9_4
           try clear hx9_5
           try clear hx9_6
           try clear p11
           try clear p13
           try clear p15
           try clear p17
           try clear p19
           try clear p9
           try clear q11
           try clear q13
           try clear q15
           try clear q17
           try clear q19
           try clear q9
           obtain ⟨x6_1, rfl, HA, HK1, HO_5, HO_111000, BK110, HB⟩ := hrel
           have hl5_1 := (yam HO_5.out).1
           rw [hl5_1] at HO_5
           (try simp only [hl5_1])
           (try simp only [hl5_1] at BK110)
           (try simp only [hl5_1] at HO_111000)
           cases gk with
           | zero => exact absurd HA.out (by simp [laws_FnCfgOk.l0])
           | succ k1 =>
            have H := HA.out
            clear HA
            simp only [laws_FnCfgOk.l0] at H
            by_cases c42 : x6_1 < (y122.length : Int)
            ·
             rw [if_pos c42] at H
             have c42b0 : decide (x6_1 < (y122.length : Int)) = true := decide_eq_true c42
             clear c42
             by_cases c43 : 0 ≤ x6_1
             ·
              rw [if_pos c43] at H
              have c43b0 : decide (0 ≤ x6_1) = true := decide_eq_true c43
              clear c43
              replace H := Option.bind_eq_some_iff.mp H
              obtain ⟨t124, A440, H⟩ := H
              replace H : (if t124 = true then (some false) else (laws_FnCfgOk.l0 k1 y122 (wrap64 (x6_1 + 1)) t101 t104 t105 t106 t107 t108 t109)) = some r := H
              have A44 := yab A440
              clear A440
              by_cases c45 : t124 = true
              ·
               subst c45
               have H1 : (some false) = some r := by rw [if_pos rfl] at H; exact H
               clear H
               have H := H1
               clear H1
               rw [hrt] at H
               exact absurd H (by simp)
              ·
               replace c45 := Bool.eq_false_iff.mpr c45
               subst c45
               have H1 : (laws_FnCfgOk.l0 k1 y122 (wrap64 (x6_1 + 1)) t101 t104 t105 t106 t107 t108 t109) = some r := by rw [if_neg (show ¬ (false = true) by decide)] at H; exact H
               clear H
               have H := H1
               clear H1
               have H' := yab H
               clear H
               have p123 : 0 ≤ (x6_1 : Int) := of_decide_eq_true (by first | (with_reducible assumption) | assumption)
               have q123 : x6_1 < (y122.length : Int) := of_decide_eq_true (by first | (with_reducible assumption) | assumption)
               obtain ⟨ad123, A123_0, c123_0, e123, hx123_0, hx123_1, hx123_2, hx123_3, hx123_4, hx123_5, hx123_6, hl123_0, hi123_0⟩ := at_T24 (yam HO_5.out).2.2 x6_1 p123 q123
               obtain rfl : (⟨go9, 0, none⟩ : Addr) = ad123 := (by injection e123)
               obtain ⟨ce123, hce123, hMe123, hcc123⟩ := Kd.N_get HO_5.out z24 x6_1 p123 (by first | exact q123 | exact of_decide_eq_true (by first | (with_reducible assumption) | assumption) | (have e_ := (yam HO_5.out).1; omega))
               obtain ⟨ua123_0, uc123_0, rfl, ul123_0, ge123_0⟩ := k24_openF hMe123
               have hv123_0 := hcc123 0 _ rfl
               rw [Nat.add_zero] at hv123_0
               replace hv123_0 := Option.some.inj (hv123_0.symm.trans hx123_0)
               injection hv123_0 with hva_ hvn_ hvc_
               rw [hva_] at ge123_0
               rw [hvc_] at ul123_0
               have HL123_0 := yab (show Kd.V (Kd.int .u8) 5 _ w.heap.size _ _ ((yaa y122 x6_1).f0) from Kd.V_mk ul123_0 ge123_0)
               clear hva_ hvn_ hvc_ ge123_0 ul123_0
               clear hcc123 hce123
               (first | simp only [add_plain] at hx123_0 | simp only [add_at] at hx123_0 | simp only [Addr.add, Nat.zero_add] at hx123_0 | skip)
               (first | simp only [add_plain] at hx123_1 | simp only [add_at] at hx123_1 | simp only [Addr.add, Nat.zero_add] at hx123_1 | skip)
               (first | simp only [add_plain] at hx123_2 | simp only [add_at] at hx123_2 | simp only [Addr.add, Nat.zero_add] at hx123_2 | skip)
               (first | simp only [add_plain] at hx123_3 | simp only [add_at] at hx123_3 | simp only [Addr.add, Nat.zero_add] at hx123_3 | skip)
               (first | simp only [add_plain] at hx123_4 | simp only [add_at] at hx123_4 | simp only [Addr.add, Nat.zero_add] at hx123_4 | skip)
               (first | simp only [add_plain] at hx123_5 | simp only [add_at] at hx123_5 | simp only [Addr.add, Nat.zero_add] at hx123_5 | skip)
               (first | simp only [add_plain] at hx123_6 | simp only [add_at] at hx123_6 | simp only [Addr.add, Nat.zero_add] at hx123_6 | skip)
               have HR123_0 := yab hi123_0
               have HC123_0 := yab hl123_0
               clear hi123_0 hl123_0
               replace p123 := eq_true p123
               replace q123 := eq_true q123
               go_wp2_with (first | ((with_reducible refine gate_callee (f := 14) rfl ?_); refine goesL_ (some 56) rfl rfl Try.func14 (by kernel_rfl) rfl #[.agg #[.slice A123_0 ((yaa y122 x6_1).f0).length c123_0, .int .i64 ((yaa y122 x6_1).f1), .int .i64 ((yaa y122 x6_1).f2), .int .i64 ((yaa y122 x6_1).f3), .int .i64 ((yaa y122 x6_1).f4), .int .i64 ((yaa y122 x6_1).f5), .int .i64 ((yaa y122 x6_1).f6)]] rfl (by (try simp only [List.map_toArray, List.map_cons, List.map_nil]); first | done | rfl | (simp only [List.length_drop, List.length_take]; rfl)) ?_; (with_reducible refine (impl_CfgOk.calls _ _ ((yaa y122 x6_1).f0) ((yaa y122 x6_1).f1) ((yaa y122 x6_1).f2) ((yaa y122 x6_1).f3) ((yaa y122 x6_1).f4) ((yaa y122 x6_1).f5) ((yaa y122 x6_1).f6) false _ ?side1 ?side2 A44.out).mono ?_); (case side1 => repeat (first | exact (by repeat (first | (with_reducible exact HR123_0.out) | (with_reducible refine Kd.C_alloc ?_ _) | (with_reducible refine Kd.C_drewN ?_ _) | (with_reducible refine Kd.C_drew ?_) | exact HR123_0.out)) | (with_reducible refine Kd.C_alloc ?_ _) | (with_reducible refine Kd.C_drewN ?_ _) | (with_reducible refine Kd.C_drew ?_))); (case side2 => exact HC123_0.out); rintro e w46 ⟨rfl, hb⟩; refine ⟨_, rfl, ?_⟩; have n0_ := yab (Kd.N_below (by (with_reducible repeat (first | apply Kd.N_alloc | apply Kd.N_drewN | apply Kd.N_drew)); exact HO_5.out) hb); have n1_ := yab (Kd.R_below (by (with_reducible repeat (first | apply Kd.R_alloc | apply Kd.R_drewN | apply Kd.R_drew)); exact HO_111000.out) hb); have n2_ := yab (Kd.V_below (by (with_reducible repeat (first | apply Kd.V_alloc | apply Kd.V_drewN | apply Kd.V_drew)); exact HL123_0.out) hb); have n3_ := yab (blk_below (g := gb110) (o := .cells #[.slice Ao22 t101.length co22, .int .i64 t104, .int .i64 t105, .int .i64 t106, .int .i64 t107, .int .i64 t108, .int .i64 t109] 24 (0, 0)) (by (with_reducible repeat (first | refine yah ?_ _ | refine yaj ?_ | refine yai ?_ _)); exact BK110.out) hb); have n4_ := yab (Kd.C_below (by repeat (first | (with_reducible exact HR123_0.out) | (with_reducible refine Kd.C_alloc ?_ _) | (with_reducible refine Kd.C_drewN ?_ _) | (with_reducible refine Kd.C_drew ?_) | exact HR123_0.out)) hb); have n5_ := yab (below_step (by repeat (first | (with_reducible first | exact HB.out | apply yaf | apply yad | apply yag | refine yan ?_ GE110.out) | exact HB.out)) hb); clear HO_5; clear HO_111000; clear HL123_0; clear BK110; clear HR123_0; clear HB; have HO_5 := n0_; have HO_111000 := n1_; have HL123_0 := n2_; have BK110 := n3_; have HR123_0 := n4_; have HB := n5_; clear n0_ n1_ n2_ n3_ n4_ n5_; (try clear hb); (try clear hb2); (try clear hk); (try clear hi)))
               (try simp only [← hl5_1])
               go_roundg k1
               case measure => have := HK1.out; omega
               case rel => exact ⟨(wrap64 (x6_1 + 1)), (by first | rfl | (simp; done) | (simp [*]; done)), H', ⟨by have := HK1.out; omega⟩, ⟨by (try simp only [hl5_1]); (with_reducible repeat (first | apply Kd.N_alloc | apply Kd.N_drewN | apply Kd.N_drew)); exact HO_5.out⟩, ⟨by (try simp only [hl5_1]); (with_reducible repeat (first | apply Kd.R_alloc | apply Kd.R_drewN | apply Kd.R_drew)); exact HO_111000.out⟩, ⟨by (try simp only [hl5_1]); (with_reducible repeat (first | refine yah ?_ _ | refine yaj ?_ | refine yai ?_ _)); exact BK110.out⟩, ⟨by repeat (first | (with_reducible first | exact HB.out | apply yaf | apply yad | apply yag | refine yan ?_ GE110.out) | exact HB.out)⟩⟩
             ·
              rw [if_neg c43] at H
              exact absurd H (by simp)
            ·
             rw [if_neg c42] at H
             have c42b0 : decide (x6_1 < (y122.length : Int)) = false := decide_eq_false c42
             clear c42
             replace H := Option.bind_eq_some_iff.mp H
             obtain ⟨t125, A470, H⟩ := H
             replace H : (some t125) = some r := H
             have A47 := yab A470
             clear A470
             obtain rfl := Option.some.inj H
             have hcz48_0 : wr.cell? ⟨gb110, 0, none⟩ = some (.slice Ao22 t101.length co22) := (yae BK110.out 0).trans rfl
             have hcz48_1 : wr.cell? ⟨gb110, 1, none⟩ = some (.int .i64 t104) := (yae BK110.out 1).trans rfl
             have hcz48_2 : wr.cell? ⟨gb110, 2, none⟩ = some (.int .i64 t105) := (yae BK110.out 2).trans rfl
             have hcz48_3 : wr.cell? ⟨gb110, 3, none⟩ = some (.int .i64 t106) := (yae BK110.out 3).trans rfl
             have hcz48_4 : wr.cell? ⟨gb110, 4, none⟩ = some (.int .i64 t107) := (yae BK110.out 4).trans rfl
             have hcz48_5 : wr.cell? ⟨gb110, 5, none⟩ = some (.int .i64 t108) := (yae BK110.out 5).trans rfl
             have hcz48_6 : wr.cell? ⟨gb110, 6, none⟩ = some (.int .i64 t109) := (yae BK110.out 6).trans rfl
             have hfz48_0 := yac BK110.out 0
             have hfz48_1 := yac BK110.out 1
             have hfz48_2 := yac BK110.out 2
             have hfz48_3 := yac BK110.out 3
             have hfz48_4 := yac BK110.out 4
             have hfz48_5 := yac BK110.out 5
             have hfz48_6 := yac BK110.out 6
             go_wp2_with (first | ((with_reducible refine gate_callee (f := 14) rfl ?_); refine goesL_ (some 60) rfl rfl Try.func14 (by kernel_rfl) rfl #[.agg #[.slice Ao22 t101.length co22, .int .i64 1, .int .i64 1, .int .i64 1, .int .i64 1, .int .i64 1, .int .i64 1]] rfl (by (try simp only [List.map_toArray, List.map_cons, List.map_nil]); first | done | rfl | (simp only [List.length_drop, List.length_take]; rfl)) ?_; (with_reducible refine (impl_CfgOk.calls _ _ t101 1 1 1 1 1 1 t125 _ ?side1 ?side2 A47.out).mono ?_); (case side1 => repeat (first | exact (yal HO_111000.out).2.2 | (with_reducible refine Kd.C_alloc ?_ _) | (with_reducible refine Kd.C_drewN ?_ _) | (with_reducible refine Kd.C_drew ?_))); (case side2 => exact (yal HO_111000.out).2.1); rintro e w49 ⟨rfl, hb⟩; refine ⟨_, rfl, ?_⟩; have n0_ := yab (Kd.N_below (by (with_reducible repeat (first | apply Kd.N_alloc | apply Kd.N_drewN | apply Kd.N_drew)); exact HO_5.out) hb); have n1_ := yab (Kd.R_below (by (with_reducible repeat (first | apply Kd.R_alloc | apply Kd.R_drewN | apply Kd.R_drew)); exact HO_111000.out) hb); have n2_ := yab (blk_below (g := gb110) (o := .cells #[.slice Ao22 t101.length co22, .int .i64 t104, .int .i64 t105, .int .i64 t106, .int .i64 t107, .int .i64 t108, .int .i64 t109] 24 (0, 0)) (by (with_reducible repeat (first | refine yah ?_ _ | refine yaj ?_ | refine yai ?_ _)); exact BK110.out) hb); have n3_ := yab (below_step (by repeat (first | (with_reducible first | exact HB.out | apply yaf | apply yad | apply yag | refine yan ?_ GE110.out) | exact HB.out)) hb); clear HO_5; clear HO_111000; clear BK110; clear HB; have HO_5 := n0_; have HO_111000 := n1_; have BK110 := n2_; have HB := n3_; clear n0_ n1_ n2_ n3_; (try clear hb); (try clear hb2); (try clear hk); (try clear hi)))
             go_ret
             exact ⟨by first | rfl | (simp [errW_none, errW_some] <;> rfl) | (simp [*, errW_none, errW_some] <;> rfl), by repeat (first | (with_reducible first | exact HB.out | apply yaf | apply yad | apply yag | refine yan ?_ GE110.out) | exact HB.out)⟩
         ·
          rw [if_neg c18] at H
          exact absurd H (by simp)
        ·
         rw [if_neg c16] at H
         exact absurd H (by simp)
       ·
        rw [if_neg c14] at H
        exact absurd H (by simp)
      ·
       rw [if_neg c12] at H
       exact absurd H (by simp)
     ·
      rw [if_neg c10] at H
      exact absurd H (by simp)
    ·
     rw [if_neg c8] at H
     exact absurd H (by simp)
   ·
    replace c7 := Bool.eq_false_iff.mpr c7
    subst c7
    have H1 : ((laws_eaOk.f).bind fun t113 => (some t113)) = some r := by rw [if_neg (show ¬ (false = true) by decide)] at H; exact H
    clear H
    have H := H1
    clear H1
    replace H := Option.bind_eq_some_iff.mp H
    obtain ⟨t113, A500, H⟩ := H
    replace H : (some t113) = some r := H
    have A50 := yab A500
    clear A500
    obtain rfl := Option.some.inj H
    go_enter Try.func3, Try.ntmps3
    go_wp2_with (first | ((with_reducible refine gate_callee (f := 13) rfl ?_); refine goesL_ (some 11) rfl rfl Try.func13 (by kernel_rfl) rfl #[.slice A0 l0.length c0] rfl (by (try simp only [List.map_toArray, List.map_cons, List.map_nil]); first | done | rfl | (simp only [List.length_drop, List.length_take]; rfl)) ?_; (with_reducible refine (spec_DrawCfgOk.calls k _ _ l0 t101 t104 t105 t106 t107 t108 t109 _ ?side1 ?side2 A3.out).mono ?_); (case side1 => repeat (first | exact HR0.out | (with_reducible refine Kd.C_alloc ?_ _) | (with_reducible refine Kd.C_drewN ?_ _) | (with_reducible refine Kd.C_drew ?_))); (case side2 => exact HC0.out); rintro e w51 ⟨v102, rfl, ho0, hb⟩; refine ⟨_, rfl, ?_⟩; have n0_ := yab (Kd.R_lower ho0 (below_size (by repeat (first | (with_reducible first | exact HB.out | apply yaf | apply yad | apply yag) | exact HB.out)))); have n1_ := yab (below_step (by repeat (first | (with_reducible first | exact HB.out | apply yaf | apply yad | apply yag) | exact HB.out)) hb); clear HB; have HO103 := n0_; have HB := n1_; clear n0_ n1_; (try clear hb); (try clear hb2); (try clear hk); (try clear hi); (try clear ho0)) | ((with_reducible refine gate_dst (N := 3) rfl ?_); refine box_event ?hg (N := 3) ?hd (cs := #[.slice none 0 0, .int .i64 0, .int .i64 0, .int .i64 0, .int .i64 0, .int .i64 0, .int .i64 0]) (t := 24) ?hr ?_; (case hd => rfl); (case hg => rfl); (case hr => first | (go_simp; done) | (go_simp; rfl)); intro gb110 hg w52 hbox hb; have n0_ := yab (Kd.R_below (by (with_reducible repeat (first | apply Kd.R_alloc | apply Kd.R_drewN | apply Kd.R_drew)); exact HO103.out) hb); have n1_ := yab (below_step (by repeat (first | (with_reducible first | exact HB.out | apply yaf | apply yad | apply yag) | exact HB.out)) hb); have n2_ := yab (hbox); have n3_ := yab ((by rw [hg]; exact (below_size (by repeat (first | (with_reducible first | exact HB.out | apply yaf | apply yad | apply yag) | exact HB.out))) : w.heap.size ≤ gb110)); have n4_ := yab ((by rw [hg]; exact (below_size (by repeat (first | (with_reducible first | exact HB.out | apply yaf | apply yad | apply yag) | exact HB.out))) : w.heap.size ≤ gb110)); clear HO103; clear HB; have HO103 := n0_; have HB := n1_; have BK110 := n2_; have GW110 := n3_; have GE110 := n4_; clear n0_ n1_ n2_ n3_ n4_; clear hb hbox hg; obtain ⟨Ao53, co53, eo53⟩ := Kd.R_slice HO103.out; subst eo53; have hcz54_0 : w52.cell? ⟨gb110, 0, none⟩ = some (.slice none 0 0) := (yae BK110.out 0).trans rfl; have hcz54_1 : w52.cell? ⟨gb110, 1, none⟩ = some (.int .i64 0) := (yae BK110.out 1).trans rfl; have hcz54_2 : w52.cell? ⟨gb110, 2, none⟩ = some (.int .i64 0) := (yae BK110.out 2).trans rfl; have hcz54_3 : w52.cell? ⟨gb110, 3, none⟩ = some (.int .i64 0) := (yae BK110.out 3).trans rfl; have hcz54_4 : w52.cell? ⟨gb110, 4, none⟩ = some (.int .i64 0) := (yae BK110.out 4).trans rfl; have hcz54_5 : w52.cell? ⟨gb110, 5, none⟩ = some (.int .i64 0) := (yae BK110.out 5).trans rfl; have hcz54_6 : w52.cell? ⟨gb110, 6, none⟩ = some (.int .i64 0) := (yae BK110.out 6).trans rfl; have hfz54_0 := yac BK110.out 0; have hfz54_1 := yac BK110.out 1; have hfz54_2 := yac BK110.out 2; have hfz54_3 := yac BK110.out 3; have hfz54_4 := yac BK110.out 4; have hfz54_5 := yac BK110.out 5; have hfz54_6 := yac BK110.out 6) | ((with_reducible refine gate_callee (f := 14) rfl ?_); refine goesL_ (some 13) rfl rfl Try.func14 (by kernel_rfl) rfl #[.agg #[.slice Ao53 t101.length co53, .int .i64 t104, .int .i64 t105, .int .i64 t106, .int .i64 t107, .int .i64 t108, .int .i64 t109]] rfl (by (try simp only [List.map_toArray, List.map_cons, List.map_nil]); first | done | rfl | (simp only [List.length_drop, List.length_take]; rfl)) ?_; (with_reducible refine (impl_CfgOk.calls _ _ t101 t104 t105 t106 t107 t108 t109 false _ ?side1 ?side2 A4.out).mono ?_); (case side1 => refine (yal (e := 5) (base := w.heap.size) (ok := fun k_ => True) (n := t101.length) (c := co53) ?_).2.2; exact (by (with_reducible repeat (first | apply Kd.R_alloc | apply Kd.R_drewN | apply Kd.R_drew)); exact (Kd.R_mono (yak (p := ⟨gb110, 6, none⟩) (yak (p := ⟨gb110, 5, none⟩) (yak (p := ⟨gb110, 4, none⟩) (yak (p := ⟨gb110, 3, none⟩) (yak (p := ⟨gb110, 2, none⟩) (yak (p := ⟨gb110, 1, none⟩) (yak (p := ⟨gb110, 0, none⟩) (yao HO103.out BK110.out (by decide)) (fun _ hk => hk.2) (.slice Ao53 t101.length co53)) (fun _ hk => hk.2) (.int .i64 t104)) (fun _ hk => hk.2) (.int .i64 t105)) (fun _ hk => hk.2) (.int .i64 t106)) (fun _ hk => hk.2) (.int .i64 t107)) (fun _ hk => hk.2) (.int .i64 t108)) (fun _ hk => hk.2) (.int .i64 t109)) (fun _ h_ => h_.1)))); (case side2 => exact (yal HO103.out).2.1); rintro e w55 ⟨rfl, hb⟩; refine ⟨_, rfl, ?_⟩; have n0_ := yab (Kd.R_below (by (with_reducible repeat (first | apply Kd.R_alloc | apply Kd.R_drewN | apply Kd.R_drew)); exact (Kd.R_mono (yak (p := ⟨gb110, 6, none⟩) (yak (p := ⟨gb110, 5, none⟩) (yak (p := ⟨gb110, 4, none⟩) (yak (p := ⟨gb110, 3, none⟩) (yak (p := ⟨gb110, 2, none⟩) (yak (p := ⟨gb110, 1, none⟩) (yak (p := ⟨gb110, 0, none⟩) (yao HO103.out BK110.out (by decide)) (fun _ hk => hk.2) (.slice Ao53 t101.length co53)) (fun _ hk => hk.2) (.int .i64 t104)) (fun _ hk => hk.2) (.int .i64 t105)) (fun _ hk => hk.2) (.int .i64 t106)) (fun _ hk => hk.2) (.int .i64 t107)) (fun _ hk => hk.2) (.int .i64 t108)) (fun _ hk => hk.2) (.int .i64 t109)) (fun _ h_ => h_.1))) hb); have n1_ := yab (blk_below (g := gb110) (o := .cells #[.slice Ao53 t101.length co53, .int .i64 t104, .int .i64 t105, .int .i64 t106, .int .i64 t107, .int .i64 t108, .int .i64 t109] 24 (0, 0)) (by (with_reducible repeat (first | refine yah ?_ _ | refine yaj ?_ | refine yai ?_ _)); refine blk_put (cs := #[.slice Ao53 t101.length co53, .int .i64 t104, .int .i64 t105, .int .i64 t106, .int .i64 t107, .int .i64 t108, .int .i64 0]) ?_ 6 _ rfl; (with_reducible repeat (first | refine yah ?_ _ | refine yaj ?_ | refine yai ?_ _)); refine blk_put (cs := #[.slice Ao53 t101.length co53, .int .i64 t104, .int .i64 t105, .int .i64 t106, .int .i64 t107, .int .i64 0, .int .i64 0]) ?_ 5 _ rfl; (with_reducible repeat (first | refine yah ?_ _ | refine yaj ?_ | refine yai ?_ _)); refine blk_put (cs := #[.slice Ao53 t101.length co53, .int .i64 t104, .int .i64 t105, .int .i64 t106, .int .i64 0, .int .i64 0, .int .i64 0]) ?_ 4 _ rfl; (with_reducible repeat (first | refine yah ?_ _ | refine yaj ?_ | refine yai ?_ _)); refine blk_put (cs := #[.slice Ao53 t101.length co53, .int .i64 t104, .int .i64 t105, .int .i64 0, .int .i64 0, .int .i64 0, .int .i64 0]) ?_ 3 _ rfl; (with_reducible repeat (first | refine yah ?_ _ | refine yaj ?_ | refine yai ?_ _)); refine blk_put (cs := #[.slice Ao53 t101.length co53, .int .i64 t104, .int .i64 0, .int .i64 0, .int .i64 0, .int .i64 0, .int .i64 0]) ?_ 2 _ rfl; (with_reducible repeat (first | refine yah ?_ _ | refine yaj ?_ | refine yai ?_ _)); refine blk_put (cs := #[.slice Ao53 t101.length co53, .int .i64 0, .int .i64 0, .int .i64 0, .int .i64 0, .int .i64 0, .int .i64 0]) ?_ 1 _ rfl; (with_reducible repeat (first | refine yah ?_ _ | refine yaj ?_ | refine yai ?_ _)); refine blk_put (cs := #[.slice none 0 0, .int .i64 0, .int .i64 0, .int .i64 0, .int .i64 0, .int .i64 0, .int .i64 0]) ?_ 0 _ rfl; (with_reducible repeat (first | refine yah ?_ _ | refine yaj ?_ | refine yai ?_ _)); exact BK110.out) hb); have n2_ := yab (below_step (by repeat (first | (with_reducible first | exact HB.out | apply yaf | apply yad | apply yag | refine yan ?_ GE110.out) | exact HB.out)) hb); clear HO103; clear BK110; clear HB; have HO103 := n0_; have BK110 := n1_; have HB := n2_; clear n0_ n1_ n2_; (try clear hb); (try clear hb2); (try clear hk); (try clear hi); have hcz56_0 : w55.cell? ⟨gb110, 0, none⟩ = some (.slice Ao53 t101.length co53) := (yae BK110.out 0).trans rfl; have hcz56_1 : w55.cell? ⟨gb110, 1, none⟩ = some (.int .i64 t104) := (yae BK110.out 1).trans rfl; have hcz56_2 : w55.cell? ⟨gb110, 2, none⟩ = some (.int .i64 t105) := (yae BK110.out 2).trans rfl; have hcz56_3 : w55.cell? ⟨gb110, 3, none⟩ = some (.int .i64 t106) := (yae BK110.out 3).trans rfl; have hcz56_4 : w55.cell? ⟨gb110, 4, none⟩ = some (.int .i64 t107) := (yae BK110.out 4).trans rfl; have hcz56_5 : w55.cell? ⟨gb110, 5, none⟩ = some (.int .i64 t108) := (yae BK110.out 5).trans rfl; have hcz56_6 : w55.cell? ⟨gb110, 6, none⟩ = some (.int .i64 t109) := (yae BK110.out 6).trans rfl; have hfz56_0 := yac BK110.out 0; have hfz56_1 := yac BK110.out 1; have hfz56_2 := yac BK110.out 2; have hfz56_3 := yac BK110.out 3; have hfz56_4 := yac BK110.out 4; have hfz56_5 := yac BK110.out 5; have hfz56_6 := yac BK110.out 6) | ((with_reducible refine gate_callee (f := 15) rfl ?_); refine goesL_ (some 16) rfl rfl Try.func15 (by kernel_rfl) rfl #[.agg #[.slice Ao53 t101.length co53, .int .i64 t104, .int .i64 t105, .int .i64 t106, .int .i64 t107, .int .i64 t108, .int .i64 t109]] rfl (by (try simp only [List.map_toArray, List.map_cons, List.map_nil]); first | done | rfl | (simp only [List.length_drop, List.length_take]; rfl)) ?_; (with_reducible refine (spec_CfgOk.calls _ _ t101 t104 t105 t106 t107 t108 t109 t112 _ ?side1 ?side2 A5.out).mono ?_); (case side1 => repeat (first | exact (yal HO103.out).2.2 | (with_reducible refine Kd.C_alloc ?_ _) | (with_reducible refine Kd.C_drewN ?_ _) | (with_reducible refine Kd.C_drew ?_))); (case side2 => exact (yal HO103.out).2.1); rintro e w57 ⟨rfl, hb⟩; refine ⟨_, rfl, ?_⟩; have n0_ := yab (Kd.R_below (by (with_reducible repeat (first | apply Kd.R_alloc | apply Kd.R_drewN | apply Kd.R_drew)); exact HO103.out) hb); have n1_ := yab (blk_below (g := gb110) (o := .cells #[.slice Ao53 t101.length co53, .int .i64 t104, .int .i64 t105, .int .i64 t106, .int .i64 t107, .int .i64 t108, .int .i64 t109] 24 (0, 0)) (by (with_reducible repeat (first | refine yah ?_ _ | refine yaj ?_ | refine yai ?_ _)); exact BK110.out) hb); have n2_ := yab (below_step (by repeat (first | (with_reducible first | exact HB.out | apply yaf | apply yad | apply yag | refine yan ?_ GE110.out) | exact HB.out)) hb); clear HO103; clear BK110; clear HB; have HO103 := n0_; have BK110 := n1_; have HB := n2_; clear n0_ n1_ n2_; (try clear hb); (try clear hb2); (try clear hk); (try clear hi)) | ((with_reducible refine gate_callee (f := 16) rfl ?_); refine goesL_ (some 20) rfl rfl Try.func16 (by kernel_rfl) rfl #[] rfl (by (try simp only [List.map_toArray, List.map_cons, List.map_nil]); first | done | rfl | (simp only [List.length_drop, List.length_take]; rfl)) ?_; (with_reducible refine (laws_eaOk.calls  t113 _ A50.out).mono ?_); rintro e w58 ⟨rfl, hb⟩; refine ⟨_, rfl, ?_⟩; have n0_ := yab (Kd.R_below (by (with_reducible repeat (first | apply Kd.R_alloc | apply Kd.R_drewN | apply Kd.R_drew)); exact HO103.out) hb); have n1_ := yab (blk_below (g := gb110) (o := .cells #[.slice Ao53 t101.length co53, .int .i64 t104, .int .i64 t105, .int .i64 t106, .int .i64 t107, .int .i64 t108, .int .i64 t109] 24 (0, 0)) (by (with_reducible repeat (first | refine yah ?_ _ | refine yaj ?_ | refine yai ?_ _)); exact BK110.out) hb); have n2_ := yab (below_step (by repeat (first | (with_reducible first | exact HB.out | apply yaf | apply yad | apply yag | refine yan ?_ GE110.out) | exact HB.out)) hb); clear HO103; clear BK110; clear HB; have HO103 := n0_; have BK110 := n1_; have HB := n2_; clear n0_ n1_ n2_; (try clear hb); (try clear hb2); (try clear hk); (try clear hi)))
    go_ret
    exact ⟨by first | rfl | (simp [errW_none, errW_some] <;> rfl) | (simp [*, errW_none, errW_some] <;> rfl), by repeat (first | (with_reducible first | exact HB.out | apply yaf | apply yad | apply yag | refine yan ?_ GE110.out) | exact HB.out)⟩

/-- THE ONE PURE STATEMENT of laws_FnCfgOk: yours. -/
def laws_FnCfgOk.Pure : Prop := ∀ (l0 : List Int), l0.length ≤ maxLen → l0.length * 1 ≤ 140737488351232 → (∀ x ∈ l0, (Lit.int .u8 x).wf = true) → ∃ k, laws_FnCfgOk.f k l0 = some true
theorem laws_FnCfgOk.walk (P : laws_FnCfgOk.Pure) (a0 : Option Addr) (len0 cap0 : Nat) (z0 : List Int) (w : World) (w0 : (a0 = none ∧ len0 = 0 ∧ cap0 = 0 ∧ z0 = []) ∨ ∃ x, a0 = some x ∧ len0 ≤ cap0 ∧ cap0 ≤ maxLen ∧ z0.length = cap0 ∧ (∀ i, i < z0.length → w.cell? (x.add i) = some (.int .u8 (z0.getD i 0))) ∧ ∀ n ∈ z0, (Lit.int .u8 n).wf = true) (y0 : len0 * 1 ≤ 140737488351232) :
  Calls Try.prog 3 #[.slice a0 len0 cap0] w fun e w' => e = .returned (.bool true) ∧ Below w.heap.size w w' := by
 obtain ⟨l0, rfl, hr0, hm0, hw0, hc0⟩ := ReadsInt.ofRowC w0
 obtain ⟨k, h⟩ := P l0 hm0 y0 hw0
 refine (laws_FnCfgOk.calls k _ _ l0 true w (Kd.C_of_reads (d := (0 : Int)) (h1 := fun _ => rfl) hr0) hc0 h rfl).mono ?_
 rintro e w' ⟨rfl, hd⟩
 exact ⟨rfl, hd⟩

end Go.Proofs.Ytgpkkkmapgnhkaa.X

namespace Go.Proofs.Ytgpkkkmapgnhkaa.Pl
open Go.RowKit Go.Proofs.YtgpkkkmapgnhkaaW.PrintWords

theorem wrap_id {x : Int} (h0 : -9223372036854775808 ≤ x) (h1 : x ≤ 9223372036854775807) : wrap64 x = x := by
  unfold wrap64; omega
theorem wrap_succ {i : Nat} (h : i < 9223372036854775807) : wrap64 ((i : Int) + 1) = ((i + 1 : Nat) : Int) := by
  unfold wrap64; omega

/-- From a round on: with a round more. -/
theorem ev_succ {α : Type} {g : Nat → Option α} {r : α} (h : Ev (fun k => g (k + 1)) r) : Ev g r := by
  obtain ⟨K, h⟩ := h
  refine ⟨K + 1, fun n hn => ?_⟩
  obtain ⟨m, rfl⟩ : ∃ m, n = m + 1 := ⟨n - 1, by omega⟩
  exact h m (by omega)

/-- A loop whose counter goes up to n: at each round it answers, or goes on. -/
theorem ev_up {α σ : Type} (n : Nat) (g : Nat → Int → σ → Option α) (Inv : Nat → σ → Prop) (post : α → Prop)
    (hstep : ∀ i s, i < n → Inv i s → (∃ s', Inv (i + 1) s' ∧ ∀ r, Ev (fun k => g k ((i + 1 : Nat) : Int) s') r → Ev (fun k => g k (i : Int) s) r) ∨ ∃ r, Ev (fun k => g k (i : Int) s) r ∧ post r)
    (hend : ∀ s, Inv n s → ∃ r, Ev (fun k => g k (n : Int) s) r ∧ post r) :
    ∀ i s, i ≤ n → Inv i s → ∃ r, Ev (fun k => g k (i : Int) s) r ∧ post r := by
  have key : ∀ d i s, i + d = n → Inv i s → ∃ r, Ev (fun k => g k (i : Int) s) r ∧ post r := by
    intro d
    induction d with
    | zero => intro i s hi hs; have : i = n := by omega
              subst this; exact hend s hs
    | succ d ih =>
      intro i s hi hs
      rcases hstep i s (by omega) hs with ⟨s', hs', hr⟩ | h
      · obtain ⟨r, h, hp⟩ := ih (i + 1) s' (by omega) hs'
        exact ⟨r, hr r h, hp⟩
      · exact h
  intro i s hi hs
  exact key (n - i) i s (by omega) hs

/-- Any loop with a measure. -/
theorem ev_down {α σ : Type} (g : Nat → σ → Option α) (Inv : σ → Prop) (m : σ → Nat) (post : α → Prop)
    (hstep : ∀ s, Inv s → (∃ s', Inv s' ∧ m s' < m s ∧ ∀ r, Ev (fun k => g k s') r → Ev (fun k => g k s) r) ∨ ∃ r, Ev (fun k => g k s) r ∧ post r) :
    ∀ s, Inv s → ∃ r, Ev (fun k => g k s) r ∧ post r := by
  have key : ∀ d s, m s < d → Inv s → ∃ r, Ev (fun k => g k s) r ∧ post r := by
    intro d
    induction d with
    | zero => intro s h; omega
    | succ d ih =>
      intro s hd hs
      rcases hstep s hs with ⟨s', hs', hm, hr⟩ | h
      · obtain ⟨r, h, hp⟩ := ih s' (by omega) hs'
        exact ⟨r, hr r h, hp⟩
      · exact h
  intro s hs
  exact key (m s + 1) s (by omega) hs

theorem rd_nat (l : List Int) (i : Nat) : rd l (i : Int) = l.getD i 0 := rfl
theorem set_take_next {α : Type} (l m : List α) (d : α) (i : Nat) (h : i < l.length) (hm : m.length = l.length) (ht : m.take i = l.take i) : (m.set i (l.getD i d)).take (i + 1) = l.take (i + 1) := by
  rw [List.take_succ_eq_append_getElem (by simpa [hm] using h), List.take_succ_eq_append_getElem h, List.take_set_of_le (Nat.le_refl i), ht]
  simp [List.getD_eq_getElem?_getD, h]

theorem getD_mem {α : Type} (l : List α) (z : α) (i : Nat) (h : i < l.length) : l.getD i z ∈ l := by
  rw [List.getD_eq_getElem?_getD, List.getElem?_eq_getElem h]; exact List.getElem_mem h

/-- A loop that fills a new row, element by element. -/
theorem ev_map {α β : Type} (c : α → β) (za : α) (zb : β) (l : List α) (g : Nat → Int → List β → Option (List β)) (hl : l.length ≤ 1048576)
    (hstep : ∀ i s, i < l.length → s.length = l.length → ∀ r, Ev (fun k => g k ((i + 1 : Nat) : Int) (s.set i (c (l.getD i za)))) r → Ev (fun k => g k (i : Int) s) r)
    (hend : ∀ k s, s.length = l.length → g (k + 1) (l.length : Int) s = some s) : Ev (fun k => g k 0 (List.replicate l.length zb)) (l.map c) := by
  obtain ⟨r, h, rfl⟩ := ev_up (α := List β) l.length (fun k i s => g k i s) (fun i s => s.length = l.length ∧ s.take i = (l.map c).take i) (fun r => r = l.map c) (by
    rintro i s hi ⟨h1, h2⟩
    refine Or.inl ⟨s.set i (c (l.getD i za)), ⟨by simpa using h1, ?_⟩, hstep i s hi h1⟩
    have := set_take_next (l.map c) s (c za) i (by simpa using hi) (by simpa using h1) h2
    have e : (l.map c).getD i (c za) = c (l.getD i za) := by
      simp [List.getD_eq_getElem?_getD, List.getElem?_eq_getElem hi]
    rw [e] at this
    exact this) (by
    rintro s ⟨h1, h2⟩
    refine ⟨l.map c, ev_succ ⟨0, fun k _ => ?_⟩, rfl⟩
    rw [List.take_of_length_le (by omega), List.take_of_length_le (by simp)] at h2
    show g (k + 1) (l.length : Int) s = _
    rw [hend k s h1, h2]) 0 (List.replicate l.length zb) (by omega) ⟨by simp, by simp⟩
  exact h

/-- A loop that says yes at its end, if it goes on at each round. -/
theorem ev_all (n : Nat) (g : Nat → Int → Option Bool) (hstep : ∀ i, i < n → Ev (fun k => g k ((i + 1 : Nat) : Int)) true → Ev (fun k => g k (i : Int)) true) (hend : ∀ k, g (k + 1) (n : Int) = some true) : Ev (fun k => g k 0) true := by
  have : ∀ d j, j + d = n → Ev (fun k => g k (j : Int)) true := by
    intro d
    induction d with
    | zero => intro j hj; have : j = n := by omega
              subst this; exact ev_succ ⟨0, fun k _ => hend k⟩
    | succ d ih => intro j hj; exact hstep j (by omega) (ih (j + 1) (by omega))
  exact this n 0 (by omega)

/-- A loop that takes away from a number, and stops below nought. -/
theorem ev_sum {α : Type} (l : List α) (z : α) (P : α → Prop) (g : Nat → Int → Int → Option Int)
    (hstep : ∀ (i : Nat) (x : Int), i < l.length → 0 ≤ x → x ≤ 1048576 → (∃ x', 0 ≤ x' ∧ x' ≤ 1048576 ∧ P (l.getD i z) ∧ ∀ r, Ev (fun k => g k ((i + 1 : Nat) : Int) x') r → Ev (fun k => g k (i : Int) x) r) ∨ Ev (fun k => g k (i : Int) x) (-1))
    (hend : ∀ k x, g (k + 1) (l.length : Int) x = some x) (x : Int) (h0 : 0 ≤ x) (h1 : x ≤ 1048576) : ∃ r, Ev (fun k => g k 0 x) r ∧ r ≤ 1048576 ∧ (0 ≤ r → ∀ y ∈ l, P y) := by
  obtain ⟨r, h, hp⟩ := ev_up (α := Int) l.length (fun k i s => g k i s) (fun i s => 0 ≤ s ∧ s ≤ 1048576 ∧ ∀ j, j < i → P (l.getD j z)) (fun r => r ≤ 1048576 ∧ (0 ≤ r → ∀ y ∈ l, P y)) (by
    rintro i s hi ⟨h1, h2, h3⟩
    rcases hstep i s hi h1 h2 with ⟨x', a, b, c, d⟩ | h
    · refine Or.inl ⟨x', ⟨a, b, fun j hj => ?_⟩, d⟩
      rcases Nat.lt_or_ge j i with hj' | hj'
      · exact h3 j hj'
      · have : j = i := by omega
        subst this; exact c
    · exact Or.inr ⟨-1, h, by omega, fun h => absurd h (by omega)⟩) (by
    rintro s ⟨h1, h2, h3⟩
    refine ⟨s, ev_succ ⟨0, fun k _ => hend k s⟩, h2, fun _ y hy => ?_⟩
    obtain ⟨j, hj, rfl⟩ := List.getElem_of_mem hy
    have := h3 j hj
    rwa [List.getD_eq_getElem?_getD, List.getElem?_eq_getElem hj] at this) 0 x (by omega) ⟨h0, h1, fun j hj => absurd hj (by omega)⟩
  exact ⟨r, h, hp⟩

/-- A loop that asks something at each place, and stops with a no. -/
theorem ev_allR (n : Nat) (p : Nat → Bool) (b : Bool) (g : Nat → Int → Option Bool)
    (hyes : ∀ i, i < n → p i = true → ∀ r, Ev (fun k => g k ((i + 1 : Nat) : Int)) r → Ev (fun k => g k (i : Int)) r)
    (hno : ∀ i, i < n → p i = false → Ev (fun k => g k (i : Int)) false)
    (hend : Ev (fun k => g k (n : Int)) b) : Ev (fun k => g k 0) ((List.range n).all p && b) := by
  have key : ∀ d i, i + d = n → Ev (fun k => g k (i : Int)) (((List.range' i d).all p) && b) := by
    intro d
    induction d with
    | zero => intro i hi; have : i = n := by omega
              subst this; simpa using hend
    | succ d ih =>
      intro i hi
      have := ih (i + 1) (by omega)
      rw [List.range'_succ, List.all_cons]
      cases hp : p i with
      | true => simpa using hyes i (by omega) hp _ this
      | false => simpa using hno i (by omega) hp
  have := key n 0 (by omega)
  rwa [← List.range_eq_range'] at this

/-- From a number of rounds on, through a step. -/
theorem Ev.at_ {α : Type} {g : Nat → Option α} {r : α} (h : Ev g r) : ∃ K, ∀ k, K ≤ k → g k = some r := h
theorem ev_const {α : Type} {x : Option α} {r : α} (h : x = some r) : Ev (fun _ => x) r := ⟨0, fun _ _ => h⟩

/-! ### What a told function comes to, from some number of rounds on -/
/-- It answers, and the answer is so. -/
def Tot {α : Type} (g : Nat → Option α) (post : α → Prop) : Prop := ∃ r, Ev g r ∧ post r
theorem Tot.ret {α : Type} {post : α → Prop} {r : α} (h : post r) : Tot (fun _ => some r) post := ⟨r, Ev.now r, h⟩
theorem Tot.mono {α : Type} {g : Nat → Option α} {P Q : α → Prop} (h : Tot g P) (hi : ∀ r, P r → Q r) : Tot g Q := by
  obtain ⟨r, h, hp⟩ := h
  exact ⟨r, h, hi r hp⟩
theorem Tot.bind {α β : Type} {g : Nat → Option α} {f : Nat → α → Option β} {P : α → Prop} {Q : β → Prop} (h : Tot g P) (hf : ∀ a, P a → Tot (fun k => f k a) Q) : Tot (fun k => (g k).bind (f k)) Q := by
  obtain ⟨a, h, hp⟩ := h
  obtain ⟨r, h2, hq⟩ := hf a hp
  exact ⟨r, Ev.bind h h2, hq⟩
theorem Tot.some_bind {α β : Type} {f : Nat → α → Option β} {Q : β → Prop} {a : α} (hf : Tot (fun k => f k a) Q) : Tot (fun k => (some a).bind (f k)) Q := hf
theorem Tot.ite {α : Type} {c : Prop} [Decidable c] {f g : Nat → Option α} {Q : α → Prop} (h1 : c → Tot f Q) (h2 : ¬ c → Tot g Q) : Tot (fun k => if c then f k else g k) Q := by
  by_cases h : c
  · simpa [h] using h1 h
  · simpa [h] using h2 h
theorem Tot.pos {α : Type} {c : Prop} [Decidable c] {f g : Nat → Option α} {Q : α → Prop} (h : c) (h1 : Tot f Q) : Tot (fun k => if c then f k else g k) Q := by simpa [h] using h1
theorem Tot.neg {α : Type} {c : Prop} [Decidable c] {f g : Nat → Option α} {Q : α → Prop} (h : ¬ c) (h1 : Tot g Q) : Tot (fun k => if c then f k else g k) Q := by simpa [h] using h1
theorem Tot.succ {α : Type} {g : Nat → Option α} {Q : α → Prop} (h : Tot (fun k => g (k + 1)) Q) : Tot g Q := by
  obtain ⟨r, h, hp⟩ := h
  exact ⟨r, ev_succ h, hp⟩
theorem Tot.of_ev {α : Type} {g : Nat → Option α} {r : α} (h : Ev g r) : Tot g (fun x => x = r) := ⟨r, h, rfl⟩
theorem Tot.of_eq {α : Type} {x : Option α} {r : α} (h : x = some r) : Tot (fun _ => x) (fun y => y = r) := ⟨r, ev_const h, rfl⟩
theorem Tot.ev {α : Type} {g : Nat → Option α} {P : α → Prop} (h : Tot g P) : ∃ r, Ev g r ∧ P r := h
/-- A loop, or a call of itself: what is smaller comes to its answer. -/
theorem tot_ind {α σ : Type} (g : Nat → σ → Option α) (Inv : σ → Prop) (m : σ → Nat) (post : α → Prop)
    (h : ∀ s, Inv s → (∀ s', Inv s' → m s' < m s → Tot (fun k => g k s') post) → Tot (fun k => g k s) post) : ∀ s, Inv s → Tot (fun k => g k s) post := by
  have key : ∀ d s, m s < d → Inv s → Tot (fun k => g k s) post := by
    intro d
    induction d with
    | zero => intro s h; omega
    | succ d ih => intro s hd hs; exact h s hs (fun s' hs' hm => ih s' (by omega) hs')
  intro s hs
  exact key (m s + 1) s (by omega) hs
theorem Tot.rounds {g : Nat → Option Bool} (h : Tot g (fun b => b = true)) : ∃ k, g k = some true := by
  obtain ⟨r, h, rfl⟩ := h
  exact h.rounds

end Go.Proofs.Ytgpkkkmapgnhkaa.Pl
