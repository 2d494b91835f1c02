/- Lemmas and contracts for the law FnExactOpsDo, part 6: of the program's functions, and over data alone. No condition. -/
import Derived.Test.YtoifpgkfpdeglaaMFnExactOpsDo2
import Derived.Test.YtoifpgkfpdeglaaMFnExactOpsDo5
import Derived.Test.YtoifpgkfpdeglaaMFnExactOpsDo4
namespace Go.Proofs.Ytoifpgkfpdeglaa.X
open Go.RowKit Go.Proofs.YtoifpgkfpdeglaaW.PrintWords Go.Proofs.YtoifpgkfpdeglaaW.PrintLast Go.Proofs.YtoifpgkfpdeglaaW.PrintMore
attribute [local go_sem] max2_int min2_int max_two min_two max_three min_three max_four min_four
set_option linter.unusedVariables false
set_option linter.unusedSimpArgs false

open Go.Proofs.YtoifpgkfpdeglaaW.PrintWords.Aside0 renaming mk → yaa
open Go.Proofs.YtoifpgkfpdeglaaW.PrintWords renaming pw_below_drewN → yab, blk_below → yae, below_drew1 → yaf, below_alloc → yah, below_set → yam, below_step → yao, gate_callee → yap, below_size → yau, Aside0 → yax
open Go.Proofs.YtoifpgkfpdeglaaW.PrintWords.Kd renaming R_below → yac, R_far → yad, R_mono → yag, R_alloc → yai, R_drewN → yaj, R_drew → yak, R_reads' → yal, R_types → yan, C_alloc → yaq, C_drewN → yar, C_drew → yas, R_elder' → yat, R_new' → yav, R_base → yaw

/-! ### laws_FnExactOpsDo: function 9 -/
mutual
def laws_FnExactOpsDo.j0 : Nat → List (S45) → Bool → List (S27) → Bool → Bool → Int → Int → List (S94) → Int → Int → List (S36) → Int → Int → List (S36) → Int → Int → List (S36) → Option (Bool)
 | 0, _, _, _, _, _, _, _, _, _, _, _, _, _, _, _, _, _ => none
 | k + 1, x1, x7, x9, x11, x53, x102000, x102001, x102002, x119000, x119001, x119002, x125000, x125001, x125002, x135000, x135001, x135002 => if x53 = true then (some false) else ((laws_toRasRaster.f k x102000 x102001 x102002).bind fun bt136 => ((laws_eqRasRaster.f k x125000 x125001 x125002 bt136.1 bt136.2.1 bt136.2.2).bind fun t141 => (if t141 = true then ((laws_toOpOpS.f k x1).bind fun t142 => ((laws_eqOpOpS.f k x9 t142).bind fun t145 => (if t145 = true then ((laws_markRasRaster.f k x125000 x125001 x125002 1).bind fun bt146 => ((laws_markOpOpS.f k x9 bt146.1).bind fun bt148 => (if bt148.1 < 0 then (laws_FnExactOpsDo.j1 k x1 x7 true x102000 x102001 x102002 x119000 x119001 x119002 x135000 x135001 x135002) else ((laws_eqRasRaster.f k x135000 x135001 x135002 x119000 x119001 x119002).bind fun t150 => (if t150 = true then (laws_FnExactOpsDo.j1 k x1 x7 (x11 != x7) x102000 x102001 x102002 x119000 x119001 x119002 x135000 x135001 x135002) else (laws_FnExactOpsDo.j1 k x1 x7 true x102000 x102001 x102002 x119000 x119001 x119002 x135000 x135001 x135002)))))) else (some false)))) else (some false))))
def laws_FnExactOpsDo.j1 : Nat → List (S45) → Bool → Bool → Int → Int → List (S94) → Int → Int → List (S36) → Int → Int → List (S36) → Option (Bool)
 | 0, _, _, _, _, _, _, _, _, _, _, _, _ => none
 | k + 1, x1, x7, x82, x102000, x102001, x102002, x119000, x119001, x119002, x135000, x135001, x135002 => if x82 = true then (some false) else ((laws_markRasRaster.f k x135000 x135001 x135002 1).bind fun bt151 => ((laws_heldRasRaster.f k x135000 x135001 bt151.2 1).bind fun t153 => (if t153 < 0 then (some false) else (if t153 = bt151.1 then ((laws_toRasRaster.f k x102000 x102001 x102002).bind fun bt154 => ((laws_toOpOpS.f k x1).bind fun t159 => ((impl_OpsDo.f bt154.1 bt154.2.1 bt154.2.2 t159).bind fun bt162 => ((laws_eqRasRaster.f k bt162.1 bt162.2.1 bt162.2.2.1 x119000 x119001 x119002).bind fun t169 => (if t169 = true then (laws_FnExactOpsDo.j2 k bt151.1 (bt162.2.2.2 != x7) x135000 x135001 bt151.2) else (laws_FnExactOpsDo.j2 k bt151.1 true x135000 x135001 bt151.2)))))) else (some false)))))
def laws_FnExactOpsDo.j2 : Nat → Int → Bool → Int → Int → List (S36) → Option (Bool)
 | 0, _, _, _, _, _ => none
 | k + 1, x13, x110, x135000, x135001, x135002 => if x110 = true then (some false) else ((laws_heldRasRaster.f k x135000 x135001 x135002 1).bind fun t170 => (if t170 < 0 then (some false) else (if t170 = x13 then (some true) else (some false))))
end
def laws_FnExactOpsDo.f (k : Nat) (a0_0 : Int) (a0_1 : Int) (l0_2 : List (S94)) (l1 : List (S45)) : Option (Bool) := (laws_szRasRaster.f a0_0 a0_1 l0_2 1048576).bind fun t102 => (if t102 < 0 then (some true) else ((laws_szOpOpS.f l1 t102).bind fun t103 => (if t103 < 0 then (some true) else ((laws_toRasRaster.f k a0_0 a0_1 l0_2).bind fun bt104 => ((laws_toOpOpS.f k l1).bind fun t109 => ((spec_OpsDo.f k bt104.1 bt104.2.1 bt104.2.2 t109).bind fun bt112 => ((laws_toRasRaster.f k a0_0 a0_1 l0_2).bind fun bt119 => ((laws_toOpOpS.f k l1).bind fun t125 => ((impl_OpsDo.f bt119.1 bt119.2.1 bt119.2.2 t125).bind fun bt128 => ((laws_eqRasRaster.f k bt128.1 bt128.2.1 bt128.2.2.1 bt112.1 bt112.2.1 bt112.2.2.1).bind fun t135 => (if t135 = true then (laws_FnExactOpsDo.j0 k l1 bt112.2.2.2 t125 bt128.2.2.2 (bt128.2.2.2 != bt112.2.2.2) a0_0 a0_1 l0_2 bt112.1 bt112.2.1 bt112.2.2.1 bt119.1 bt119.2.1 bt119.2.2 bt128.1 bt128.2.1 bt128.2.2.1) else (laws_FnExactOpsDo.j0 k l1 bt112.2.2.2 t125 bt128.2.2.2 true a0_0 a0_1 l0_2 bt112.1 bt112.2.1 bt112.2.2.1 bt119.1 bt119.2.1 bt119.2.2 bt128.1 bt128.2.1 bt128.2.2.1))))))))))))
set_option maxHeartbeats 8000000 in
set_option maxRecDepth 100000 in
theorem laws_FnExactOpsDo.calls (k : Nat) (a0_0 : Int) (a0_1 : Int) (A0_2 : Option Addr) (c0_2 : Nat) (l0_2 : List (S94)) (A1 : Option Addr) (c1 : Nat) (l1 : List (S45)) (r : Bool) (w : World) (hr0_2 : Kd.C k94 w A0_2 l0_2.length l0_2) (hc0_2 : l0_2.length ≤ c0_2) (hr1 : Kd.C k45 w A1 l1.length l1) (hc1 : l1.length ≤ c1) (h : laws_FnExactOpsDo.f k a0_0 a0_1 l0_2 l1 = some r) (hrt : r = true) :
  Calls Try.prog 9 #[.agg #[.int .i64 a0_0, .int .i64 a0_1, .slice A0_2 l0_2.length c0_2], .slice A1 l1.length c1] w fun e w' => e = .returned (.bool r) ∧ Below w.heap.size w w' := by
 have hu44 := Try.underlying44; have hu25 := Try.underlying25; have HR0_2 := yaa hr0_2; have HC0_2 := yaa hc0_2; clear hr0_2 hc0_2; have HR1 := yaa hr1; have HC1 := yaa hc1; clear hr1 hc1; have HB := yaa (Below.refl w.heap.size w); have H : ((laws_szRasRaster.f a0_0 a0_1 l0_2 1048576).bind fun i2 => (if i2 < 0 then (some true) else ((laws_szOpOpS.f l1 i2).bind fun u3 => (if u3 < 0 then (some true) else ((laws_toRasRaster.f k a0_0 a0_1 l0_2).bind fun x4 => ((laws_toOpOpS.f k l1).bind fun x5 => ((spec_OpsDo.f k x4.1 x4.2.1 x4.2.2 x5).bind fun h3 => ((laws_toRasRaster.f k a0_0 a0_1 l0_2).bind fun i0 => ((laws_toOpOpS.f k l1).bind fun h5 => ((impl_OpsDo.f i0.1 i0.2.1 i0.2.2 h5).bind fun h4 => ((laws_eqRasRaster.f k h4.1 h4.2.1 h4.2.2.1 h3.1 h3.2.1 h3.2.2.1).bind fun G0 => (if G0 = true then (laws_FnExactOpsDo.j0 k l1 h3.2.2.2 h5 h4.2.2.2 (h4.2.2.2 != h3.2.2.2) a0_0 a0_1 l0_2 h3.1 h3.2.1 h3.2.2.1 i0.1 i0.2.1 i0.2.2 h4.1 h4.2.1 h4.2.2.1) else (laws_FnExactOpsDo.j0 k l1 h3.2.2.2 h5 h4.2.2.2 true a0_0 a0_1 l0_2 h3.1 h3.2.1 h3.2.2.1 i0.1 i0.2.1 i0.2.2 h4.1 h4.2.1 h4.2.2.1))))))))))))) = some r := h; clear h; replace H := Option.bind_eq_some_iff.mp H; obtain ⟨i2, A30, H⟩ := H; (try dsimp only at H); have A3 := yaa A30; clear A30
 by_cases c4 : i2 < 0
 ·
  rw [if_pos c4] at H
  have E6 : decide (i2 < 0) = true := decide_eq_true c4; clear c4; obtain rfl := Option.some.inj H
  go_enter Try.func9, Try.ntmps9
  go_wp2_with (first | ((with_reducible refine gate_dst (N := 2) rfl ?_); refine bx_ 2 #[.int .i64 a0_0, .int .i64 a0_1, .slice A0_2 l0_2.length c0_2] 44 ?_; intro e6 hg w5 hbox hb; have a7 := yaa (hbox); have r2 := yaa ((by rw [hg]; exact (yau (upH HB.out)) : w.heap.size ≤ e6)); replace HB := yaa (yao (upH HB.out) hb); have F2 := r2; clear hb hbox hg; obtain ⟨u4, u5, u6⟩ := cc3_ a7.out; obtain ⟨u7, u8⟩ := cf2_ a7.out; have v0 := blk_frozen a7.out 2) | ((with_reducible refine yap (f := 20) rfl ?_); refine gl_ (some 19) rfl Try.func20 #[.agg #[.int .i64 a0_0, .int .i64 a0_1, .slice A0_2 l0_2.length c0_2], .int .i64 1048576] ?_; (with_reducible refine (laws_szRasRaster.calls a0_0 a0_1 _ _ l0_2 1048576 i2 _ ?side1 ?side2 A3.out).mono ?_); (case side1 => repeat (first | exact (Kd.C_below HR0_2.out HB.out) | (with_reducible refine yaq ?_ _) | (with_reducible refine yar ?_ _) | (with_reducible refine yas ?_))); (case side2 => exact HC0_2.out); rintro e w7 ⟨rfl, hb⟩; refine ⟨_, rfl, ?_⟩; replace a7 := yaa (yae (upB a7.out) hb); replace HB := yaa (yao (by repeat (with_reducible first | exact HB.out | apply yah | apply yab | apply yaf | refine yam ?_ (Aside0.out ‹_›))) hb); (try clear hb); (try clear hb2); (try clear hk); (try clear hi)))
  go_ret
  exact ⟨by first | rfl | (simp [*, errW_none, errW_some] <;> rfl), by repeat (with_reducible first | exact HB.out | apply yah | apply yab | apply yaf | refine yam ?_ (Aside0.out ‹_›))⟩
 ·
  rw [if_neg c4] at H
  have E6 : decide (i2 < 0) = false := decide_eq_false c4; clear c4; replace H := Option.bind_eq_some_iff.mp H; obtain ⟨u3, A80, H⟩ := H; (try dsimp only at H); have A8 := yaa A80; clear A80
  by_cases c9 : u3 < 0
  ·
   rw [if_pos c9] at H
   have E7 : decide (u3 < 0) = true := decide_eq_true c9; clear c9; obtain rfl := Option.some.inj H
   go_enter Try.func9, Try.ntmps9
   go_wp2_with (first | ((with_reducible refine gate_dst (N := 2) rfl ?_); refine bx_ 2 #[.int .i64 a0_0, .int .i64 a0_1, .slice A0_2 l0_2.length c0_2] 44 ?_; intro e6 hg w10 hbox hb; have a7 := yaa (hbox); have r2 := yaa ((by rw [hg]; exact (yau (upH HB.out)) : w.heap.size ≤ e6)); replace HB := yaa (yao (upH HB.out) hb); have F2 := r2; clear hb hbox hg; obtain ⟨j3, j4, j5⟩ := cc3_ a7.out; obtain ⟨j6, j7⟩ := cf2_ a7.out; have j8 := blk_frozen a7.out 2) | ((with_reducible refine yap (f := 20) rfl ?_); refine gl_ (some 19) rfl Try.func20 #[.agg #[.int .i64 a0_0, .int .i64 a0_1, .slice A0_2 l0_2.length c0_2], .int .i64 1048576] ?_; (with_reducible refine (laws_szRasRaster.calls a0_0 a0_1 _ _ l0_2 1048576 i2 _ ?side1 ?side2 A3.out).mono ?_); (case side1 => repeat (first | exact (Kd.C_below HR0_2.out HB.out) | (with_reducible refine yaq ?_ _) | (with_reducible refine yar ?_ _) | (with_reducible refine yas ?_))); (case side2 => exact HC0_2.out); rintro e w12 ⟨rfl, hb⟩; refine ⟨_, rfl, ?_⟩; replace a7 := yaa (yae (upB a7.out) hb); replace HB := yaa (yao (by repeat (with_reducible first | exact HB.out | apply yah | apply yab | apply yaf | refine yam ?_ (Aside0.out ‹_›))) hb); (try clear hb); (try clear hb2); (try clear hk); (try clear hi)) | ((with_reducible refine yap (f := 29) rfl ?_); refine gl_ (some 24) rfl Try.func29 #[.slice A1 l1.length c1, .int .i64 i2] ?_; (with_reducible refine (laws_szOpOpS.calls _ _ l1 i2 u3 _ ?side1 ?side2 A8.out).mono ?_); (case side1 => repeat (first | exact (Kd.C_below HR1.out HB.out) | (with_reducible refine yaq ?_ _) | (with_reducible refine yar ?_ _) | (with_reducible refine yas ?_))); (case side2 => exact HC1.out); rintro e w' ⟨rfl, ⟨nd, rfl⟩⟩; refine ⟨_, rfl, ?_⟩))
   go_ret
   exact ⟨by first | rfl | (simp [*, errW_none, errW_some] <;> rfl), by repeat (with_reducible first | exact HB.out | apply yah | apply yab | apply yaf | refine yam ?_ (Aside0.out ‹_›))⟩
  ·
   rw [if_neg c9] at H
   have E7 : decide (u3 < 0) = false := decide_eq_false c9; clear c9; replace H := Option.bind_eq_some_iff.mp H; obtain ⟨⟨G1, G2, v1⟩, H2, H⟩ := H; (try dsimp only at H); have A13 := yaa H2; clear H2; replace H := Option.bind_eq_some_iff.mp H; obtain ⟨x5, H3, H⟩ := H; (try dsimp only at H); have A14 := yaa H3; clear H3; replace H := Option.bind_eq_some_iff.mp H; obtain ⟨⟨f3, f4, b5, w9⟩, H4, H⟩ := H; (try dsimp only at H); have A15 := yaa H4; clear H4; replace H := Option.bind_eq_some_iff.mp H; obtain ⟨⟨g2, g6, d9⟩, H5, H⟩ := H; (try dsimp only at H); have A16 := yaa H5; clear H5; replace H := Option.bind_eq_some_iff.mp H; obtain ⟨h5, H6, H⟩ := H; (try dsimp only at H); have A17 := yaa H6; clear H6; replace H := Option.bind_eq_some_iff.mp H; obtain ⟨⟨d3, d5, b3, E8⟩, H7, H⟩ := H; (try dsimp only at H); have A18 := yaa H7; clear H7; have HC19 := yaa H; clear H
   go_enter Try.func9, Try.ntmps9
   go_upto_region 12 with (first | ((with_reducible refine gate_dst (N := 2) rfl ?_); refine bx_ 2 #[.int .i64 a0_0, .int .i64 a0_1, .slice A0_2 l0_2.length c0_2] 44 ?_; intro e6 hg w20 hbox hb; have a7 := yaa (hbox); have r2 := yaa ((by rw [hg]; exact (yau (upH HB.out)) : w.heap.size ≤ e6)); replace HB := yaa (yao (upH HB.out) hb); have F2 := r2; clear hb hbox hg; obtain ⟨j9, k0, k1⟩ := cc3_ a7.out; obtain ⟨k2, k3⟩ := cf2_ a7.out; have k4 := blk_frozen a7.out 2) | ((with_reducible refine yap (f := 20) rfl ?_); refine gl_ (some 19) rfl Try.func20 #[.agg #[.int .i64 a0_0, .int .i64 a0_1, .slice A0_2 l0_2.length c0_2], .int .i64 1048576] ?_; (with_reducible refine (laws_szRasRaster.calls a0_0 a0_1 _ _ l0_2 1048576 i2 _ ?side1 ?side2 A3.out).mono ?_); (case side1 => repeat (first | exact (Kd.C_below HR0_2.out HB.out) | (with_reducible refine yaq ?_ _) | (with_reducible refine yar ?_ _) | (with_reducible refine yas ?_))); (case side2 => exact HC0_2.out); rintro e w22 ⟨rfl, hb⟩; refine ⟨_, rfl, ?_⟩; replace a7 := yaa (yae (upB a7.out) hb); replace HB := yaa (yao (by repeat (with_reducible first | exact HB.out | apply yah | apply yab | apply yaf | refine yam ?_ (Aside0.out ‹_›))) hb); (try clear hb); (try clear hb2); (try clear hk); (try clear hi)) | ((with_reducible refine yap (f := 29) rfl ?_); refine gl_ (some 24) rfl Try.func29 #[.slice A1 l1.length c1, .int .i64 i2] ?_; (with_reducible refine (laws_szOpOpS.calls _ _ l1 i2 u3 _ ?side1 ?side2 A8.out).mono ?_); (case side1 => repeat (first | exact (Kd.C_below HR1.out HB.out) | (with_reducible refine yaq ?_ _) | (with_reducible refine yar ?_ _) | (with_reducible refine yas ?_))); (case side2 => exact HC1.out); rintro e w' ⟨rfl, ⟨nd, rfl⟩⟩; refine ⟨_, rfl, ?_⟩; (try (rw [drewN_self w22]; generalize hq_ : World.drewN w22 _ = w22; have n0_ : yax (w22.heap[e6]? = some (.cells #[.int .i64 a0_0, .int .i64 a0_1, .slice A0_2 l0_2.length c0_2] 44 (0, 0))) := ⟨by rw [← hq_]; exact (upB a7.out)⟩; have n1_ : yax (Below w.heap.size w w22) := ⟨by rw [← hq_]; exact (by repeat (with_reducible first | exact HB.out | apply yah | apply yab | apply yaf | refine yam ?_ (Aside0.out ‹_›)))⟩; clear a7 HB hq_; have a7 := n0_; have HB := n1_; clear n0_ n1_)); obtain ⟨k5, k6, k7⟩ := cc3_ a7.out; obtain ⟨k8, k9⟩ := cf2_ a7.out; have l0 := blk_frozen a7.out 2) | ((with_reducible refine yap (f := 21) rfl ?_); refine gl_ (some 29) rfl Try.func21 #[.agg #[.int .i64 a0_0, .int .i64 a0_1, .slice A0_2 l0_2.length c0_2]] ?_; (with_reducible refine (laws_toRasRaster.calls k a0_0 a0_1 _ _ l0_2 G1 G2 v1 _ ?side1 ?side2 A13.out).mono ?_); (case side1 => repeat (first | exact (Kd.C_below HR0_2.out HB.out) | (with_reducible refine yaq ?_ _) | (with_reducible refine yar ?_ _) | (with_reducible refine yas ?_))); (case side2 => exact HC0_2.out); rintro e w24 ⟨Y9, rfl, ho0, hb⟩; refine ⟨_, rfl, ?_⟩; have d8 := yaa (Kd.R_lower ho0 (yau (by repeat (with_reducible first | exact HB.out | apply yah | apply yab | apply yaf | refine yam ?_ (Aside0.out ‹_›))))); replace a7 := yaa (yae (upB a7.out) hb); replace HB := yaa (yao (by repeat (with_reducible first | exact HB.out | apply yah | apply yab | apply yaf | refine yam ?_ (Aside0.out ‹_›))) hb); (try clear hb); (try clear hb2); (try clear hk); (try clear hi); (try clear ho0)) | ((with_reducible refine yap (f := 30) rfl ?_); refine gl_ (some 31) rfl Try.func30 #[.slice A1 l1.length c1] ?_; (with_reducible refine (laws_toOpOpS.calls k _ _ l1 x5 _ ?side1 ?side2 A14.out).mono ?_); (case side1 => repeat (first | exact (Kd.C_below HR1.out HB.out) | (with_reducible refine yaq ?_ _) | (with_reducible refine yar ?_ _) | (with_reducible refine yas ?_))); (case side2 => exact HC1.out); rintro e w25 ⟨H8, rfl, ho0, hb⟩; refine ⟨_, rfl, ?_⟩; replace d8 := yaa (yac (upR d8.out) hb); have e7 := yaa (Kd.R_lower ho0 (yau (by repeat (with_reducible first | exact HB.out | apply yah | apply yab | apply yaf | refine yam ?_ (Aside0.out ‹_›))))); replace a7 := yaa (yae (upB a7.out) hb); replace HB := yaa (yao (by repeat (with_reducible first | exact HB.out | apply yah | apply yab | apply yaf | refine yam ?_ (Aside0.out ‹_›))) hb); (try clear hb); (try clear hb2); (try clear hk); (try clear hi); (try clear ho0); obtain ⟨x6, x8, K7⟩ := Kd.R_slice d8.out; subst K7; obtain ⟨K8, K9, L0⟩ := Kd.R_slice e7.out; subst L0) | ((with_reducible refine yap (f := 28) rfl ?_); refine gl_ (some 32) rfl Try.func28 #[.agg #[.int .i64 G1, .int .i64 G2, .slice x6 v1.length x8], .slice K8 x5.length K9] ?_; (with_reducible refine (spec_OpsDo.calls k G1 G2 _ _ v1 _ _ x5 f3 f4 b5 w9 _ ?side1 ?side2 ?side3 ?side4 A15.out).mono ?_); (case side1 => repeat (first | exact (yal d8.out).2.2 | (with_reducible refine yaq ?_ _) | (with_reducible refine yar ?_ _) | (with_reducible refine yas ?_))); (case side2 => exact (yal d8.out).2.1); (case side3 => repeat (first | exact (yal e7.out).2.2 | (with_reducible refine yaq ?_ _) | (with_reducible refine yar ?_ _) | (with_reducible refine yas ?_))); (case side4 => exact (yal e7.out).2.1); rintro e w28 ⟨Z0, rfl, ho0, hb⟩; refine ⟨_, rfl, ?_⟩; replace e7 := yaa (yac (upR e7.out) hb); have e0 := yaa (Kd.R_lower (yav ho0 (Kd.R_lt (upR d8.out))) (yau (by repeat (with_reducible first | exact HB.out | apply yah | apply yab | apply yaf | refine yam ?_ (Aside0.out ‹_›))))); replace d8 := yaa (yat (upR d8.out) (yaw ho0) hb); replace a7 := yaa (yae (upB a7.out) hb); replace HB := yaa (yao (by repeat (with_reducible first | exact HB.out | apply yah | apply yab | apply yaf | refine yam ?_ (Aside0.out ‹_›))) hb); (try clear hb); (try clear hb2); (try clear hk); (try clear hi); (try clear ho0)) | ((with_reducible refine gate_dst (N := 6) rfl ?_); refine bx_ 6 #[.int .i64 0, .int .i64 0, .slice none 0 0] 25 ?_; intro c0 hg w29 hbox hb; replace d8 := yaa (yac (upR d8.out) hb); replace e7 := yaa (yac (upR e7.out) hb); replace e0 := yaa (yac (upR e0.out) hb); have a9 := yaa (hbox); have H9 := yaa ((by rw [hg]; exact (yau (by repeat (with_reducible first | exact HB.out | apply yah | apply yab | apply yaf | refine yam ?_ (Aside0.out ‹_›)))) : w.heap.size ≤ c0)); replace HB := yaa (yao (by repeat (with_reducible first | exact HB.out | apply yah | apply yab | apply yaf | refine yam ?_ (Aside0.out ‹_›))) hb); have T7 := H9; have e2 := yaa ((by rw [hg]; exact Nat.ne_of_lt (blk_lt (upB a7.out)) : e6 ≠ c0)); replace a7 := yaa (yae (upB a7.out) hb); have f0 := yaa e2.out.symm; clear hb hbox hg; have T8 := f0.out; have T9 := e2.out; obtain ⟨l2, l3, l4⟩ := cc3_ a9.out; obtain ⟨l5, l6, l7⟩ := cf3_ a9.out; obtain ⟨e1, d4, L1⟩ := Kd.R_slice e0.out; subst L1; obtain ⟨l8, l9, m0⟩ := cc3_ a7.out; obtain ⟨m1, m2⟩ := cf2_ a7.out; have m3 := blk_frozen a7.out 2) | ((with_reducible refine yap (f := 21) rfl ?_); refine gl_ (some 36) rfl Try.func21 #[.agg #[.int .i64 a0_0, .int .i64 a0_1, .slice A0_2 l0_2.length c0_2]] ?_; (with_reducible refine (laws_toRasRaster.calls k a0_0 a0_1 _ _ l0_2 g2 g6 d9 _ ?side1 ?side2 A16.out).mono ?_); (case side1 => exact Kd.C_below HR0_2.out (by repeat (with_reducible first | exact HB.out | apply yah | apply yab | apply yaf | refine yam ?_ (Aside0.out ‹_›)))); (case side2 => exact HC0_2.out); rintro e w34 ⟨Z1, rfl, ho0, hb⟩; refine ⟨_, rfl, ?_⟩; replace e7 := yaa (yac (by (with_reducible repeat (first | apply yai | apply yaj | apply yak)); exact (yag (yad (p := ⟨c0, 2, none⟩) (yad (p := ⟨c0, 1, none⟩) (yad (p := ⟨c0, 0, none⟩) (yan e7.out a9.out (by decide)) (fun _ hk => hk.2) (.int .i64 f3)) (fun _ hk => hk.2) (.int .i64 f4)) (fun _ hk => hk.2) (.slice e1 b5.length d4)) (fun _ h_ => h_.1))) hb); have f6 := yaa (Kd.R_lower (yav (yav ho0 (Kd.R_lt (by (with_reducible repeat (first | apply yai | apply yaj | apply yak)); exact (yag (yad (p := ⟨c0, 2, none⟩) (yad (p := ⟨c0, 1, none⟩) (yad (p := ⟨c0, 0, none⟩) (yan d8.out a9.out (by decide)) (fun _ hk => hk.2) (.int .i64 f3)) (fun _ hk => hk.2) (.int .i64 f4)) (fun _ hk => hk.2) (.slice e1 b5.length d4)) (fun _ h_ => h_.1))))) (Kd.R_lt (by (with_reducible repeat (first | apply yai | apply yaj | apply yak)); exact (yag (yad (p := ⟨c0, 2, none⟩) (yad (p := ⟨c0, 1, none⟩) (yad (p := ⟨c0, 0, none⟩) (yan e0.out a9.out (by decide)) (fun _ hk => hk.2) (.int .i64 f3)) (fun _ hk => hk.2) (.int .i64 f4)) (fun _ hk => hk.2) (.slice e1 b5.length d4)) (fun _ h_ => h_.1))))) (yau (by repeat (with_reducible first | exact HB.out | apply yah | apply yab | apply yaf | refine yam ?_ (Aside0.out ‹_›))))); replace d8 := yaa (yat (by (with_reducible repeat (first | apply yai | apply yaj | apply yak)); exact (yag (yad (p := ⟨c0, 2, none⟩) (yad (p := ⟨c0, 1, none⟩) (yad (p := ⟨c0, 0, none⟩) (yan d8.out a9.out (by decide)) (fun _ hk => hk.2) (.int .i64 f3)) (fun _ hk => hk.2) (.int .i64 f4)) (fun _ hk => hk.2) (.slice e1 b5.length d4)) (fun _ h_ => h_.1))) (yaw ho0) hb); replace e0 := yaa (yat (by (with_reducible repeat (first | apply yai | apply yaj | apply yak)); exact (yag (yad (p := ⟨c0, 2, none⟩) (yad (p := ⟨c0, 1, none⟩) (yad (p := ⟨c0, 0, none⟩) (yan e0.out a9.out (by decide)) (fun _ hk => hk.2) (.int .i64 f3)) (fun _ hk => hk.2) (.int .i64 f4)) (fun _ hk => hk.2) (.slice e1 b5.length d4)) (fun _ h_ => h_.1))) (yaw ho0) hb); replace a7 := yaa (yae (g := e6) (o := .cells #[.int .i64 a0_0, .int .i64 a0_1, .slice A0_2 l0_2.length c0_2] 44 (0, 0)) (by repeat (with_reducible first | exact a7.out | refine oneB ?_ | refine blk_far ?_ e2.out _)) hb); replace a9 := yaa (yae (g := c0) (o := .cells #[.int .i64 f3, .int .i64 f4, .slice e1 b5.length d4] 25 (0, 0)) (by (repeat refine oneB ?_); refine blk_put (cs := #[.int .i64 f3, .int .i64 f4, .slice none 0 0]) ?_ 2 _ rfl; refine blk_put (cs := #[.int .i64 f3, .int .i64 0, .slice none 0 0]) ?_ 1 _ rfl; refine blk_put (cs := #[.int .i64 0, .int .i64 0, .slice none 0 0]) ?_ 0 _ rfl; exact upB a9.out) hb); replace HB := yaa (yao (by repeat (with_reducible first | exact HB.out | apply yah | apply yab | apply yaf | refine yam ?_ (Aside0.out ‹_›))) hb); (try clear hb); (try clear hb2); (try clear hk); (try clear hi); (try clear ho0)) | ((with_reducible refine gate_dst (N := 8) rfl ?_); refine bx_ 8 #[.int .i64 0, .int .i64 0, .slice none 0 0] 25 ?_; intro b8 hg w35 hbox hb; replace d8 := yaa (yac (upR d8.out) hb); replace e7 := yaa (yac (upR e7.out) hb); replace e0 := yaa (yac (upR e0.out) hb); replace f6 := yaa (yac (upR f6.out) hb); have b0 := yaa (hbox); have I0 := yaa ((by rw [hg]; exact (yau (by repeat (with_reducible first | exact HB.out | apply yah | apply yab | apply yaf | refine yam ?_ (Aside0.out ‹_›)))) : w.heap.size ≤ b8)); replace HB := yaa (yao (by repeat (with_reducible first | exact HB.out | apply yah | apply yab | apply yaf | refine yam ?_ (Aside0.out ‹_›))) hb); have U0 := I0; have g8 := yaa ((by rw [hg]; exact Nat.ne_of_lt (blk_lt (upB a7.out)) : e6 ≠ b8)); replace a7 := yaa (yae (upB a7.out) hb); have i3 := yaa g8.out.symm; have e3 := yaa ((by rw [hg]; exact Nat.ne_of_lt (blk_lt (upB a9.out)) : c0 ≠ b8)); replace a9 := yaa (yae (upB a9.out) hb); have f1 := yaa e3.out.symm; clear hb hbox hg; have U1 := i3.out; have U2 := g8.out; have U3 := f1.out; have U4 := e3.out; obtain ⟨m4, m5, m6⟩ := cc3_ b0.out; obtain ⟨m7, m8, m9⟩ := cf3_ b0.out; obtain ⟨d0, d1, L2⟩ := Kd.R_slice f6.out; subst L2) | ((with_reducible refine yap (f := 30) rfl ?_); refine gl_ (some 38) rfl Try.func30 #[.slice A1 l1.length c1] ?_; (with_reducible refine (laws_toOpOpS.calls k _ _ l1 h5 _ ?side1 ?side2 A17.out).mono ?_); (case side1 => exact Kd.C_below HR1.out (by repeat (with_reducible first | exact HB.out | apply yah | apply yab | apply yaf | refine yam ?_ (Aside0.out ‹_›)))); (case side2 => exact HC1.out); rintro e w40 ⟨Z2, rfl, ho0, hb⟩; refine ⟨_, rfl, ?_⟩; replace d8 := yaa (yac (by (with_reducible repeat (first | apply yai | apply yaj | apply yak)); exact (yag (yad (p := ⟨b8, 2, none⟩) (yad (p := ⟨b8, 1, none⟩) (yad (p := ⟨b8, 0, none⟩) (yan d8.out b0.out (by decide)) (fun _ hk => hk.2) (.int .i64 g2)) (fun _ hk => hk.2) (.int .i64 g6)) (fun _ hk => hk.2) (.slice d0 d9.length d1)) (fun _ h_ => h_.1))) hb); replace e0 := yaa (yac (by (with_reducible repeat (first | apply yai | apply yaj | apply yak)); exact (yag (yad (p := ⟨b8, 2, none⟩) (yad (p := ⟨b8, 1, none⟩) (yad (p := ⟨b8, 0, none⟩) (yan e0.out b0.out (by decide)) (fun _ hk => hk.2) (.int .i64 g2)) (fun _ hk => hk.2) (.int .i64 g6)) (fun _ hk => hk.2) (.slice d0 d9.length d1)) (fun _ h_ => h_.1))) hb); replace f6 := yaa (yac (by (with_reducible repeat (first | apply yai | apply yaj | apply yak)); exact (yag (yad (p := ⟨b8, 2, none⟩) (yad (p := ⟨b8, 1, none⟩) (yad (p := ⟨b8, 0, none⟩) (yan f6.out b0.out (by decide)) (fun _ hk => hk.2) (.int .i64 g2)) (fun _ hk => hk.2) (.int .i64 g6)) (fun _ hk => hk.2) (.slice d0 d9.length d1)) (fun _ h_ => h_.1))) hb); have g9 := yaa (Kd.R_lower (yav ho0 (Kd.R_lt (by (with_reducible repeat (first | apply yai | apply yaj | apply yak)); exact (yag (yad (p := ⟨b8, 2, none⟩) (yad (p := ⟨b8, 1, none⟩) (yad (p := ⟨b8, 0, none⟩) (yan e7.out b0.out (by decide)) (fun _ hk => hk.2) (.int .i64 g2)) (fun _ hk => hk.2) (.int .i64 g6)) (fun _ hk => hk.2) (.slice d0 d9.length d1)) (fun _ h_ => h_.1))))) (yau (by repeat (with_reducible first | exact HB.out | apply yah | apply yab | apply yaf | refine yam ?_ (Aside0.out ‹_›))))); replace e7 := yaa (yat (by (with_reducible repeat (first | apply yai | apply yaj | apply yak)); exact (yag (yad (p := ⟨b8, 2, none⟩) (yad (p := ⟨b8, 1, none⟩) (yad (p := ⟨b8, 0, none⟩) (yan e7.out b0.out (by decide)) (fun _ hk => hk.2) (.int .i64 g2)) (fun _ hk => hk.2) (.int .i64 g6)) (fun _ hk => hk.2) (.slice d0 d9.length d1)) (fun _ h_ => h_.1))) (yaw ho0) hb); replace a7 := yaa (yae (g := e6) (o := .cells #[.int .i64 a0_0, .int .i64 a0_1, .slice A0_2 l0_2.length c0_2] 44 (0, 0)) (by repeat (with_reducible first | exact a7.out | refine oneB ?_ | refine blk_far ?_ g8.out _)) hb); replace a9 := yaa (yae (g := c0) (o := .cells #[.int .i64 f3, .int .i64 f4, .slice e1 b5.length d4] 25 (0, 0)) (by repeat (with_reducible first | exact a9.out | refine oneB ?_ | refine blk_far ?_ e3.out _)) hb); replace b0 := yaa (yae (g := b8) (o := .cells #[.int .i64 g2, .int .i64 g6, .slice d0 d9.length d1] 25 (0, 0)) (by (repeat refine oneB ?_); refine blk_put (cs := #[.int .i64 g2, .int .i64 g6, .slice none 0 0]) ?_ 2 _ rfl; refine blk_put (cs := #[.int .i64 g2, .int .i64 0, .slice none 0 0]) ?_ 1 _ rfl; refine blk_put (cs := #[.int .i64 0, .int .i64 0, .slice none 0 0]) ?_ 0 _ rfl; exact upB b0.out) hb); replace HB := yaa (yao (by repeat (with_reducible first | exact HB.out | apply yah | apply yab | apply yaf | refine yam ?_ (Aside0.out ‹_›))) hb); (try clear hb); (try clear hb2); (try clear hk); (try clear hi); (try clear ho0); obtain ⟨n0, n1, n2⟩ := cc3_ b0.out; obtain ⟨n3, n4, n5⟩ := cf3_ b0.out; obtain ⟨r3, r4, L3⟩ := Kd.R_slice g9.out; subst L3) | ((with_reducible refine yap (f := 27) rfl ?_); refine gl_ (some 42) rfl Try.func27 #[.agg #[.int .i64 g2, .int .i64 g6, .slice d0 d9.length d1], .slice r3 h5.length r4] ?_; (with_reducible refine (impl_OpsDo.calls g2 g6 _ _ d9 _ _ h5 d3 d5 b3 E8 _ ?side1 ?side2 ?side3 ?side4 A18.out).mono ?_); (case side1 => repeat (first | exact (yal f6.out).2.2 | (with_reducible refine yaq ?_ _) | (with_reducible refine yar ?_ _) | (with_reducible refine yas ?_))); (case side2 => exact (yal f6.out).2.1); (case side3 => repeat (first | exact (yal g9.out).2.2 | (with_reducible refine yaq ?_ _) | (with_reducible refine yar ?_ _) | (with_reducible refine yas ?_))); (case side4 => exact (yal g9.out).2.1); rintro e w43 ⟨Z3, rfl, ho0, hb⟩; refine ⟨_, rfl, ?_⟩; replace e7 := yaa (yac (upR e7.out) hb); replace g9 := yaa (yac (upR g9.out) hb); have h0 := yaa (Kd.R_lower (yav (yav (yav ho0 (Kd.R_lt (upR d8.out))) (Kd.R_lt (upR e0.out))) (Kd.R_lt (upR f6.out))) (yau (by repeat (with_reducible first | exact HB.out | apply yah | apply yab | apply yaf | refine yam ?_ (Aside0.out ‹_›))))); replace d8 := yaa (yat (upR d8.out) (yaw ho0) hb); replace e0 := yaa (yat (upR e0.out) (yaw ho0) hb); replace f6 := yaa (yat (upR f6.out) (yaw ho0) hb); replace a7 := yaa (yae (upB a7.out) hb); replace a9 := yaa (yae (upB a9.out) hb); replace b0 := yaa (yae (upB b0.out) hb); replace HB := yaa (yao (by repeat (with_reducible first | exact HB.out | apply yah | apply yab | apply yaf | refine yam ?_ (Aside0.out ‹_›))) hb); (try clear hb); (try clear hb2); (try clear hk); (try clear hi); (try clear ho0)) | ((with_reducible refine gate_dst (N := 10) rfl ?_); refine bx_ 10 #[.int .i64 0, .int .i64 0, .slice none 0 0] 25 ?_; intro b1 hg w44 hbox hb; replace d8 := yaa (yac (upR d8.out) hb); replace e7 := yaa (yac (upR e7.out) hb); replace e0 := yaa (yac (upR e0.out) hb); replace f6 := yaa (yac (upR f6.out) hb); replace g9 := yaa (yac (upR g9.out) hb); replace h0 := yaa (yac (upR h0.out) hb); have a8 := yaa (hbox); have I1 := yaa ((by rw [hg]; exact (yau (by repeat (with_reducible first | exact HB.out | apply yah | apply yab | apply yaf | refine yam ?_ (Aside0.out ‹_›)))) : w.heap.size ≤ b1)); replace HB := yaa (yao (by repeat (with_reducible first | exact HB.out | apply yah | apply yab | apply yaf | refine yam ?_ (Aside0.out ‹_›))) hb); have U5 := I1; have e4 := yaa ((by rw [hg]; exact Nat.ne_of_lt (blk_lt (upB a7.out)) : e6 ≠ b1)); replace a7 := yaa (yae (upB a7.out) hb); have f8 := yaa e4.out.symm; have b9 := yaa ((by rw [hg]; exact Nat.ne_of_lt (blk_lt (upB a9.out)) : c0 ≠ b1)); replace a9 := yaa (yae (upB a9.out) hb); have e5 := yaa b9.out.symm; have d6 := yaa ((by rw [hg]; exact Nat.ne_of_lt (blk_lt (upB b0.out)) : b8 ≠ b1)); replace b0 := yaa (yae (upB b0.out) hb); have f2 := yaa d6.out.symm; clear hb hbox hg; have U6 := f8.out; have U7 := e4.out; have U8 := e5.out; have U9 := b9.out; have V0 := f2.out; have V1 := d6.out; obtain ⟨n6, n7, n8⟩ := cc3_ a8.out; obtain ⟨n9, o0, o1⟩ := cf3_ a8.out; obtain ⟨b6, b4, L4⟩ := Kd.R_slice h0.out; subst L4))
   (try simp only [Act.put, List.setIfInBounds_toArray, List.set_cons_zero, List.set_cons_succ])
   go_cut [53] (fun v53 wc => ∃ (kq : Nat) (o2 : Bool), v53 = .bool o2 ∧ yax (laws_FnExactOpsDo.j0 kq l1 w9 h5 E8 o2 a0_0 a0_1 l0_2 f3 f4 b5 g2 g6 d9 d3 d5 b3 = some r) ∧ yax (kq ≤ k) ∧ yax (Kd.R k27 27 wc w.heap.size (fun _ => True) (.slice r3 h5.length r4) h5) ∧ yax (Kd.R k36 36 wc w.heap.size (fun k_ => some k_ ≠ ((.slice d0 d9.length d1) : Value).ownBlock ∧ some k_ ≠ ((.slice b6 b3.length b4) : Value).ownBlock) (.slice e1 b5.length d4) b5) ∧ yax (Kd.R k36 36 wc w.heap.size (fun k_ => some k_ ≠ ((.slice e1 b5.length d4) : Value).ownBlock ∧ some k_ ≠ ((.slice b6 b3.length b4) : Value).ownBlock) (.slice d0 d9.length d1) d9) ∧ yax (Kd.R k36 36 wc w.heap.size (fun k_ => some k_ ≠ ((.slice e1 b5.length d4) : Value).ownBlock ∧ some k_ ≠ ((.slice d0 d9.length d1) : Value).ownBlock) (.slice b6 b3.length b4) b3) ∧ yax (wc.heap[e6]? = some (.cells #[.int .i64 a0_0, .int .i64 a0_1, (.slice A0_2 l0_2.length c0_2)] 44 (0, 0))) ∧ yax (wc.heap[c0]? = some (.cells #[.int .i64 f3, .int .i64 f4, (.slice e1 b5.length d4)] 25 (0, 0))) ∧ yax (wc.heap[b8]? = some (.cells #[.int .i64 g2, .int .i64 g6, (.slice d0 d9.length d1)] 25 (0, 0))) ∧ yax (wc.heap[b1]? = some (.cells #[.int .i64 d3, .int .i64 d5, (.slice b6 b3.length b4)] 25 (0, 0))) ∧ yax (Below w.heap.size w wc))
   case first =>
    have H := HC19.out; clear HC19; replace H := Option.bind_eq_some_iff.mp H; obtain ⟨G0, I2, H⟩ := H; (try dsimp only at H); have A50 := yaa I2; clear I2
    by_cases c51 : G0 = true
    ·
     subst c51
     rw [if_pos rfl] at H
     have H' := yaa H; clear H; have V2 := f8.out; have V3 := e4.out; have V4 := e5.out; have V5 := b9.out; have V6 := f2.out; have V7 := d6.out; obtain ⟨o3, o4, o5⟩ := cc3_ a8.out; obtain ⟨o6, o7, o8⟩ := cf3_ a8.out; have V8 := f0.out; have V9 := e2.out; have W0 := e3.out; have W1 := f1.out; obtain ⟨o9, p0, p1⟩ := cc3_ a9.out; obtain ⟨p3, p4, p5⟩ := cf3_ a9.out
     go_wp2_with (first | ((with_reducible refine yap (f := 23) rfl ?_); refine gl_ (some 47) rfl Try.func23 #[.agg #[.int .i64 d3, .int .i64 d5, .slice b6 b3.length b4], .agg #[.int .i64 f3, .int .i64 f4, .slice e1 b5.length d4]] ?_; (with_reducible refine (laws_eqRasRaster.calls k d3 d5 _ _ b3 f3 f4 _ _ b5 true _ ?side1 ?side2 ?side3 ?side4 A50.out).mono ?_); (case side1 => refine (yal (e := 36) (base := w.heap.size) (ok := fun k_ => (((True ∧ some k_ ≠ (.slice x6 v1.length x8 : Value).ownBlock) ∧ some k_ ≠ (.slice e1 b5.length d4 : Value).ownBlock) ∧ some k_ ≠ (.slice d0 d9.length d1 : Value).ownBlock)) (n := b3.length) (c := b4) ?_).2.2; exact (by (with_reducible repeat (first | apply yai | apply yaj | apply yak)); exact (yag (yad (p := ⟨b1, 2, none⟩) (yad (p := ⟨b1, 1, none⟩) (yad (p := ⟨b1, 0, none⟩) (yan h0.out a8.out (by decide)) (fun _ hk => hk.2) (.int .i64 d3)) (fun _ hk => hk.2) (.int .i64 d5)) (fun _ hk => hk.2) (.slice b6 b3.length b4)) (fun _ h_ => h_.1)))); (case side2 => exact (yal h0.out).2.1); (case side3 => refine (yal (e := 36) (base := w.heap.size) (ok := fun k_ => (((True ∧ some k_ ≠ (.slice x6 v1.length x8 : Value).ownBlock) ∧ some k_ ≠ (.slice d0 d9.length d1 : Value).ownBlock) ∧ some k_ ≠ (.slice b6 b3.length b4 : Value).ownBlock)) (n := b5.length) (c := d4) ?_).2.2; exact (by (with_reducible repeat (first | apply yai | apply yaj | apply yak)); exact (yag (yad (p := ⟨b1, 2, none⟩) (yad (p := ⟨b1, 1, none⟩) (yad (p := ⟨b1, 0, none⟩) (yan e0.out a8.out (by decide)) (fun _ hk => hk.2) (.int .i64 d3)) (fun _ hk => hk.2) (.int .i64 d5)) (fun _ hk => hk.2) (.slice b6 b3.length b4)) (fun _ h_ => h_.1)))); (case side4 => exact (yal e0.out).2.1); rintro e w59 ⟨rfl, hb⟩; refine ⟨_, rfl, ?_⟩; replace d8 := yaa (yac (by (with_reducible repeat (first | apply yai | apply yaj | apply yak)); exact (yag (yad (p := ⟨b1, 2, none⟩) (yad (p := ⟨b1, 1, none⟩) (yad (p := ⟨b1, 0, none⟩) (yan d8.out a8.out (by decide)) (fun _ hk => hk.2) (.int .i64 d3)) (fun _ hk => hk.2) (.int .i64 d5)) (fun _ hk => hk.2) (.slice b6 b3.length b4)) (fun _ h_ => h_.1))) hb); replace e7 := yaa (yac (by (with_reducible repeat (first | apply yai | apply yaj | apply yak)); exact (yag (yad (p := ⟨b1, 2, none⟩) (yad (p := ⟨b1, 1, none⟩) (yad (p := ⟨b1, 0, none⟩) (yan e7.out a8.out (by decide)) (fun _ hk => hk.2) (.int .i64 d3)) (fun _ hk => hk.2) (.int .i64 d5)) (fun _ hk => hk.2) (.slice b6 b3.length b4)) (fun _ h_ => h_.1))) hb); replace e0 := yaa (yac (by (with_reducible repeat (first | apply yai | apply yaj | apply yak)); exact (yag (yad (p := ⟨b1, 2, none⟩) (yad (p := ⟨b1, 1, none⟩) (yad (p := ⟨b1, 0, none⟩) (yan e0.out a8.out (by decide)) (fun _ hk => hk.2) (.int .i64 d3)) (fun _ hk => hk.2) (.int .i64 d5)) (fun _ hk => hk.2) (.slice b6 b3.length b4)) (fun _ h_ => h_.1))) hb); replace f6 := yaa (yac (by (with_reducible repeat (first | apply yai | apply yaj | apply yak)); exact (yag (yad (p := ⟨b1, 2, none⟩) (yad (p := ⟨b1, 1, none⟩) (yad (p := ⟨b1, 0, none⟩) (yan f6.out a8.out (by decide)) (fun _ hk => hk.2) (.int .i64 d3)) (fun _ hk => hk.2) (.int .i64 d5)) (fun _ hk => hk.2) (.slice b6 b3.length b4)) (fun _ h_ => h_.1))) hb); replace g9 := yaa (yac (by (with_reducible repeat (first | apply yai | apply yaj | apply yak)); exact (yag (yad (p := ⟨b1, 2, none⟩) (yad (p := ⟨b1, 1, none⟩) (yad (p := ⟨b1, 0, none⟩) (yan g9.out a8.out (by decide)) (fun _ hk => hk.2) (.int .i64 d3)) (fun _ hk => hk.2) (.int .i64 d5)) (fun _ hk => hk.2) (.slice b6 b3.length b4)) (fun _ h_ => h_.1))) hb); replace h0 := yaa (yac (by (with_reducible repeat (first | apply yai | apply yaj | apply yak)); exact (yag (yad (p := ⟨b1, 2, none⟩) (yad (p := ⟨b1, 1, none⟩) (yad (p := ⟨b1, 0, none⟩) (yan h0.out a8.out (by decide)) (fun _ hk => hk.2) (.int .i64 d3)) (fun _ hk => hk.2) (.int .i64 d5)) (fun _ hk => hk.2) (.slice b6 b3.length b4)) (fun _ h_ => h_.1))) hb); replace a7 := yaa (yae (g := e6) (o := .cells #[.int .i64 a0_0, .int .i64 a0_1, .slice A0_2 l0_2.length c0_2] 44 (0, 0)) (by repeat (with_reducible first | exact a7.out | refine oneB ?_ | refine blk_far ?_ e4.out _)) hb); replace a9 := yaa (yae (g := c0) (o := .cells #[.int .i64 f3, .int .i64 f4, .slice e1 b5.length d4] 25 (0, 0)) (by repeat (with_reducible first | exact a9.out | refine oneB ?_ | refine blk_far ?_ b9.out _)) hb); replace b0 := yaa (yae (g := b8) (o := .cells #[.int .i64 g2, .int .i64 g6, .slice d0 d9.length d1] 25 (0, 0)) (by repeat (with_reducible first | exact b0.out | refine oneB ?_ | refine blk_far ?_ d6.out _)) hb); replace a8 := yaa (yae (g := b1) (o := .cells #[.int .i64 d3, .int .i64 d5, .slice b6 b3.length b4] 25 (0, 0)) (by (repeat refine oneB ?_); refine blk_put (cs := #[.int .i64 d3, .int .i64 d5, .slice none 0 0]) ?_ 2 _ rfl; refine blk_put (cs := #[.int .i64 d3, .int .i64 0, .slice none 0 0]) ?_ 1 _ rfl; refine blk_put (cs := #[.int .i64 0, .int .i64 0, .slice none 0 0]) ?_ 0 _ rfl; exact upB a8.out) hb); replace HB := yaa (yao (by repeat (with_reducible first | exact HB.out | apply yah | apply yab | apply yaf | refine yam ?_ (Aside0.out ‹_›))) hb); (try clear hb); (try clear hb2); (try clear hk); (try clear hi)))
     go_meet
     case rel => exact ⟨_, ((E8 != w9)), (by first | rfl | (simp; done) | (simp [*]; done)), H', ⟨by first | omega | exact Nat.le_refl _⟩, ⟨by (with_reducible repeat (first | apply yai | apply yaj | apply yak)); exact yag g9.out (fun _ hk => trivial)⟩, ⟨by (with_reducible repeat (first | apply yai | apply yaj | apply yak)); exact yag e0.out (fun _ hk => ⟨hk.1.2, hk.2⟩)⟩, ⟨by (with_reducible repeat (first | apply yai | apply yaj | apply yak)); exact yag f6.out (fun _ hk => ⟨hk.1.2, hk.2⟩)⟩, ⟨by (with_reducible repeat (first | apply yai | apply yaj | apply yak)); exact yag h0.out (fun _ hk => ⟨hk.1.2, hk.2⟩)⟩, ⟨by exact upB a7.out⟩, ⟨by exact upB a9.out⟩, ⟨by exact upB b0.out⟩, ⟨by exact upB a8.out⟩, ⟨by repeat (with_reducible first | exact HB.out | apply yah | apply yab | apply yaf | refine yam ?_ (Aside0.out ‹_›))⟩⟩
    ·
     replace c51 := Bool.eq_false_iff.mpr c51
     subst c51
     rw [if_neg (show ¬ (false = true) by decide)] at H
     have H' := yaa H; clear H; have W2 := f8.out; have W3 := e4.out; have W4 := e5.out; have W5 := b9.out; have W6 := f2.out; have W7 := d6.out; obtain ⟨p6, p7, p8⟩ := cc3_ a8.out; obtain ⟨p9, q0, q1⟩ := cf3_ a8.out; have W8 := f0.out; have W9 := e2.out; have X0 := e3.out; have X1 := f1.out; obtain ⟨q2, q3, q4⟩ := cc3_ a9.out; obtain ⟨q5, q6, q7⟩ := cf3_ a9.out
     go_wp2_with (first | ((with_reducible refine yap (f := 23) rfl ?_); refine gl_ (some 47) rfl Try.func23 #[.agg #[.int .i64 d3, .int .i64 d5, .slice b6 b3.length b4], .agg #[.int .i64 f3, .int .i64 f4, .slice e1 b5.length d4]] ?_; (with_reducible refine (laws_eqRasRaster.calls k d3 d5 _ _ b3 f3 f4 _ _ b5 false _ ?side1 ?side2 ?side3 ?side4 A50.out).mono ?_); (case side1 => refine (yal (e := 36) (base := w.heap.size) (ok := fun k_ => (((True ∧ some k_ ≠ (.slice x6 v1.length x8 : Value).ownBlock) ∧ some k_ ≠ (.slice e1 b5.length d4 : Value).ownBlock) ∧ some k_ ≠ (.slice d0 d9.length d1 : Value).ownBlock)) (n := b3.length) (c := b4) ?_).2.2; exact (by (with_reducible repeat (first | apply yai | apply yaj | apply yak)); exact (yag (yad (p := ⟨b1, 2, none⟩) (yad (p := ⟨b1, 1, none⟩) (yad (p := ⟨b1, 0, none⟩) (yan h0.out a8.out (by decide)) (fun _ hk => hk.2) (.int .i64 d3)) (fun _ hk => hk.2) (.int .i64 d5)) (fun _ hk => hk.2) (.slice b6 b3.length b4)) (fun _ h_ => h_.1)))); (case side2 => exact (yal h0.out).2.1); (case side3 => refine (yal (e := 36) (base := w.heap.size) (ok := fun k_ => (((True ∧ some k_ ≠ (.slice x6 v1.length x8 : Value).ownBlock) ∧ some k_ ≠ (.slice d0 d9.length d1 : Value).ownBlock) ∧ some k_ ≠ (.slice b6 b3.length b4 : Value).ownBlock)) (n := b5.length) (c := d4) ?_).2.2; exact (by (with_reducible repeat (first | apply yai | apply yaj | apply yak)); exact (yag (yad (p := ⟨b1, 2, none⟩) (yad (p := ⟨b1, 1, none⟩) (yad (p := ⟨b1, 0, none⟩) (yan e0.out a8.out (by decide)) (fun _ hk => hk.2) (.int .i64 d3)) (fun _ hk => hk.2) (.int .i64 d5)) (fun _ hk => hk.2) (.slice b6 b3.length b4)) (fun _ h_ => h_.1)))); (case side4 => exact (yal e0.out).2.1); rintro e w67 ⟨rfl, hb⟩; refine ⟨_, rfl, ?_⟩; replace d8 := yaa (yac (by (with_reducible repeat (first | apply yai | apply yaj | apply yak)); exact (yag (yad (p := ⟨b1, 2, none⟩) (yad (p := ⟨b1, 1, none⟩) (yad (p := ⟨b1, 0, none⟩) (yan d8.out a8.out (by decide)) (fun _ hk => hk.2) (.int .i64 d3)) (fun _ hk => hk.2) (.int .i64 d5)) (fun _ hk => hk.2) (.slice b6 b3.length b4)) (fun _ h_ => h_.1))) hb); replace e7 := yaa (yac (by (with_reducible repeat (first | apply yai | apply yaj | apply yak)); exact (yag (yad (p := ⟨b1, 2, none⟩) (yad (p := ⟨b1, 1, none⟩) (yad (p := ⟨b1, 0, none⟩) (yan e7.out a8.out (by decide)) (fun _ hk => hk.2) (.int .i64 d3)) (fun _ hk => hk.2) (.int .i64 d5)) (fun _ hk => hk.2) (.slice b6 b3.length b4)) (fun _ h_ => h_.1))) hb); replace e0 := yaa (yac (by (with_reducible repeat (first | apply yai | apply yaj | apply yak)); exact (yag (yad (p := ⟨b1, 2, none⟩) (yad (p := ⟨b1, 1, none⟩) (yad (p := ⟨b1, 0, none⟩) (yan e0.out a8.out (by decide)) (fun _ hk => hk.2) (.int .i64 d3)) (fun _ hk => hk.2) (.int .i64 d5)) (fun _ hk => hk.2) (.slice b6 b3.length b4)) (fun _ h_ => h_.1))) hb); replace f6 := yaa (yac (by (with_reducible repeat (first | apply yai | apply yaj | apply yak)); exact (yag (yad (p := ⟨b1, 2, none⟩) (yad (p := ⟨b1, 1, none⟩) (yad (p := ⟨b1, 0, none⟩) (yan f6.out a8.out (by decide)) (fun _ hk => hk.2) (.int .i64 d3)) (fun _ hk => hk.2) (.int .i64 d5)) (fun _ hk => hk.2) (.slice b6 b3.length b4)) (fun _ h_ => h_.1))) hb); replace g9 := yaa (yac (by (with_reducible repeat (first | apply yai | apply yaj | apply yak)); exact (yag (yad (p := ⟨b1, 2, none⟩) (yad (p := ⟨b1, 1, none⟩) (yad (p := ⟨b1, 0, none⟩) (yan g9.out a8.out (by decide)) (fun _ hk => hk.2) (.int .i64 d3)) (fun _ hk => hk.2) (.int .i64 d5)) (fun _ hk => hk.2) (.slice b6 b3.length b4)) (fun _ h_ => h_.1))) hb); replace h0 := yaa (yac (by (with_reducible repeat (first | apply yai | apply yaj | apply yak)); exact (yag (yad (p := ⟨b1, 2, none⟩) (yad (p := ⟨b1, 1, none⟩) (yad (p := ⟨b1, 0, none⟩) (yan h0.out a8.out (by decide)) (fun _ hk => hk.2) (.int .i64 d3)) (fun _ hk => hk.2) (.int .i64 d5)) (fun _ hk => hk.2) (.slice b6 b3.length b4)) (fun _ h_ => h_.1))) hb); replace a7 := yaa (yae (g := e6) (o := .cells #[.int .i64 a0_0, .int .i64 a0_1, .slice A0_2 l0_2.length c0_2] 44 (0, 0)) (by repeat (with_reducible first | exact a7.out | refine oneB ?_ | refine blk_far ?_ e4.out _)) hb); replace a9 := yaa (yae (g := c0) (o := .cells #[.int .i64 f3, .int .i64 f4, .slice e1 b5.length d4] 25 (0, 0)) (by repeat (with_reducible first | exact a9.out | refine oneB ?_ | refine blk_far ?_ b9.out _)) hb); replace b0 := yaa (yae (g := b8) (o := .cells #[.int .i64 g2, .int .i64 g6, .slice d0 d9.length d1] 25 (0, 0)) (by repeat (with_reducible first | exact b0.out | refine oneB ?_ | refine blk_far ?_ d6.out _)) hb); replace a8 := yaa (yae (g := b1) (o := .cells #[.int .i64 d3, .int .i64 d5, .slice b6 b3.length b4] 25 (0, 0)) (by (repeat refine oneB ?_); refine blk_put (cs := #[.int .i64 d3, .int .i64 d5, .slice none 0 0]) ?_ 2 _ rfl; refine blk_put (cs := #[.int .i64 d3, .int .i64 0, .slice none 0 0]) ?_ 1 _ rfl; refine blk_put (cs := #[.int .i64 0, .int .i64 0, .slice none 0 0]) ?_ 0 _ rfl; exact upB a8.out) hb); replace HB := yaa (yao (by repeat (with_reducible first | exact HB.out | apply yah | apply yab | apply yaf | refine yam ?_ (Aside0.out ‹_›))) hb); (try clear hb); (try clear hb2); (try clear hk); (try clear hi)))
     go_meet
     case rel => exact ⟨_, (true), (by first | rfl | (simp; done) | (simp [*]; done)), H', ⟨by first | omega | exact Nat.le_refl _⟩, ⟨by (with_reducible repeat (first | apply yai | apply yaj | apply yak)); exact yag g9.out (fun _ hk => trivial)⟩, ⟨by (with_reducible repeat (first | apply yai | apply yaj | apply yak)); exact yag e0.out (fun _ hk => ⟨hk.1.2, hk.2⟩)⟩, ⟨by (with_reducible repeat (first | apply yai | apply yaj | apply yak)); exact yag f6.out (fun _ hk => ⟨hk.1.2, hk.2⟩)⟩, ⟨by (with_reducible repeat (first | apply yai | apply yaj | apply yak)); exact yag h0.out (fun _ hk => ⟨hk.1.2, hk.2⟩)⟩, ⟨by exact upB a7.out⟩, ⟨by exact upB a9.out⟩, ⟨by exact upB b0.out⟩, ⟨by exact upB a8.out⟩, ⟨by repeat (with_reducible first | exact HB.out | apply yah | apply yab | apply yaf | refine yam ?_ (Aside0.out ‹_›))⟩⟩
   case rest =>
    clear HC19; (try clear c1); (try clear c2); (try clear p2); (try clear c3); (try clear c4); (try clear E6); (try clear c5); (try clear c6); (try clear c9); (try clear E7); (try clear c20); (try clear c21); (try clear c23); (try clear c27); (try clear c28); (try clear c29); (try clear c30); (try clear c36); (try clear c37); (try clear c45); (try clear c46); (try clear c47); (try clear c51); (try clear c52); (try clear c53); (try clear c54); (try clear c56); (try clear c57); (try clear c60); (try clear c61); (try clear c62); (try clear c64); (try clear c65); (try clear j3); (try clear j4); (try clear j5); (try clear j9); (try clear k0); (try clear k1); (try clear k5); (try clear k6); (try clear k7); (try clear l2); (try clear l3); (try clear l4); (try clear l8); (try clear l9); (try clear m0); (try clear m4); (try clear m5); (try clear m6); (try clear n0); (try clear n1); (try clear n2); (try clear n6); (try clear n7); (try clear n8); (try clear o3); (try clear o4); (try clear o5); (try clear o9); (try clear p0); (try clear p1); (try clear p6); (try clear p7); (try clear p8); (try clear q2); (try clear q3); (try clear q4); (try clear u4); (try clear u5); (try clear u6); (try clear j6); (try clear j7); (try clear j8); (try clear k2); (try clear k3); (try clear k4); (try clear k8); (try clear k9); (try clear l0); (try clear l5); (try clear l6); (try clear l7); (try clear m1); (try clear m2); (try clear m3); (try clear m7); (try clear m8); (try clear m9); (try clear n3); (try clear n4); (try clear n5); (try clear n9); (try clear o0); (try clear o1); (try clear o6); (try clear o7); (try clear o8); (try clear p3); (try clear p4); (try clear p5); (try clear p9); (try clear q0); (try clear q1); (try clear q5); (try clear q6); (try clear q7); (try clear u7); (try clear u8); (try clear v0); obtain ⟨kq, o2, rfl, HA, HJ18, e8, a6, a5, a4, a7, a9, b0, a8, HB⟩ := hcut
    cases kq with
    | zero => exact absurd HA.out (by simp [laws_FnExactOpsDo.j0])
    | succ kj18 =>
     have H := HA.out; clear HA
     simp only [laws_FnExactOpsDo.j0] at H
     by_cases c68 : o2 = true
     ·
      subst c68
      rw [if_pos rfl] at H
      rw [hrt] at H
      exact absurd H (by simp)
     ·
      replace c68 := Bool.eq_false_iff.mpr c68
      subst c68
      rw [if_neg (show ¬ (false = true) by decide)] at H
      replace H := Option.bind_eq_some_iff.mp H; obtain ⟨⟨G3, G4, r5⟩, I3, H⟩ := H; (try dsimp only at H); have A69 := yaa I3; clear I3; replace H := Option.bind_eq_some_iff.mp H; obtain ⟨L5, I4, H⟩ := H; (try dsimp only at H); have A70 := yaa I4; clear I4
      by_cases c71 : L5 = true
      ·
       subst c71
       rw [if_pos rfl] at H
       replace H := Option.bind_eq_some_iff.mp H; obtain ⟨E9, I5, H⟩ := H; (try dsimp only at H); have A72 := yaa I5; clear I5; replace H := Option.bind_eq_some_iff.mp H; obtain ⟨L6, I6, H⟩ := H; (try dsimp only at H); have A73 := yaa I6; clear I6
       by_cases c74 : L6 = true
       ·
        subst c74
        rw [if_pos rfl] at H
        replace H := Option.bind_eq_some_iff.mp H; obtain ⟨⟨G5, h9⟩, I7, H⟩ := H; (try dsimp only at H); have A75 := yaa I7; clear I7; replace H := Option.bind_eq_some_iff.mp H; obtain ⟨⟨F0, L7⟩, I8, H⟩ := H; (try dsimp only at H); have A76 := yaa I8; clear I8; have HC77 := yaa H; clear H
        try go_wp2
        replace e8 := yaa (yak e8.out); replace a6 := yaa (yak a6.out); replace a5 := yaa (yak a5.out); replace a4 := yaa (yak a4.out); replace a7 := yaa (blk_drew a7.out); replace a9 := yaa (blk_drew a9.out); replace b0 := yaa (blk_drew b0.out); replace a8 := yaa (blk_drew a8.out); replace HB := yaa (yaf HB.out)
        refine start_ (n := 5) (S := fun w' => w'.cell? ⟨b8, 0, none⟩ = some (.int .i64 g2) ∧ w'.cell? ⟨b8, 1, none⟩ = some (.int .i64 g6) ∧ w'.cell? ⟨b8, 2, none⟩ = some (.slice d0 d9.length d1) ∧ w'.cell? ⟨e6, 0, none⟩ = some (.int .i64 a0_0) ∧ w'.cell? ⟨e6, 1, none⟩ = some (.int .i64 a0_1) ∧ w'.cell? ⟨e6, 2, none⟩ = some (.slice A0_2 l0_2.length c0_2)) (ds := []) #[false, false, false, false, false] (by kernel_rfl) rfl rfl ⟨(blk_cell b0.out 0).trans rfl, (blk_cell b0.out 1).trans rfl, (blk_cell b0.out 2).trans rfl, (blk_cell a7.out 0).trans rfl, (blk_cell a7.out 1).trans rfl, (blk_cell a7.out 2).trans rfl⟩ (fun hHeld => ?_)
        generalize wc.drew = w78 at e8 a6 a5 a4 a7 a9 b0 a8 HB hHeld ⊢
        refine take_ (i := 0) (N := some 54) (v := ?_) (a' := ?_) #[true, false, false, false, false] rfl rfl (by kernel_rfl) (fun _ _ _ h => h) (Or.inl ⟨by rfl, ?_⟩) hHeld ?_ ?_
        rotate_left
        ·
         rintro w' ⟨s0, s1, s2, s3, s4, s5⟩
         go_simp
         with_reducible rfl
        rotate_left
        ·
         simp only [Act.put, List.setIfInBounds_toArray, List.set_cons_zero, List.set_cons_succ, i64_w, i32_w]
         rfl
        refine take_ (i := 1) (N := some 55) (v := ?_) (a' := ?_) #[true, true, false, false, false] rfl rfl (by kernel_rfl) (fun _ _ _ h => h) (Or.inl ⟨by rfl, ?_⟩) hHeld ?_ ?_
        rotate_left
        ·
         rintro w' ⟨s0, s1, s2, s3, s4, s5⟩
         go_simp
         with_reducible rfl
        rotate_left
        ·
         simp only [Act.put, List.setIfInBounds_toArray, List.set_cons_zero, List.set_cons_succ, i64_w, i32_w]
         rfl
        refine one_ (i := 2) (N := some 56) #[true, true, true, false, false] rfl rfl (by kernel_rfl) (by decide) (fun K hK => ?_)
        refine goes_ Try.func21 (by kernel_rfl) rfl #[.agg #[.int .i64 a0_0, .int .i64 a0_1, .slice A0_2 l0_2.length c0_2]] (by rfl) rfl rfl (by (try simp only [List.map_toArray, List.map_cons, List.map_nil]); first | done | rfl | (simp only [List.length_drop, List.length_take]; rfl)) ?_
        with_reducible refine (laws_toRasRaster.calls kj18 a0_0 a0_1 _ _ l0_2 G3 G4 r5 _ ?side1 ?side2 A69.out).mono ?_
        (case side1 => repeat (first | exact (Kd.C_below HR0_2.out HB.out) | (with_reducible refine yaq ?_ _) | (with_reducible refine yar ?_ _) | (with_reducible refine yas ?_)))
        (case side2 => exact HC0_2.out)
        rintro e w79 ⟨Z4, rfl, ho0, hb⟩; refine ⟨_, rfl, ?_⟩; have n0_ := yaa (yac (upR e8.out) hb); have n1_ := yaa (yat (upR a6.out) (yaw ho0) hb); have n2_ := yaa (yat (upR a5.out) (yaw ho0) hb); have n3_ := yaa (yat (upR a4.out) (yaw ho0) hb)
        have n4_ := yaa (Kd.R_lower (yav (yav (yav ho0 (Kd.R_lt (upR a6.out))) (Kd.R_lt (upR a5.out))) (Kd.R_lt (upR a4.out))) (yau (by repeat (with_reducible first | exact HB.out | apply yah | apply yab | apply yaf | refine yam ?_ (Aside0.out ‹_›)))))
        have n5_ := yaa (yae (upB a7.out) hb); have n6_ := yaa (yae (upB a9.out) hb); have n7_ := yaa (yae (upB b0.out) hb); have n8_ := yaa (yae (upB a8.out) hb)
        have n9_ := yaa (yao (by repeat (with_reducible first | exact HB.out | apply yah | apply yab | apply yaf | refine yam ?_ (Aside0.out ‹_›))) hb)
        clear e8; clear a6; clear a5; clear a4; clear a7; clear a9; clear b0; clear a8; clear HB; have e8 := n0_; have a6 := n1_; have a5 := n2_; have a4 := n3_; have f7 := n4_; have a7 := n5_; have a9 := n6_; have b0 := n7_; have a8 := n8_; have HB := n9_; clear n0_ n1_ n2_ n3_ n4_ n5_ n6_ n7_ n8_ n9_; (try clear hb); (try clear hb2); (try clear hk); (try clear hi); (try clear ho0); obtain ⟨x0, x2, I9⟩ := Kd.R_slice f7.out
        (first | subst I9 | (injection I9 with f1_ f2_ f3_; have f4_ := f1_.symm; have f5_ := f3_.symm; clear f1_ f2_ f3_; subst f4_; subst f5_))
        refine hK.out _ _ ⟨(blk_cell b0.out 0).trans rfl, (blk_cell b0.out 1).trans rfl, (blk_cell b0.out 2).trans rfl, (blk_cell a7.out 0).trans rfl, (blk_cell a7.out 1).trans rfl, (blk_cell a7.out 2).trans rfl⟩ (fun hHeld => ?_)
        clear hK K
        refine norm_ (a' := ?_) ?_ ?_
        rotate_left
        ·
         show Act.put _ (some 56) _ = _
         simp only [Act.put, List.setIfInBounds_toArray, List.set_cons_zero, List.set_cons_succ, i64_w, i32_w]
         rfl
        refine one_ (i := 3) (N := some 57) #[true, true, true, true, false] rfl rfl (by kernel_rfl) (by decide) (fun K hK => ?_)
        refine goes_ Try.func23 (by kernel_rfl) rfl #[.agg #[.int .i64 g2, .int .i64 g6, .slice d0 d9.length d1], .agg #[.int .i64 G3, .int .i64 G4, .slice x0 r5.length x2]] (by rfl) rfl rfl (by (try simp only [List.map_toArray, List.map_cons, List.map_nil]); first | done | rfl | (simp only [List.length_drop, List.length_take]; rfl)) ?_
        with_reducible refine (laws_eqRasRaster.calls kj18 g2 g6 _ _ d9 G3 G4 _ _ r5 true _ ?side1 ?side2 ?side3 ?side4 A70.out).mono ?_
        (case side1 => repeat (first | exact (yal a5.out).2.2 | (with_reducible refine yaq ?_ _) | (with_reducible refine yar ?_ _) | (with_reducible refine yas ?_)))
        (case side2 => exact (yal a5.out).2.1)
        (case side3 => repeat (first | exact (yal f7.out).2.2 | (with_reducible refine yaq ?_ _) | (with_reducible refine yar ?_ _) | (with_reducible refine yas ?_)))
        (case side4 => exact (yal f7.out).2.1)
        rintro e w81 ⟨rfl, hb⟩; refine ⟨_, rfl, ?_⟩; have n0_ := yaa (yac (upR e8.out) hb); have n1_ := yaa (yac (upR a6.out) hb); have n2_ := yaa (yac (upR a5.out) hb); have n3_ := yaa (yac (upR a4.out) hb); have n4_ := yaa (yac (upR f7.out) hb); have n5_ := yaa (yae (upB a7.out) hb); have n6_ := yaa (yae (upB a9.out) hb); have n7_ := yaa (yae (upB b0.out) hb); have n8_ := yaa (yae (upB a8.out) hb)
        have n9_ := yaa (yao (by repeat (with_reducible first | exact HB.out | apply yah | apply yab | apply yaf | refine yam ?_ (Aside0.out ‹_›))) hb)
        clear e8; clear a6; clear a5; clear a4; clear f7; clear a7; clear a9; clear b0; clear a8; clear HB; have e8 := n0_; have a6 := n1_; have a5 := n2_; have a4 := n3_; have f7 := n4_; have a7 := n5_; have a9 := n6_; have b0 := n7_; have a8 := n8_; have HB := n9_; clear n0_ n1_ n2_ n3_ n4_ n5_ n6_ n7_ n8_ n9_; (try clear hb); (try clear hb2); (try clear hk); (try clear hi)
        refine hK.out _ _ ⟨(blk_cell b0.out 0).trans rfl, (blk_cell b0.out 1).trans rfl, (blk_cell b0.out 2).trans rfl, (blk_cell a7.out 0).trans rfl, (blk_cell a7.out 1).trans rfl, (blk_cell a7.out 2).trans rfl⟩ (fun hHeld => ?_)
        clear hK K
        refine norm_ (a' := ?_) ?_ ?_
        rotate_left
        ·
         show Act.put _ (some 57) _ = _
         simp only [Act.put, List.setIfInBounds_toArray, List.set_cons_zero, List.set_cons_succ, i64_w, i32_w]
         rfl
        refine pure_ (i := 4) (N := some 58) (v := ?_) (a' := ?_) #[true, true, true, true, true] rfl rfl (by kernel_rfl) (fun _ _ _ h => h) (Or.inl ⟨by rfl, ?_⟩) ?_ ?_
        rotate_left
        ·
         intro w'
         go_simp
         with_reducible rfl
        rotate_left
        ·
         simp only [Act.put, List.setIfInBounds_toArray, List.set_cons_zero, List.set_cons_succ, i64_w, i32_w]
         rfl
        refine done_ (by kernel_rfl) ?_
        go_upto_region 21 with (first | ((with_reducible refine yap (f := 30) rfl ?_); refine gl_ (some 61) rfl Try.func30 #[.slice A1 l1.length c1] ?_; (with_reducible refine (laws_toOpOpS.calls kj18 _ _ l1 E9 _ ?side1 ?side2 A72.out).mono ?_); (case side1 => repeat (first | exact (Kd.C_below HR1.out HB.out) | (with_reducible refine yaq ?_ _) | (with_reducible refine yar ?_ _) | (with_reducible refine yas ?_))); (case side2 => exact HC1.out); rintro e w82 ⟨Z5, rfl, ho0, hb⟩; refine ⟨_, rfl, ?_⟩; replace a6 := yaa (yac (upR a6.out) hb); replace a5 := yaa (yac (upR a5.out) hb); replace a4 := yaa (yac (upR a4.out) hb); replace f7 := yaa (yac (upR f7.out) hb); have h1 := yaa (Kd.R_lower (yav ho0 (Kd.R_lt (upR e8.out))) (yau (by repeat (with_reducible first | exact HB.out | apply yah | apply yab | apply yaf | refine yam ?_ (Aside0.out ‹_›))))); replace e8 := yaa (yat (upR e8.out) (yaw ho0) hb); replace a7 := yaa (yae (upB a7.out) hb); replace a9 := yaa (yae (upB a9.out) hb); replace b0 := yaa (yae (upB b0.out) hb); replace a8 := yaa (yae (upB a8.out) hb); replace HB := yaa (yao (by repeat (with_reducible first | exact HB.out | apply yah | apply yab | apply yaf | refine yam ?_ (Aside0.out ‹_›))) hb); (try clear hb); (try clear hb2); (try clear hk); (try clear hi); (try clear ho0); obtain ⟨J0, J1, L8⟩ := Kd.R_slice h1.out; subst L8) | ((with_reducible refine yap (f := 31) rfl ?_); refine gl_ (some 62) rfl Try.func31 #[.slice r3 h5.length r4, .slice J0 E9.length J1] ?_; (with_reducible refine (laws_eqOpOpS.calls kj18 _ _ h5 _ _ E9 true _ ?side1 ?side2 ?side3 ?side4 A73.out).mono ?_); (case side1 => repeat (first | exact (yal e8.out).2.2 | (with_reducible refine yaq ?_ _) | (with_reducible refine yar ?_ _) | (with_reducible refine yas ?_))); (case side2 => exact (yal e8.out).2.1); (case side3 => repeat (first | exact (yal h1.out).2.2 | (with_reducible refine yaq ?_ _) | (with_reducible refine yar ?_ _) | (with_reducible refine yas ?_))); (case side4 => exact (yal h1.out).2.1); rintro e w84 ⟨rfl, hb⟩; refine ⟨_, rfl, ?_⟩; replace e8 := yaa (yac (upR e8.out) hb); replace a6 := yaa (yac (upR a6.out) hb); replace a5 := yaa (yac (upR a5.out) hb); replace a4 := yaa (yac (upR a4.out) hb); replace f7 := yaa (yac (upR f7.out) hb); replace h1 := yaa (yac (upR h1.out) hb); replace a7 := yaa (yae (upB a7.out) hb); replace a9 := yaa (yae (upB a9.out) hb); replace b0 := yaa (yae (upB b0.out) hb); replace a8 := yaa (yae (upB a8.out) hb); replace HB := yaa (yao (by repeat (with_reducible first | exact HB.out | apply yah | apply yab | apply yaf | refine yam ?_ (Aside0.out ‹_›))) hb); (try clear hb); (try clear hb2); (try clear hk); (try clear hi); have X2 := i3.out; have X3 := g8.out; have X4 := f1.out; have X5 := e3.out; have X6 := d6.out; have X7 := f2.out; obtain ⟨v5, v6, v7⟩ := cc3_ b0.out; obtain ⟨v8, v9⟩ := cf2_ b0.out; have w0 := blk_frozen b0.out 2) | ((with_reducible refine yap (f := 24) rfl ?_); refine gl_ (some 66) rfl Try.func24 #[.agg #[.int .i64 g2, .int .i64 g6, .slice d0 d9.length d1], .int .i64 1] ?_; (with_reducible refine (laws_markRasRaster.calls kj18 g2 g6 (fun k_ => some k_ = (.slice d0 d9.length d1 : Value).ownBlock) (.slice d0 d9.length d1) d9 1 G5 h9 w _ ?side1 ?side2 A75.out).mono ?_); (case side1 => repeat (with_reducible first | exact HB.out | apply yah | apply yab | apply yaf | refine yam ?_ (Aside0.out ‹_›))); (case side2 => exact Kd.R_tight rfl a5.out); rintro e w89 ⟨rfl, hy0, hb, hkp⟩; refine ⟨_, rfl, ?_⟩; replace e8 := yaa (yag (ok' := fun k_ => some k_ ≠ (.slice J0 E9.length J1 : Value).ownBlock) (Kd.R_keptB ((Kd.R_apart' e8.out (Kd.R_typed a5.out) (by decide))) hkp (fun k_ hk_ hs_ => (hk_.2) hs_)) (fun k_ hk_ => hk_.1.1.2)); replace a6 := yaa (yag (ok' := fun k_ => some k_ ≠ (.slice d0 d9.length d1 : Value).ownBlock ∧ some k_ ≠ (.slice b6 b3.length b4 : Value).ownBlock ∧ some k_ ≠ (.slice x0 r5.length x2 : Value).ownBlock) (Kd.R_keptB (a6.out) hkp (fun k_ hk_ hs_ => (hk_.1.1) hs_)) (fun k_ hk_ => ⟨hk_.1.1.1, hk_.1.1.2, hk_.1.2⟩)); replace a4 := yaa (yag (ok' := fun k_ => some k_ ≠ (.slice e1 b5.length d4 : Value).ownBlock ∧ some k_ ≠ (.slice d0 d9.length d1 : Value).ownBlock ∧ some k_ ≠ (.slice x0 r5.length x2 : Value).ownBlock) (Kd.R_keptB (a4.out) hkp (fun k_ hk_ hs_ => (hk_.1.2) hs_)) (fun k_ hk_ => ⟨hk_.1.1.1, hk_.1.1.2, hk_.1.2⟩)); replace a7 := yaa (blk_kept (upB a7.out) hkp (fun hs_ => (fun e_ => (Kd.R_ne a5.out a7.out (by decide)) e_) hs_)); replace a9 := yaa (blk_kept (upB a9.out) hkp (fun hs_ => (fun e_ => (Kd.R_ne a5.out a9.out (by decide)) e_) hs_)); replace b0 := yaa (blk_kept (upB b0.out) hkp (fun hs_ => (fun e_ => (Kd.R_ne a5.out b0.out (by decide)) e_) hs_)); replace a8 := yaa (blk_kept (upB a8.out) hkp (fun hs_ => (fun e_ => (Kd.R_ne a5.out a8.out (by decide)) e_) hs_)); replace f7 := yaa (yag (ok' := fun k_ => some k_ ≠ (.slice e1 b5.length d4 : Value).ownBlock ∧ some k_ ≠ (.slice d0 d9.length d1 : Value).ownBlock ∧ some k_ ≠ (.slice b6 b3.length b4 : Value).ownBlock) (Kd.R_keptB (f7.out) hkp (fun k_ hk_ hs_ => (hk_.1.2) hs_)) (fun k_ hk_ => ⟨hk_.1.1.1.2, hk_.1.1.2, hk_.1.2⟩)); replace h1 := yaa (yag (ok' := fun k_ => some k_ ≠ (.slice r3 h5.length r4 : Value).ownBlock) (Kd.R_keptB ((Kd.R_apart' h1.out (Kd.R_typed a5.out) (by decide))) hkp (fun k_ hk_ hs_ => (hk_.2) hs_)) (fun k_ hk_ => hk_.1.1.2)); replace a5 := yaa (Kd.R_reok rfl hy0 (fun k_ e_ => a5.out.1 k_ e_)); replace HB := yaa (hb); (try clear hb); (try clear hkp); (try clear hy0)) | ((with_reducible refine yap (f := 32) rfl ?_); refine gl_ (some 69) rfl Try.func32 #[.slice r3 h5.length r4, .int .i64 G5] ?_; (with_reducible refine (laws_markOpOpS.calls kj18 (fun k_ => some k_ = (.slice r3 h5.length r4 : Value).ownBlock) (.slice r3 h5.length r4) h5 G5 F0 L7 w _ ?side1 ?side2 A76.out).mono ?_); (case side1 => repeat (with_reducible first | exact HB.out | apply yah | apply yab | apply yaf | refine yam ?_ (Aside0.out ‹_›))); (case side2 => exact Kd.R_tight rfl e8.out); rintro e w90 ⟨rfl, hy0, hb, hkp⟩; refine ⟨_, rfl, ?_⟩; replace a6 := yaa (yag (ok' := fun k_ => some k_ ≠ (.slice d0 d9.length d1 : Value).ownBlock ∧ some k_ ≠ (.slice b6 b3.length b4 : Value).ownBlock ∧ some k_ ≠ (.slice x0 r5.length x2 : Value).ownBlock) (Kd.R_keptB ((Kd.R_apart' a6.out (Kd.R_typed e8.out) (by decide))) hkp (fun k_ hk_ hs_ => (hk_.2) hs_)) (fun k_ hk_ => ⟨hk_.1.1.1, hk_.1.1.2.1, hk_.1.1.2.2⟩)); replace a5 := yaa (yag (ok' := fun k_ => some k_ ≠ (.slice e1 b5.length d4 : Value).ownBlock ∧ some k_ ≠ (.slice b6 b3.length b4 : Value).ownBlock ∧ some k_ ≠ (.slice x0 r5.length x2 : Value).ownBlock) (Kd.R_keptB ((Kd.R_apart' a5.out (Kd.R_typed e8.out) (by decide))) hkp (fun k_ hk_ hs_ => (hk_.2) hs_)) (fun k_ hk_ => ⟨hk_.1.1.1.1, hk_.1.1.1.2, hk_.1.1.2⟩)); replace a4 := yaa (yag (ok' := fun k_ => some k_ ≠ (.slice e1 b5.length d4 : Value).ownBlock ∧ some k_ ≠ (.slice d0 d9.length d1 : Value).ownBlock ∧ some k_ ≠ (.slice x0 r5.length x2 : Value).ownBlock) (Kd.R_keptB ((Kd.R_apart' a4.out (Kd.R_typed e8.out) (by decide))) hkp (fun k_ hk_ hs_ => (hk_.2) hs_)) (fun k_ hk_ => ⟨hk_.1.1.1, hk_.1.1.2.1, hk_.1.1.2.2⟩)); replace a7 := yaa (blk_kept (upB a7.out) hkp (fun hs_ => (fun e_ => (Kd.R_ne e8.out a7.out (by decide)) e_) hs_)); replace a9 := yaa (blk_kept (upB a9.out) hkp (fun hs_ => (fun e_ => (Kd.R_ne e8.out a9.out (by decide)) e_) hs_)); replace b0 := yaa (blk_kept (upB b0.out) hkp (fun hs_ => (fun e_ => (Kd.R_ne e8.out b0.out (by decide)) e_) hs_)); replace a8 := yaa (blk_kept (upB a8.out) hkp (fun hs_ => (fun e_ => (Kd.R_ne e8.out a8.out (by decide)) e_) hs_)); replace f7 := yaa (yag (ok' := fun k_ => some k_ ≠ (.slice e1 b5.length d4 : Value).ownBlock ∧ some k_ ≠ (.slice d0 d9.length d1 : Value).ownBlock ∧ some k_ ≠ (.slice b6 b3.length b4 : Value).ownBlock) (Kd.R_keptB ((Kd.R_apart' f7.out (Kd.R_typed e8.out) (by decide))) hkp (fun k_ hk_ hs_ => (hk_.2) hs_)) (fun k_ hk_ => ⟨hk_.1.1.1, hk_.1.1.2.1, hk_.1.1.2.2⟩)); replace e8 := yaa (Kd.R_reok rfl hy0 (fun k_ e_ => e8.out.1 k_ e_)); replace h1 := yaa (yag (ok' := fun k_ => some k_ ≠ (.slice r3 h5.length r4 : Value).ownBlock) (Kd.R_keptB (h1.out) hkp (fun k_ hk_ hs_ => (hk_) hs_)) (fun k_ hk_ => hk_.1)); replace HB := yaa (hb); (try clear hb); (try clear hkp); (try clear hy0)))
        (try simp only [Act.put, List.setIfInBounds_toArray, List.set_cons_zero, List.set_cons_succ])
        go_cut [82] (fun v82 wc => ∃ (kq : Nat) (q8 : Bool), v82 = .bool q8 ∧ yax (laws_FnExactOpsDo.j1 kq l1 w9 q8 a0_0 a0_1 l0_2 f3 f4 b5 d3 d5 b3 = some r) ∧ yax (kq ≤ kj18) ∧ yax (Kd.R k36 36 wc w.heap.size (fun k_ => some k_ ≠ ((.slice d0 d9.length d1) : Value).ownBlock ∧ some k_ ≠ ((.slice b6 b3.length b4) : Value).ownBlock) (.slice e1 b5.length d4) b5) ∧ yax (Kd.R k36 36 wc w.heap.size (fun k_ => some k_ ≠ ((.slice e1 b5.length d4) : Value).ownBlock ∧ some k_ ≠ ((.slice b6 b3.length b4) : Value).ownBlock) (.slice d0 d9.length d1) h9) ∧ yax (Kd.R k36 36 wc w.heap.size (fun k_ => some k_ ≠ ((.slice e1 b5.length d4) : Value).ownBlock ∧ some k_ ≠ ((.slice d0 d9.length d1) : Value).ownBlock) (.slice b6 b3.length b4) b3) ∧ yax (wc.heap[e6]? = some (.cells #[.int .i64 a0_0, .int .i64 a0_1, (.slice A0_2 l0_2.length c0_2)] 44 (0, 0))) ∧ yax (wc.heap[c0]? = some (.cells #[.int .i64 f3, .int .i64 f4, (.slice e1 b5.length d4)] 25 (0, 0))) ∧ yax (wc.heap[b8]? = some (.cells #[.int .i64 g2, .int .i64 g6, (.slice d0 d9.length d1)] 25 (0, 0))) ∧ yax (wc.heap[b1]? = some (.cells #[.int .i64 d3, .int .i64 d5, (.slice b6 b3.length b4)] 25 (0, 0))) ∧ yax (Below w.heap.size w wc))
        case first =>
         have H := HC77.out; clear HC77
         by_cases c91 : F0 < 0
         ·
          rw [if_pos c91] at H
          have i9 : decide (F0 < 0) = true := decide_eq_true c91; clear c91
          (first | rw [i9] | (simp only [i64_w, i32_w]; rw [i9]) | skip)
          have H' := yaa H; clear H
          go_wp2
          go_meet
          case rel => exact ⟨_, (true), (by first | rfl | (simp; done) | (simp [*]; done)), H', ⟨by have := HJ18.out; first | omega | exact Nat.le_refl _⟩, ⟨by (with_reducible repeat (first | apply yai | apply yaj | apply yak)); exact yag a6.out (fun _ hk => ⟨hk.1, hk.2.1⟩)⟩, ⟨by (with_reducible repeat (first | apply yai | apply yaj | apply yak)); exact yag a5.out (fun _ hk => ⟨hk.1, hk.2.1⟩)⟩, ⟨by (with_reducible repeat (first | apply yai | apply yaj | apply yak)); exact yag a4.out (fun _ hk => ⟨hk.1, hk.2.1⟩)⟩, ⟨by exact upB a7.out⟩, ⟨by exact upB a9.out⟩, ⟨by exact upB b0.out⟩, ⟨by exact upB a8.out⟩, ⟨by repeat (with_reducible first | exact HB.out | apply yah | apply yab | apply yaf | refine yam ?_ (Aside0.out ‹_›))⟩⟩
         ·
          rw [if_neg c91] at H
          have i9 : decide (F0 < 0) = false := decide_eq_false c91; clear c91
          (first | rw [i9] | (simp only [i64_w, i32_w]; rw [i9]) | skip)
          replace H := Option.bind_eq_some_iff.mp H; obtain ⟨L9, J2, H⟩ := H; (try dsimp only at H); have A92 := yaa J2; clear J2
          by_cases c93 : L9 = true
          ·
           subst c93
           rw [if_pos rfl] at H
           have H' := yaa H; clear H; have X8 := f8.out; have X9 := e4.out; have Y0 := e5.out; have Y1 := b9.out; have Y2 := f2.out; have Y3 := d6.out; obtain ⟨w1, w2, w3⟩ := cc3_ a8.out; obtain ⟨w4, w6, w8⟩ := cf3_ a8.out; have Y4 := f0.out; have Y5 := e2.out; have Y6 := e3.out; have Y7 := f1.out; obtain ⟨r6, r7, r8⟩ := cc3_ a9.out; obtain ⟨r9, s6, s7⟩ := cf3_ a9.out
           go_wp2_with (first | (go_at_call 23; (with_reducible refine (laws_eqRasRaster.calls kj18 d3 d5 _ _ b3 f3 f4 _ _ b5 true _ ?side1 ?side2 ?side3 ?side4 A92.out).mono ?_); (case side1 => repeat (first | exact (yal a4.out).2.2 | (with_reducible refine yaq ?_ _) | (with_reducible refine yar ?_ _) | (with_reducible refine yas ?_))); (case side2 => exact (yal a4.out).2.1); (case side3 => repeat (first | exact (yal a6.out).2.2 | (with_reducible refine yaq ?_ _) | (with_reducible refine yar ?_ _) | (with_reducible refine yas ?_))); (case side4 => exact (yal a6.out).2.1); rintro e w101 ⟨rfl, hb⟩; replace e8 := yaa (yac (upR e8.out) hb); replace a6 := yaa (yac (upR a6.out) hb); replace a5 := yaa (yac (upR a5.out) hb); replace a4 := yaa (yac (upR a4.out) hb); replace f7 := yaa (yac (upR f7.out) hb); replace h1 := yaa (yac (upR h1.out) hb); replace a7 := yaa (yae (upB a7.out) hb); replace a9 := yaa (yae (upB a9.out) hb); replace b0 := yaa (yae (upB b0.out) hb); replace a8 := yaa (yae (upB a8.out) hb); replace HB := yaa (yao (by repeat (with_reducible first | exact HB.out | apply yah | apply yab | apply yaf | refine yam ?_ (Aside0.out ‹_›))) hb); (try clear hb); (try clear hb2); (try clear hk); (try clear hi)))
           go_meet
           case rel => exact ⟨_, ((E8 != w9)), (by first | rfl | (simp; done) | (simp [*]; done)), H', ⟨by have := HJ18.out; first | omega | exact Nat.le_refl _⟩, ⟨by (with_reducible repeat (first | apply yai | apply yaj | apply yak)); exact yag a6.out (fun _ hk => ⟨hk.1, hk.2.1⟩)⟩, ⟨by (with_reducible repeat (first | apply yai | apply yaj | apply yak)); exact yag a5.out (fun _ hk => ⟨hk.1, hk.2.1⟩)⟩, ⟨by (with_reducible repeat (first | apply yai | apply yaj | apply yak)); exact yag a4.out (fun _ hk => ⟨hk.1, hk.2.1⟩)⟩, ⟨by exact upB a7.out⟩, ⟨by exact upB a9.out⟩, ⟨by exact upB b0.out⟩, ⟨by exact upB a8.out⟩, ⟨by repeat (with_reducible first | exact HB.out | apply yah | apply yab | apply yaf | refine yam ?_ (Aside0.out ‹_›))⟩⟩
          ·
           replace c93 := Bool.eq_false_iff.mpr c93
           subst c93
           rw [if_neg (show ¬ (false = true) by decide)] at H
           have H' := yaa H; clear H; have M0 := f8.out; have M1 := e4.out; have M2 := e5.out; have M3 := b9.out; have M4 := f2.out; have M5 := d6.out; obtain ⟨s8, s9, t0⟩ := cc3_ a8.out; obtain ⟨t1, t2, t3⟩ := cf3_ a8.out; have M6 := f0.out; have M7 := e2.out; have M8 := e3.out; have M9 := f1.out; obtain ⟨t4, t5, t6⟩ := cc3_ a9.out; obtain ⟨t7, t8, t9⟩ := cf3_ a9.out
           go_wp2_with (first | (go_at_call 23; (with_reducible refine (laws_eqRasRaster.calls kj18 d3 d5 _ _ b3 f3 f4 _ _ b5 false _ ?side1 ?side2 ?side3 ?side4 A92.out).mono ?_); (case side1 => repeat (first | exact (yal a4.out).2.2 | (with_reducible refine yaq ?_ _) | (with_reducible refine yar ?_ _) | (with_reducible refine yas ?_))); (case side2 => exact (yal a4.out).2.1); (case side3 => repeat (first | exact (yal a6.out).2.2 | (with_reducible refine yaq ?_ _) | (with_reducible refine yar ?_ _) | (with_reducible refine yas ?_))); (case side4 => exact (yal a6.out).2.1); rintro e w109 ⟨rfl, hb⟩; replace e8 := yaa (yac (upR e8.out) hb); replace a6 := yaa (yac (upR a6.out) hb); replace a5 := yaa (yac (upR a5.out) hb); replace a4 := yaa (yac (upR a4.out) hb); replace f7 := yaa (yac (upR f7.out) hb); replace h1 := yaa (yac (upR h1.out) hb); replace a7 := yaa (yae (upB a7.out) hb); replace a9 := yaa (yae (upB a9.out) hb); replace b0 := yaa (yae (upB b0.out) hb); replace a8 := yaa (yae (upB a8.out) hb); replace HB := yaa (yao (by repeat (with_reducible first | exact HB.out | apply yah | apply yab | apply yaf | refine yam ?_ (Aside0.out ‹_›))) hb); (try clear hb); (try clear hb2); (try clear hk); (try clear hi)))
           go_meet
           case rel => exact ⟨_, (true), (by first | rfl | (simp; done) | (simp [*]; done)), H', ⟨by have := HJ18.out; first | omega | exact Nat.le_refl _⟩, ⟨by (with_reducible repeat (first | apply yai | apply yaj | apply yak)); exact yag a6.out (fun _ hk => ⟨hk.1, hk.2.1⟩)⟩, ⟨by (with_reducible repeat (first | apply yai | apply yaj | apply yak)); exact yag a5.out (fun _ hk => ⟨hk.1, hk.2.1⟩)⟩, ⟨by (with_reducible repeat (first | apply yai | apply yaj | apply yak)); exact yag a4.out (fun _ hk => ⟨hk.1, hk.2.1⟩)⟩, ⟨by exact upB a7.out⟩, ⟨by exact upB a9.out⟩, ⟨by exact upB b0.out⟩, ⟨by exact upB a8.out⟩, ⟨by repeat (with_reducible first | exact HB.out | apply yah | apply yab | apply yaf | refine yam ?_ (Aside0.out ‹_›))⟩⟩
        case rest =>
         clear HC77; (try clear c1); (try clear c2); (try clear p2); (try clear c3); (try clear c4); (try clear E6); (try clear c5); (try clear c6); (try clear c7); (try clear c8); (try clear c9); (try clear E7); (try clear c10); (try clear c20); (try clear c21); (try clear c23); (try clear c24); (try clear c27); (try clear c28); (try clear c29); (try clear c30); (try clear c31); (try clear c32); (try clear c36); (try clear c37); (try clear c45); (try clear c46); (try clear c47); (try clear c51); (try clear c52); (try clear c53); (try clear c54); (try clear c56); (try clear c57); (try clear c60); (try clear c61); (try clear c62); (try clear c64); (try clear c65); (try clear c68); (try clear c71); (try clear c74); (try clear c85); (try clear c86); (try clear c87); (try clear c91); (try clear i9); (try clear c93); (try clear c94); (try clear c95); (try clear c96); (try clear c98); (try clear c99); (try clear c102); (try clear c103); (try clear c104); (try clear c106); (try clear c107); (try clear r6); (try clear r7); (try clear r8); (try clear s8); (try clear s9); (try clear t0); (try clear t4); (try clear t5); (try clear t6); (try clear j3); (try clear j4); (try clear j5); (try clear j9); (try clear k0); (try clear k1); (try clear k5); (try clear k6); (try clear k7); (try clear l2); (try clear l3); (try clear l4); (try clear l8); (try clear l9); (try clear m0); (try clear m4); (try clear m5); (try clear m6); (try clear n0); (try clear n1); (try clear n2); (try clear n6); (try clear n7); (try clear n8); (try clear o3); (try clear o4); (try clear o5); (try clear o9); (try clear p0); (try clear p1); (try clear p6); (try clear p7); (try clear p8); (try clear q2); (try clear q3); (try clear q4); (try clear u4); (try clear u5); (try clear u6); (try clear v5); (try clear v6); (try clear v7); (try clear w1); (try clear w2); (try clear w3); (try clear r9); (try clear s6); (try clear s7); (try clear t1); (try clear t2); (try clear t3); (try clear t7); (try clear t8); (try clear t9); (try clear j6); (try clear j7); (try clear j8); (try clear k2); (try clear k3); (try clear k4); (try clear k8); (try clear k9); (try clear l0); (try clear l5); (try clear l6); (try clear l7); (try clear m1); (try clear m2); (try clear m3); (try clear m7); (try clear m8); (try clear m9); (try clear n3); (try clear n4); (try clear n5); (try clear n9); (try clear o0); (try clear o1); (try clear o6); (try clear o7); (try clear o8); (try clear p3); (try clear p4); (try clear p5); (try clear p9); (try clear q0); (try clear q1); (try clear q5); (try clear q6); (try clear q7); (try clear u7); (try clear u8); (try clear v0); (try clear v8); (try clear v9); (try clear w0); (try clear w4); (try clear w6); (try clear w8); (try clear p2); obtain ⟨kq, q8, rfl, HA, HJ76, a6, a5, a4, a7, a9, b0, a8, HB⟩ := hcut; have hl125002_76 := (yal a5.out).1
         rw [hl125002_76] at a5
         (try simp only [hl125002_76])
         (try simp only [hl125002_76] at a7)
         (try simp only [hl125002_76] at a9)
         (try simp only [hl125002_76] at b0)
         (try simp only [hl125002_76] at a8)
         (try simp only [hl125002_76] at a6)
         (try simp only [hl125002_76] at a4)
         cases kq with
         | zero => exact absurd HA.out (by simp [laws_FnExactOpsDo.j1])
         | succ kj76 =>
          have H := HA.out; clear HA
          simp only [laws_FnExactOpsDo.j1] at H
          by_cases z0 : q8 = true
          ·
           subst z0
           rw [if_pos rfl] at H
           rw [hrt] at H
           exact absurd H (by simp)
          ·
           replace z0 := Bool.eq_false_iff.mpr z0
           subst z0
           rw [if_neg (show ¬ (false = true) by decide)] at H
           replace H := Option.bind_eq_some_iff.mp H; obtain ⟨⟨i8, q9⟩, F3, H⟩ := H; (try dsimp only at H); have N5 := yaa F3; clear F3; replace H := Option.bind_eq_some_iff.mp H; obtain ⟨r0, F4, H⟩ := H; (try dsimp only at H); have N6 := yaa F4; clear F4
           by_cases v2 : r0 < 0
           ·
            rw [if_pos v2] at H
            have z1 : decide (r0 < 0) = true := decide_eq_true v2; clear v2
            rw [hrt] at H
            exact absurd H (by simp)
           ·
            rw [if_neg v2] at H
            have z1 : decide (r0 < 0) = false := decide_eq_false v2; clear v2
            by_cases u0 : r0 = i8
            ·
             rw [if_pos u0] at H
             have z2 : (r0 == i8) = true := beq_iff_eq.mpr u0; have z3 : (r0 != i8) = false := bne_eq_false_iff_eq.mpr u0; clear u0; replace H := Option.bind_eq_some_iff.mp H; obtain ⟨⟨G6, G7, v3⟩, F5, H⟩ := H; (try dsimp only at H); have N7 := yaa F5; clear F5; replace H := Option.bind_eq_some_iff.mp H; obtain ⟨G8, F6, H⟩ := H; (try dsimp only at H); have N8 := yaa F6; clear F6; replace H := Option.bind_eq_some_iff.mp H; obtain ⟨⟨f5, g1, e9, J3⟩, F7, H⟩ := H; (try dsimp only at H); have N9 := yaa F7; clear F7; have HC118 := yaa H; clear H; have O0 := f8.out; have O1 := e4.out; have O2 := e5.out; have O3 := b9.out; have O4 := f2.out; have O5 := d6.out; obtain ⟨z4, z5, z6⟩ := cc3_ a8.out; obtain ⟨z7, z8, z9⟩ := cf3_ a8.out
             go_upto_region 32 with (first | ((with_reducible refine yap (f := 24) rfl ?_); refine gl_ (some 85) rfl Try.func24 #[.agg #[.int .i64 d3, .int .i64 d5, .slice b6 b3.length b4], .int .i64 1] ?_; (with_reducible refine (laws_markRasRaster.calls kj76 d3 d5 (fun k_ => some k_ = (.slice b6 b3.length b4 : Value).ownBlock) (.slice b6 b3.length b4) b3 1 i8 q9 w _ ?side1 ?side2 N5.out).mono ?_); (case side1 => repeat (with_reducible first | exact HB.out | apply yah | apply yab | apply yaf | refine yam ?_ (Aside0.out ‹_›))); (case side2 => exact Kd.R_tight rfl a4.out); rintro e w123 ⟨rfl, hy0, hb, hkp⟩; refine ⟨_, rfl, ?_⟩; replace a6 := yaa (yag (ok' := fun k_ => some k_ ≠ (.slice d0 h9.length d1 : Value).ownBlock ∧ some k_ ≠ (.slice b6 b3.length b4 : Value).ownBlock) (Kd.R_keptB (a6.out) hkp (fun k_ hk_ hs_ => (hk_.2) hs_)) (fun k_ hk_ => ⟨hk_.1.1, hk_.1.2⟩)); replace a5 := yaa (yag (ok' := fun k_ => some k_ ≠ (.slice e1 b5.length d4 : Value).ownBlock ∧ some k_ ≠ (.slice b6 b3.length b4 : Value).ownBlock) (Kd.R_keptB (a5.out) hkp (fun k_ hk_ hs_ => (hk_.2) hs_)) (fun k_ hk_ => ⟨hk_.1.1, hk_.1.2⟩)); replace a7 := yaa (blk_kept (upB a7.out) hkp (fun hs_ => (fun e_ => (Kd.R_ne a4.out a7.out (by decide)) e_) hs_)); replace a9 := yaa (blk_kept (upB a9.out) hkp (fun hs_ => (fun e_ => (Kd.R_ne a4.out a9.out (by decide)) e_) hs_)); replace b0 := yaa (blk_kept (upB b0.out) hkp (fun hs_ => (fun e_ => (Kd.R_ne a4.out b0.out (by decide)) e_) hs_)); replace a8 := yaa (blk_kept (upB a8.out) hkp (fun hs_ => (fun e_ => (Kd.R_ne a4.out a8.out (by decide)) e_) hs_)); replace a4 := yaa (Kd.R_reok rfl hy0 (fun k_ e_ => a4.out.1 k_ e_)); replace HB := yaa (hb); (try clear hb); (try clear hkp); (try clear hy0); obtain ⟨A0, A2, A4⟩ := cc3_ a8.out; obtain ⟨A5, A6⟩ := cf2_ a8.out; have A7 := blk_frozen a8.out 2) | ((with_reducible refine yap (f := 25) rfl ?_); refine goesL_ (some 88) rfl rfl Try.func25 (by kernel_rfl) rfl #[.agg #[.int .i64 d3, .int .i64 d5, .slice b6 q9.length b4], .int .i64 1] rfl (by (try simp only [List.map_toArray, List.map_cons, List.map_nil]); first | done | (rw [show q9.length = b3.length from (yal a4.out).1.symm] <;> rfl) | rfl | (simp only [List.length_drop, List.length_take]; rfl)) ?_; (with_reducible refine (laws_heldRasRaster.calls kj76 d3 d5 _ _ q9 1 r0 _ ?side1 ?side2 N6.out).mono ?_); (case side1 => repeat (first | exact (yal a4.out).2.2 | (with_reducible refine yaq ?_ _) | (with_reducible refine yar ?_ _) | (with_reducible refine yas ?_))); (case side2 => rw [show q9.length = b3.length from (yal a4.out).1.symm]; exact (yal a4.out).2.1); rintro e w125 ⟨rfl, hb⟩; refine ⟨_, rfl, ?_⟩; replace a6 := yaa (yac (upR a6.out) hb); replace a5 := yaa (yac (upR a5.out) hb); replace a4 := yaa (yac (upR a4.out) hb); replace a7 := yaa (yae (upB a7.out) hb); replace a9 := yaa (yae (upB a9.out) hb); replace b0 := yaa (yae (upB b0.out) hb); replace a8 := yaa (yae (upB a8.out) hb); replace HB := yaa (yao (by repeat (with_reducible first | exact HB.out | apply yah | apply yab | apply yaf | refine yam ?_ (Aside0.out ‹_›))) hb); (try clear hb); (try clear hb2); (try clear hk); (try clear hi); have O6 := e2.out; have O7 := f0.out; have O8 := g8.out; have O9 := i3.out; obtain ⟨A9, B0, B1⟩ := cc3_ a7.out; obtain ⟨B2, B3⟩ := cf2_ a7.out; have B4 := blk_frozen a7.out 2) | ((with_reducible refine yap (f := 21) rfl ?_); refine gl_ (some 96) rfl Try.func21 #[.agg #[.int .i64 a0_0, .int .i64 a0_1, .slice A0_2 l0_2.length c0_2]] ?_; (with_reducible refine (laws_toRasRaster.calls kj76 a0_0 a0_1 _ _ l0_2 G6 G7 v3 _ ?side1 ?side2 N7.out).mono ?_); (case side1 => repeat (first | exact (Kd.C_below HR0_2.out HB.out) | (with_reducible refine yaq ?_ _) | (with_reducible refine yar ?_ _) | (with_reducible refine yas ?_))); (case side2 => exact HC0_2.out); rintro e w129 ⟨Z6, rfl, ho0, hb⟩; refine ⟨_, rfl, ?_⟩; have g7 := yaa (Kd.R_lower (yav (yav (yav ho0 (Kd.R_lt (upR a6.out))) (Kd.R_lt (upR a5.out))) (Kd.R_lt (upR a4.out))) (yau (by repeat (with_reducible first | exact HB.out | apply yah | apply yab | apply yaf | refine yam ?_ (Aside0.out ‹_›))))); replace a6 := yaa (yat (upR a6.out) (yaw ho0) hb); replace a5 := yaa (yat (upR a5.out) (yaw ho0) hb); replace a4 := yaa (yat (upR a4.out) (yaw ho0) hb); replace a7 := yaa (yae (upB a7.out) hb); replace a9 := yaa (yae (upB a9.out) hb); replace b0 := yaa (yae (upB b0.out) hb); replace a8 := yaa (yae (upB a8.out) hb); replace HB := yaa (yao (by repeat (with_reducible first | exact HB.out | apply yah | apply yab | apply yaf | refine yam ?_ (Aside0.out ‹_›))) hb); (try clear hb); (try clear hb2); (try clear hk); (try clear hi); (try clear ho0)) | ((with_reducible refine yap (f := 30) rfl ?_); refine gl_ (some 98) rfl Try.func30 #[.slice A1 l1.length c1] ?_; (with_reducible refine (laws_toOpOpS.calls kj76 _ _ l1 G8 _ ?side1 ?side2 N8.out).mono ?_); (case side1 => repeat (first | exact (Kd.C_below HR1.out HB.out) | (with_reducible refine yaq ?_ _) | (with_reducible refine yar ?_ _) | (with_reducible refine yas ?_))); (case side2 => exact HC1.out); rintro e w130 ⟨Z7, rfl, ho0, hb⟩; refine ⟨_, rfl, ?_⟩; replace a6 := yaa (yac (upR a6.out) hb); replace a5 := yaa (yac (upR a5.out) hb); replace a4 := yaa (yac (upR a4.out) hb); replace g7 := yaa (yac (upR g7.out) hb); have h7 := yaa (Kd.R_lower ho0 (yau (by repeat (with_reducible first | exact HB.out | apply yah | apply yab | apply yaf | refine yam ?_ (Aside0.out ‹_›))))); replace a7 := yaa (yae (upB a7.out) hb); replace a9 := yaa (yae (upB a9.out) hb); replace b0 := yaa (yae (upB b0.out) hb); replace a8 := yaa (yae (upB a8.out) hb); replace HB := yaa (yao (by repeat (with_reducible first | exact HB.out | apply yah | apply yab | apply yaf | refine yam ?_ (Aside0.out ‹_›))) hb); (try clear hb); (try clear hb2); (try clear hk); (try clear hi); (try clear ho0); obtain ⟨u1, u2, J4⟩ := Kd.R_slice g7.out; subst J4; obtain ⟨J5, J6, J7⟩ := Kd.R_slice h7.out; subst J7) | ((with_reducible refine yap (f := 27) rfl ?_); refine gl_ (some 99) rfl Try.func27 #[.agg #[.int .i64 G6, .int .i64 G7, .slice u1 v3.length u2], .slice J5 G8.length J6] ?_; (with_reducible refine (impl_OpsDo.calls G6 G7 _ _ v3 _ _ G8 f5 g1 e9 J3 _ ?side1 ?side2 ?side3 ?side4 N9.out).mono ?_); (case side1 => repeat (first | exact (yal g7.out).2.2 | (with_reducible refine yaq ?_ _) | (with_reducible refine yar ?_ _) | (with_reducible refine yas ?_))); (case side2 => exact (yal g7.out).2.1); (case side3 => repeat (first | exact (yal h7.out).2.2 | (with_reducible refine yaq ?_ _) | (with_reducible refine yar ?_ _) | (with_reducible refine yas ?_))); (case side4 => exact (yal h7.out).2.1); rintro e w133 ⟨Z8, rfl, ho0, hb⟩; refine ⟨_, rfl, ?_⟩; replace h7 := yaa (yac (upR h7.out) hb); have h2 := yaa (Kd.R_lower (yav (yav (yav (yav ho0 (Kd.R_lt (upR a6.out))) (Kd.R_lt (upR a5.out))) (Kd.R_lt (upR a4.out))) (Kd.R_lt (upR g7.out))) (yau (by repeat (with_reducible first | exact HB.out | apply yah | apply yab | apply yaf | refine yam ?_ (Aside0.out ‹_›))))); replace a6 := yaa (yat (upR a6.out) (yaw ho0) hb); replace a5 := yaa (yat (upR a5.out) (yaw ho0) hb); replace a4 := yaa (yat (upR a4.out) (yaw ho0) hb); replace g7 := yaa (yat (upR g7.out) (yaw ho0) hb); replace a7 := yaa (yae (upB a7.out) hb); replace a9 := yaa (yae (upB a9.out) hb); replace b0 := yaa (yae (upB b0.out) hb); replace a8 := yaa (yae (upB a8.out) hb); replace HB := yaa (yao (by repeat (with_reducible first | exact HB.out | apply yah | apply yab | apply yaf | refine yam ?_ (Aside0.out ‹_›))) hb); (try clear hb); (try clear hb2); (try clear hk); (try clear hi); (try clear ho0)) | ((with_reducible refine gate_dst (N := 15) rfl ?_); refine bx_ 15 #[.int .i64 0, .int .i64 0, .slice none 0 0] 25 ?_; intro b2 hg w134 hbox hb; replace a6 := yaa (yac (upR a6.out) hb); replace a5 := yaa (yac (upR a5.out) hb); replace a4 := yaa (yac (upR a4.out) hb); replace g7 := yaa (yac (upR g7.out) hb); replace h7 := yaa (yac (upR h7.out) hb); replace h2 := yaa (yac (upR h2.out) hb); have b7 := yaa (hbox); have J8 := yaa ((by rw [hg]; exact (yau (by repeat (with_reducible first | exact HB.out | apply yah | apply yab | apply yaf | refine yam ?_ (Aside0.out ‹_›)))) : w.heap.size ≤ b2)); replace HB := yaa (yao (by repeat (with_reducible first | exact HB.out | apply yah | apply yab | apply yaf | refine yam ?_ (Aside0.out ‹_›))) hb); have Y8 := J8; have g3 := yaa ((by rw [hg]; exact Nat.ne_of_lt (blk_lt (upB a7.out)) : e6 ≠ b2)); replace a7 := yaa (yae (upB a7.out) hb); have i4 := yaa g3.out.symm; have g4 := yaa ((by rw [hg]; exact Nat.ne_of_lt (blk_lt (upB a9.out)) : c0 ≠ b2)); replace a9 := yaa (yae (upB a9.out) hb); have i5 := yaa g4.out.symm; have g5 := yaa ((by rw [hg]; exact Nat.ne_of_lt (blk_lt (upB b0.out)) : b8 ≠ b2)); replace b0 := yaa (yae (upB b0.out) hb); have i6 := yaa g5.out.symm; have f9 := yaa ((by rw [hg]; exact Nat.ne_of_lt (blk_lt (upB a8.out)) : b1 ≠ b2)); replace a8 := yaa (yae (upB a8.out) hb); have h8 := yaa f9.out.symm; clear hb hbox hg; have P0 := i4.out; have P1 := g3.out; have P2 := i5.out; have P3 := g4.out; have P4 := i6.out; have P5 := g5.out; have P6 := h8.out; have P7 := f9.out; obtain ⟨B5, B6, B7⟩ := cc3_ b7.out; obtain ⟨B8, B9, C0⟩ := cf3_ b7.out; obtain ⟨d7, d2, J9⟩ := Kd.R_slice h2.out; subst J9))
             (try simp only [Act.put, List.setIfInBounds_toArray, List.set_cons_zero, List.set_cons_succ])
             go_cut [110] (fun H8 wc => ∃ (kq : Nat) (i1 : Bool), H8 = .bool i1 ∧ yax (laws_FnExactOpsDo.j2 kq i8 i1 d3 d5 q9 = some r) ∧ yax (kq ≤ kj76) ∧ yax (Kd.R k36 36 wc w.heap.size (fun k_ => some k_ ≠ ((.slice d0 h9.length d1) : Value).ownBlock ∧ some k_ ≠ ((.slice b6 b3.length b4) : Value).ownBlock ∧ some k_ ≠ ((.slice d7 e9.length d2) : Value).ownBlock) (.slice e1 b5.length d4) b5) ∧ yax (Kd.R k36 36 wc w.heap.size (fun k_ => some k_ ≠ ((.slice e1 b5.length d4) : Value).ownBlock ∧ some k_ ≠ ((.slice b6 b3.length b4) : Value).ownBlock ∧ some k_ ≠ ((.slice d7 e9.length d2) : Value).ownBlock) (.slice d0 h9.length d1) h9) ∧ yax (Kd.R k36 36 wc w.heap.size (fun k_ => some k_ ≠ ((.slice e1 b5.length d4) : Value).ownBlock ∧ some k_ ≠ ((.slice d0 h9.length d1) : Value).ownBlock ∧ some k_ ≠ ((.slice d7 e9.length d2) : Value).ownBlock) (.slice b6 b3.length b4) q9) ∧ yax (Kd.R k36 36 wc w.heap.size (fun k_ => some k_ ≠ ((.slice e1 b5.length d4) : Value).ownBlock ∧ some k_ ≠ ((.slice d0 h9.length d1) : Value).ownBlock ∧ some k_ ≠ ((.slice b6 b3.length b4) : Value).ownBlock) (.slice d7 e9.length d2) e9) ∧ yax (wc.heap[e6]? = some (.cells #[.int .i64 a0_0, .int .i64 a0_1, (.slice A0_2 l0_2.length c0_2)] 44 (0, 0))) ∧ yax (wc.heap[c0]? = some (.cells #[.int .i64 f3, .int .i64 f4, (.slice e1 b5.length d4)] 25 (0, 0))) ∧ yax (wc.heap[b8]? = some (.cells #[.int .i64 g2, .int .i64 g6, (.slice d0 h9.length d1)] 25 (0, 0))) ∧ yax (wc.heap[b1]? = some (.cells #[.int .i64 d3, .int .i64 d5, (.slice b6 b3.length b4)] 25 (0, 0))) ∧ yax (wc.heap[b2]? = some (.cells #[.int .i64 f5, .int .i64 g1, (.slice d7 e9.length d2)] 25 (0, 0))) ∧ yax (Below w.heap.size w wc))
             case first =>
              have H := HC118.out; clear HC118; replace H := Option.bind_eq_some_iff.mp H; obtain ⟨P8, F8, H⟩ := H; (try dsimp only at H); have K0 := yaa F8; clear F8
              by_cases C1 : P8 = true
              ·
               subst C1
               rw [if_pos rfl] at H
               have H' := yaa H; clear H; have P9 := i4.out; have Q0 := g3.out; have Q1 := i5.out; have Q3 := g4.out; have Q4 := i6.out; have Q5 := g5.out; have Q6 := h8.out; have Q7 := f9.out; obtain ⟨C2, C3, C4⟩ := cc3_ b7.out; obtain ⟨C5, C6, C7⟩ := cf3_ b7.out; have Q8 := f0.out; have Q9 := e2.out; have R0 := e3.out; have R1 := f1.out; have R2 := b9.out; have R3 := e5.out; obtain ⟨C8, C9, D0⟩ := cc3_ a9.out; obtain ⟨D1, D2, D3⟩ := cf3_ a9.out
               go_wp2_with (first | ((with_reducible refine yap (f := 23) rfl ?_); refine gl_ (some 104) rfl Try.func23 #[.agg #[.int .i64 f5, .int .i64 g1, .slice d7 e9.length d2], .agg #[.int .i64 f3, .int .i64 f4, .slice e1 b5.length d4]] ?_; (with_reducible refine (laws_eqRasRaster.calls kj76 f5 g1 _ _ e9 f3 f4 _ _ b5 true _ ?side1 ?side2 ?side3 ?side4 K0.out).mono ?_); (case side1 => refine (yal (e := 36) (base := w.heap.size) (ok := fun k_ => ((((True ∧ some k_ ≠ (.slice e1 b5.length d4 : Value).ownBlock) ∧ some k_ ≠ (.slice d0 h9.length d1 : Value).ownBlock) ∧ some k_ ≠ (.slice b6 b3.length b4 : Value).ownBlock) ∧ some k_ ≠ (.slice u1 v3.length u2 : Value).ownBlock)) (n := e9.length) (c := d2) ?_).2.2; exact (by (with_reducible repeat (first | apply yai | apply yaj | apply yak)); exact (yag (yad (p := ⟨b2, 2, none⟩) (yad (p := ⟨b2, 1, none⟩) (yad (p := ⟨b2, 0, none⟩) (yan h2.out b7.out (by decide)) (fun _ hk => hk.2) (.int .i64 f5)) (fun _ hk => hk.2) (.int .i64 g1)) (fun _ hk => hk.2) (.slice d7 e9.length d2)) (fun _ h_ => h_.1)))); (case side2 => exact (yal h2.out).2.1); (case side3 => refine (yal (e := 36) (base := w.heap.size) (ok := fun k_ => (((some k_ ≠ (.slice d0 h9.length d1 : Value).ownBlock ∧ some k_ ≠ (.slice b6 b3.length b4 : Value).ownBlock) ∧ some k_ ≠ (.slice u1 v3.length u2 : Value).ownBlock) ∧ some k_ ≠ (.slice d7 e9.length d2 : Value).ownBlock)) (n := b5.length) (c := d4) ?_).2.2; exact (by (with_reducible repeat (first | apply yai | apply yaj | apply yak)); exact (yag (yad (p := ⟨b2, 2, none⟩) (yad (p := ⟨b2, 1, none⟩) (yad (p := ⟨b2, 0, none⟩) (yan a6.out b7.out (by decide)) (fun _ hk => hk.2) (.int .i64 f5)) (fun _ hk => hk.2) (.int .i64 g1)) (fun _ hk => hk.2) (.slice d7 e9.length d2)) (fun _ h_ => h_.1)))); (case side4 => exact (yal a6.out).2.1); rintro e w152 ⟨rfl, hb⟩; refine ⟨_, rfl, ?_⟩; replace a6 := yaa (yac (by (with_reducible repeat (first | apply yai | apply yaj | apply yak)); exact (yag (yad (p := ⟨b2, 2, none⟩) (yad (p := ⟨b2, 1, none⟩) (yad (p := ⟨b2, 0, none⟩) (yan a6.out b7.out (by decide)) (fun _ hk => hk.2) (.int .i64 f5)) (fun _ hk => hk.2) (.int .i64 g1)) (fun _ hk => hk.2) (.slice d7 e9.length d2)) (fun _ h_ => h_.1))) hb); replace a5 := yaa (yac (by (with_reducible repeat (first | apply yai | apply yaj | apply yak)); exact (yag (yad (p := ⟨b2, 2, none⟩) (yad (p := ⟨b2, 1, none⟩) (yad (p := ⟨b2, 0, none⟩) (yan a5.out b7.out (by decide)) (fun _ hk => hk.2) (.int .i64 f5)) (fun _ hk => hk.2) (.int .i64 g1)) (fun _ hk => hk.2) (.slice d7 e9.length d2)) (fun _ h_ => h_.1))) hb); replace a4 := yaa (yac (by (with_reducible repeat (first | apply yai | apply yaj | apply yak)); exact (yag (yad (p := ⟨b2, 2, none⟩) (yad (p := ⟨b2, 1, none⟩) (yad (p := ⟨b2, 0, none⟩) (yan a4.out b7.out (by decide)) (fun _ hk => hk.2) (.int .i64 f5)) (fun _ hk => hk.2) (.int .i64 g1)) (fun _ hk => hk.2) (.slice d7 e9.length d2)) (fun _ h_ => h_.1))) hb); replace g7 := yaa (yac (by (with_reducible repeat (first | apply yai | apply yaj | apply yak)); exact (yag (yad (p := ⟨b2, 2, none⟩) (yad (p := ⟨b2, 1, none⟩) (yad (p := ⟨b2, 0, none⟩) (yan g7.out b7.out (by decide)) (fun _ hk => hk.2) (.int .i64 f5)) (fun _ hk => hk.2) (.int .i64 g1)) (fun _ hk => hk.2) (.slice d7 e9.length d2)) (fun _ h_ => h_.1))) hb); replace h7 := yaa (yac (by (with_reducible repeat (first | apply yai | apply yaj | apply yak)); exact (yag (yad (p := ⟨b2, 2, none⟩) (yad (p := ⟨b2, 1, none⟩) (yad (p := ⟨b2, 0, none⟩) (yan h7.out b7.out (by decide)) (fun _ hk => hk.2) (.int .i64 f5)) (fun _ hk => hk.2) (.int .i64 g1)) (fun _ hk => hk.2) (.slice d7 e9.length d2)) (fun _ h_ => h_.1))) hb); replace h2 := yaa (yac (by (with_reducible repeat (first | apply yai | apply yaj | apply yak)); exact (yag (yad (p := ⟨b2, 2, none⟩) (yad (p := ⟨b2, 1, none⟩) (yad (p := ⟨b2, 0, none⟩) (yan h2.out b7.out (by decide)) (fun _ hk => hk.2) (.int .i64 f5)) (fun _ hk => hk.2) (.int .i64 g1)) (fun _ hk => hk.2) (.slice d7 e9.length d2)) (fun _ h_ => h_.1))) hb); replace a7 := yaa (yae (g := e6) (o := .cells #[.int .i64 a0_0, .int .i64 a0_1, .slice A0_2 l0_2.length c0_2] 44 (0, 0)) (by repeat (with_reducible first | exact a7.out | refine oneB ?_ | refine blk_far ?_ g3.out _)) hb); replace a9 := yaa (yae (g := c0) (o := .cells #[.int .i64 f3, .int .i64 f4, .slice e1 b5.length d4] 25 (0, 0)) (by repeat (with_reducible first | exact a9.out | refine oneB ?_ | refine blk_far ?_ g4.out _)) hb); replace b0 := yaa (yae (g := b8) (o := .cells #[.int .i64 g2, .int .i64 g6, .slice d0 h9.length d1] 25 (0, 0)) (by repeat (with_reducible first | exact b0.out | refine oneB ?_ | refine blk_far ?_ g5.out _)) hb); replace a8 := yaa (yae (g := b1) (o := .cells #[.int .i64 d3, .int .i64 d5, .slice b6 b3.length b4] 25 (0, 0)) (by repeat (with_reducible first | exact a8.out | refine oneB ?_ | refine blk_far ?_ f9.out _)) hb); replace b7 := yaa (yae (g := b2) (o := .cells #[.int .i64 f5, .int .i64 g1, .slice d7 e9.length d2] 25 (0, 0)) (by (repeat refine oneB ?_); refine blk_put (cs := #[.int .i64 f5, .int .i64 g1, .slice none 0 0]) ?_ 2 _ rfl; refine blk_put (cs := #[.int .i64 f5, .int .i64 0, .slice none 0 0]) ?_ 1 _ rfl; refine blk_put (cs := #[.int .i64 0, .int .i64 0, .slice none 0 0]) ?_ 0 _ rfl; exact upB b7.out) hb); replace HB := yaa (yao (by repeat (with_reducible first | exact HB.out | apply yah | apply yab | apply yaf | refine yam ?_ (Aside0.out ‹_›))) hb); (try clear hb); (try clear hb2); (try clear hk); (try clear hi)))
               go_meet
               case rel => exact ⟨_, ((J3 != w9)), (by first | rfl | (simp; done) | (simp [*]; done)), H', ⟨by have := HJ18.out; have := HJ76.out; first | omega | exact Nat.le_refl _⟩, ⟨by (try simp only [hl125002_76]); (with_reducible repeat (first | apply yai | apply yaj | apply yak)); exact yag a6.out (fun _ hk => ⟨hk.1.1.1, ⟨hk.1.1.2, hk.2⟩⟩)⟩, ⟨by (try simp only [hl125002_76]); (with_reducible repeat (first | apply yai | apply yaj | apply yak)); exact yag a5.out (fun _ hk => ⟨hk.1.1.1, ⟨hk.1.1.2, hk.2⟩⟩)⟩, ⟨by (try simp only [hl125002_76]); (with_reducible repeat (first | apply yai | apply yaj | apply yak)); exact yag a4.out (fun _ hk => ⟨hk.1.1.1, ⟨hk.1.1.2, hk.2⟩⟩)⟩, ⟨by (try simp only [hl125002_76]); (with_reducible repeat (first | apply yai | apply yaj | apply yak)); exact yag h2.out (fun _ hk => ⟨hk.1.1.1.2, ⟨hk.1.1.2, hk.1.2⟩⟩)⟩, ⟨by (try simp only [hl125002_76]); exact upB a7.out⟩, ⟨by (try simp only [hl125002_76]); exact upB a9.out⟩, ⟨by (try simp only [hl125002_76]); exact upB b0.out⟩, ⟨by (try simp only [hl125002_76]); exact upB a8.out⟩, ⟨by (try simp only [hl125002_76]); exact upB b7.out⟩, ⟨by repeat (with_reducible first | exact HB.out | apply yah | apply yab | apply yaf | refine yam ?_ (Aside0.out ‹_›))⟩⟩
              ·
               replace C1 := Bool.eq_false_iff.mpr C1
               subst C1
               rw [if_neg (show ¬ (false = true) by decide)] at H
               have H' := yaa H; clear H; have R4 := i4.out; have R5 := g3.out; have R6 := i5.out; have R7 := g4.out; have R8 := i6.out; have R9 := g5.out; have S0 := h8.out; have S1 := f9.out; obtain ⟨D4, D5, D6⟩ := cc3_ b7.out; obtain ⟨D7, D8, D9⟩ := cf3_ b7.out; have S2 := f0.out; have S3 := e2.out; have S4 := e3.out; have S5 := f1.out; have S6 := b9.out; have S7 := e5.out; obtain ⟨E0, E1, E2⟩ := cc3_ a9.out; obtain ⟨E3, E4, E5⟩ := cf3_ a9.out
               go_wp2_with (first | ((with_reducible refine yap (f := 23) rfl ?_); refine gl_ (some 104) rfl Try.func23 #[.agg #[.int .i64 f5, .int .i64 g1, .slice d7 e9.length d2], .agg #[.int .i64 f3, .int .i64 f4, .slice e1 b5.length d4]] ?_; (with_reducible refine (laws_eqRasRaster.calls kj76 f5 g1 _ _ e9 f3 f4 _ _ b5 false _ ?side1 ?side2 ?side3 ?side4 K0.out).mono ?_); (case side1 => refine (yal (e := 36) (base := w.heap.size) (ok := fun k_ => ((((True ∧ some k_ ≠ (.slice e1 b5.length d4 : Value).ownBlock) ∧ some k_ ≠ (.slice d0 h9.length d1 : Value).ownBlock) ∧ some k_ ≠ (.slice b6 b3.length b4 : Value).ownBlock) ∧ some k_ ≠ (.slice u1 v3.length u2 : Value).ownBlock)) (n := e9.length) (c := d2) ?_).2.2; exact (by (with_reducible repeat (first | apply yai | apply yaj | apply yak)); exact (yag (yad (p := ⟨b2, 2, none⟩) (yad (p := ⟨b2, 1, none⟩) (yad (p := ⟨b2, 0, none⟩) (yan h2.out b7.out (by decide)) (fun _ hk => hk.2) (.int .i64 f5)) (fun _ hk => hk.2) (.int .i64 g1)) (fun _ hk => hk.2) (.slice d7 e9.length d2)) (fun _ h_ => h_.1)))); (case side2 => exact (yal h2.out).2.1); (case side3 => refine (yal (e := 36) (base := w.heap.size) (ok := fun k_ => (((some k_ ≠ (.slice d0 h9.length d1 : Value).ownBlock ∧ some k_ ≠ (.slice b6 b3.length b4 : Value).ownBlock) ∧ some k_ ≠ (.slice u1 v3.length u2 : Value).ownBlock) ∧ some k_ ≠ (.slice d7 e9.length d2 : Value).ownBlock)) (n := b5.length) (c := d4) ?_).2.2; exact (by (with_reducible repeat (first | apply yai | apply yaj | apply yak)); exact (yag (yad (p := ⟨b2, 2, none⟩) (yad (p := ⟨b2, 1, none⟩) (yad (p := ⟨b2, 0, none⟩) (yan a6.out b7.out (by decide)) (fun _ hk => hk.2) (.int .i64 f5)) (fun _ hk => hk.2) (.int .i64 g1)) (fun _ hk => hk.2) (.slice d7 e9.length d2)) (fun _ h_ => h_.1)))); (case side4 => exact (yal a6.out).2.1); rintro e w162 ⟨rfl, hb⟩; refine ⟨_, rfl, ?_⟩; replace a6 := yaa (yac (by (with_reducible repeat (first | apply yai | apply yaj | apply yak)); exact (yag (yad (p := ⟨b2, 2, none⟩) (yad (p := ⟨b2, 1, none⟩) (yad (p := ⟨b2, 0, none⟩) (yan a6.out b7.out (by decide)) (fun _ hk => hk.2) (.int .i64 f5)) (fun _ hk => hk.2) (.int .i64 g1)) (fun _ hk => hk.2) (.slice d7 e9.length d2)) (fun _ h_ => h_.1))) hb); replace a5 := yaa (yac (by (with_reducible repeat (first | apply yai | apply yaj | apply yak)); exact (yag (yad (p := ⟨b2, 2, none⟩) (yad (p := ⟨b2, 1, none⟩) (yad (p := ⟨b2, 0, none⟩) (yan a5.out b7.out (by decide)) (fun _ hk => hk.2) (.int .i64 f5)) (fun _ hk => hk.2) (.int .i64 g1)) (fun _ hk => hk.2) (.slice d7 e9.length d2)) (fun _ h_ => h_.1))) hb); replace a4 := yaa (yac (by (with_reducible repeat (first | apply yai | apply yaj | apply yak)); exact (yag (yad (p := ⟨b2, 2, none⟩) (yad (p := ⟨b2, 1, none⟩) (yad (p := ⟨b2, 0, none⟩) (yan a4.out b7.out (by decide)) (fun _ hk => hk.2) (.int .i64 f5)) (fun _ hk => hk.2) (.int .i64 g1)) (fun _ hk => hk.2) (.slice d7 e9.length d2)) (fun _ h_ => h_.1))) hb); replace g7 := yaa (yac (by (with_reducible repeat (first | apply yai | apply yaj | apply yak)); exact (yag (yad (p := ⟨b2, 2, none⟩) (yad (p := ⟨b2, 1, none⟩) (yad (p := ⟨b2, 0, none⟩) (yan g7.out b7.out (by decide)) (fun _ hk => hk.2) (.int .i64 f5)) (fun _ hk => hk.2) (.int .i64 g1)) (fun _ hk => hk.2) (.slice d7 e9.length d2)) (fun _ h_ => h_.1))) hb); replace h7 := yaa (yac (by (with_reducible repeat (first | apply yai | apply yaj | apply yak)); exact (yag (yad (p := ⟨b2, 2, none⟩) (yad (p := ⟨b2, 1, none⟩) (yad (p := ⟨b2, 0, none⟩) (yan h7.out b7.out (by decide)) (fun _ hk => hk.2) (.int .i64 f5)) (fun _ hk => hk.2) (.int .i64 g1)) (fun _ hk => hk.2) (.slice d7 e9.length d2)) (fun _ h_ => h_.1))) hb); replace h2 := yaa (yac (by (with_reducible repeat (first | apply yai | apply yaj | apply yak)); exact (yag (yad (p := ⟨b2, 2, none⟩) (yad (p := ⟨b2, 1, none⟩) (yad (p := ⟨b2, 0, none⟩) (yan h2.out b7.out (by decide)) (fun _ hk => hk.2) (.int .i64 f5)) (fun _ hk => hk.2) (.int .i64 g1)) (fun _ hk => hk.2) (.slice d7 e9.length d2)) (fun _ h_ => h_.1))) hb); replace a7 := yaa (yae (g := e6) (o := .cells #[.int .i64 a0_0, .int .i64 a0_1, .slice A0_2 l0_2.length c0_2] 44 (0, 0)) (by repeat (with_reducible first | exact a7.out | refine oneB ?_ | refine blk_far ?_ g3.out _)) hb); replace a9 := yaa (yae (g := c0) (o := .cells #[.int .i64 f3, .int .i64 f4, .slice e1 b5.length d4] 25 (0, 0)) (by repeat (with_reducible first | exact a9.out | refine oneB ?_ | refine blk_far ?_ g4.out _)) hb); replace b0 := yaa (yae (g := b8) (o := .cells #[.int .i64 g2, .int .i64 g6, .slice d0 h9.length d1] 25 (0, 0)) (by repeat (with_reducible first | exact b0.out | refine oneB ?_ | refine blk_far ?_ g5.out _)) hb); replace a8 := yaa (yae (g := b1) (o := .cells #[.int .i64 d3, .int .i64 d5, .slice b6 b3.length b4] 25 (0, 0)) (by repeat (with_reducible first | exact a8.out | refine oneB ?_ | refine blk_far ?_ f9.out _)) hb); replace b7 := yaa (yae (g := b2) (o := .cells #[.int .i64 f5, .int .i64 g1, .slice d7 e9.length d2] 25 (0, 0)) (by (repeat refine oneB ?_); refine blk_put (cs := #[.int .i64 f5, .int .i64 g1, .slice none 0 0]) ?_ 2 _ rfl; refine blk_put (cs := #[.int .i64 f5, .int .i64 0, .slice none 0 0]) ?_ 1 _ rfl; refine blk_put (cs := #[.int .i64 0, .int .i64 0, .slice none 0 0]) ?_ 0 _ rfl; exact upB b7.out) hb); replace HB := yaa (yao (by repeat (with_reducible first | exact HB.out | apply yah | apply yab | apply yaf | refine yam ?_ (Aside0.out ‹_›))) hb); (try clear hb); (try clear hb2); (try clear hk); (try clear hi)))
               go_meet
               case rel => exact ⟨_, (true), (by first | rfl | (simp; done) | (simp [*]; done)), H', ⟨by have := HJ18.out; have := HJ76.out; first | omega | exact Nat.le_refl _⟩, ⟨by (try simp only [hl125002_76]); (with_reducible repeat (first | apply yai | apply yaj | apply yak)); exact yag a6.out (fun _ hk => ⟨hk.1.1.1, ⟨hk.1.1.2, hk.2⟩⟩)⟩, ⟨by (try simp only [hl125002_76]); (with_reducible repeat (first | apply yai | apply yaj | apply yak)); exact yag a5.out (fun _ hk => ⟨hk.1.1.1, ⟨hk.1.1.2, hk.2⟩⟩)⟩, ⟨by (try simp only [hl125002_76]); (with_reducible repeat (first | apply yai | apply yaj | apply yak)); exact yag a4.out (fun _ hk => ⟨hk.1.1.1, ⟨hk.1.1.2, hk.2⟩⟩)⟩, ⟨by (try simp only [hl125002_76]); (with_reducible repeat (first | apply yai | apply yaj | apply yak)); exact yag h2.out (fun _ hk => ⟨hk.1.1.1.2, ⟨hk.1.1.2, hk.1.2⟩⟩)⟩, ⟨by (try simp only [hl125002_76]); exact upB a7.out⟩, ⟨by (try simp only [hl125002_76]); exact upB a9.out⟩, ⟨by (try simp only [hl125002_76]); exact upB b0.out⟩, ⟨by (try simp only [hl125002_76]); exact upB a8.out⟩, ⟨by (try simp only [hl125002_76]); exact upB b7.out⟩, ⟨by repeat (with_reducible first | exact HB.out | apply yah | apply yab | apply yaf | refine yam ?_ (Aside0.out ‹_›))⟩⟩
             case rest =>
              clear HC118; (try clear c1); (try clear c2); (try clear p2); (try clear c3); (try clear c4); (try clear E6); (try clear c5); (try clear c6); (try clear c7); (try clear c8); (try clear c9); (try clear E7); (try clear c10); (try clear c11); (try clear c12); (try clear c13); (try clear c14); (try clear c15); (try clear c16); (try clear c20); (try clear c21); (try clear c23); (try clear c24); (try clear c25); (try clear c27); (try clear c28); (try clear c29); (try clear c30); (try clear c31); (try clear c32); (try clear c36); (try clear c37); (try clear c45); (try clear c46); (try clear c47); (try clear c51); (try clear c52); (try clear c53); (try clear c54); (try clear c56); (try clear c57); (try clear c60); (try clear c61); (try clear c62); (try clear c64); (try clear c65); (try clear c68); (try clear c71); (try clear c74); (try clear c85); (try clear c86); (try clear c87); (try clear c91); (try clear i9); (try clear c93); (try clear c94); (try clear c95); (try clear c96); (try clear c98); (try clear c99); (try clear c102); (try clear c103); (try clear c104); (try clear c106); (try clear c107); (try clear z0); (try clear v2); (try clear z1); (try clear u0); (try clear z2); (try clear z3); (try clear c119); (try clear c120); (try clear c121); (try clear c126); (try clear c127); (try clear c135); (try clear c136); (try clear c137); (try clear c138); (try clear C1); (try clear c143); (try clear c144); (try clear c145); (try clear c146); (try clear c148); (try clear c149); (try clear c150); (try clear c153); (try clear c154); (try clear c155); (try clear c156); (try clear c158); (try clear c159); (try clear c160); (try clear r6); (try clear r7); (try clear r8); (try clear s8); (try clear s9); (try clear t0); (try clear t4); (try clear t5); (try clear t6); (try clear j3); (try clear j4); (try clear j5); (try clear z4); (try clear z5); (try clear z6); (try clear A0); (try clear A2); (try clear A4); (try clear A9); (try clear B0); (try clear B1); (try clear B5); (try clear B6); (try clear B7); (try clear C2); (try clear C3); (try clear C4); (try clear C8); (try clear C9); (try clear D0); (try clear D4); (try clear D5); (try clear D6); (try clear E0); (try clear E1); (try clear E2); (try clear j9); (try clear k0); (try clear k1); (try clear k5); (try clear k6); (try clear k7); (try clear l2); (try clear l3); (try clear l4); (try clear l8); (try clear l9); (try clear m0); (try clear m4); (try clear m5); (try clear m6); (try clear n0); (try clear n1); (try clear n2); (try clear n6); (try clear n7); (try clear n8); (try clear o3); (try clear o4); (try clear o5); (try clear o9); (try clear p0); (try clear p1); (try clear p6); (try clear p7); (try clear p8); (try clear q2); (try clear q3); (try clear q4); (try clear u4); (try clear u5); (try clear u6); (try clear v5); (try clear v6); (try clear v7); (try clear w1); (try clear w2); (try clear w3); (try clear r9); (try clear s6); (try clear s7); (try clear t1); (try clear t2); (try clear t3); (try clear t7); (try clear t8); (try clear t9); (try clear j6); (try clear j7); (try clear j8); (try clear z7); (try clear z8); (try clear z9); (try clear A5); (try clear A6); (try clear A7); (try clear B2); (try clear B3); (try clear B4); (try clear B8); (try clear B9); (try clear C0); (try clear C5); (try clear C6); (try clear C7); (try clear D1); (try clear D2); (try clear D3); (try clear D7); (try clear D8); (try clear D9); (try clear E3); (try clear E4); (try clear E5); (try clear k2); (try clear k3); (try clear k4); (try clear k8); (try clear k9); (try clear l0); (try clear l5); (try clear l6); (try clear l7); (try clear m1); (try clear m2); (try clear m3); (try clear m7); (try clear m8); (try clear m9); (try clear n3); (try clear n4); (try clear n5); (try clear n9); (try clear o0); (try clear o1); (try clear o6); (try clear o7); (try clear o8); (try clear p3); (try clear p4); (try clear p5); (try clear p9); (try clear q0); (try clear q1); (try clear q5); (try clear q6); (try clear q7); (try clear u7); (try clear u8); (try clear v0); (try clear v8); (try clear v9); (try clear w0); (try clear w4); (try clear w6); (try clear w8); (try clear p2); obtain ⟨kq, i1, rfl, HA, HJ117, a6, a5, a4, i7, a7, a9, b0, a8, b7, HB⟩ := hcut; have hl135002_117 := (yal a4.out).1
              rw [hl135002_117] at a4
              (try simp only [hl135002_117])
              (try simp only [hl135002_117] at a7)
              (try simp only [hl135002_117] at a9)
              (try simp only [hl135002_117] at b0)
              (try simp only [hl135002_117] at a8)
              (try simp only [hl135002_117] at b7)
              (try simp only [hl135002_117] at a6)
              (try simp only [hl135002_117] at a5)
              (try simp only [hl135002_117] at i7)
              cases kq with
              | zero => exact absurd HA.out (by simp [laws_FnExactOpsDo.j2])
              | succ kj117 =>
               have H := HA.out; clear HA
               simp only [laws_FnExactOpsDo.j2] at H
               by_cases F1 : i1 = true
               ·
                subst F1
                rw [if_pos rfl] at H
                rw [hrt] at H
                exact absurd H (by simp)
               ·
                replace F1 := Bool.eq_false_iff.mpr F1
                subst F1
                rw [if_neg (show ¬ (false = true) by decide)] at H
                replace H := Option.bind_eq_some_iff.mp H; obtain ⟨r1, F9, H⟩ := H; (try dsimp only at H); have S8 := yaa F9; clear F9
                by_cases x3 : r1 < 0
                ·
                 rw [if_pos x3] at H
                 have G9 : decide (r1 < 0) = true := decide_eq_true x3; clear x3
                 rw [hrt] at H
                 exact absurd H (by simp)
                ·
                 rw [if_neg x3] at H
                 have G9 : decide (r1 < 0) = false := decide_eq_false x3; clear x3
                 by_cases v4 : r1 = i8
                 ·
                  rw [if_pos v4] at H
                  have H0 : (r1 == i8) = true := beq_iff_eq.mpr v4; have H1 : (r1 != i8) = false := bne_eq_false_iff_eq.mpr v4; clear v4; obtain rfl := Option.some.inj H; have S9 := f8.out; have T0 := e4.out; have T1 := e5.out; have T2 := b9.out; have T3 := f2.out; have T4 := d6.out; have T5 := f9.out; have T6 := h8.out; obtain ⟨K1, K2, K3⟩ := cc3_ a8.out; obtain ⟨K4, K5, K6⟩ := cf3_ a8.out
                  go_wp2_with (first | ((with_reducible refine yap (f := 25) rfl ?_); refine gl_ (some 113) rfl Try.func25 #[.agg #[.int .i64 d3, .int .i64 d5, .slice b6 q9.length b4], .int .i64 1] ?_; (with_reducible refine (laws_heldRasRaster.calls kj117 d3 d5 _ _ q9 1 r1 _ ?side1 ?side2 S8.out).mono ?_); (case side1 => repeat (first | exact (yal a4.out).2.2 | (with_reducible refine yaq ?_ _) | (with_reducible refine yar ?_ _) | (with_reducible refine yas ?_))); (case side2 => exact (yal a4.out).2.1); rintro e w172 ⟨rfl, hb⟩; refine ⟨_, rfl, ?_⟩; replace a6 := yaa (yac (upR a6.out) hb); replace a5 := yaa (yac (upR a5.out) hb); replace a4 := yaa (yac (upR a4.out) hb); replace i7 := yaa (yac (upR i7.out) hb); replace a7 := yaa (yae (upB a7.out) hb); replace a9 := yaa (yae (upB a9.out) hb); replace b0 := yaa (yae (upB b0.out) hb); replace a8 := yaa (yae (upB a8.out) hb); replace b7 := yaa (yae (upB b7.out) hb); replace HB := yaa (yao (by repeat (with_reducible first | exact HB.out | apply yah | apply yab | apply yaf | refine yam ?_ (Aside0.out ‹_›))) hb); (try clear hb); (try clear hb2); (try clear hk); (try clear hi)))
                  go_ret
                  exact ⟨by first | rfl | (simp [*, errW_none, errW_some] <;> rfl), by repeat (with_reducible first | exact HB.out | apply yah | apply yab | apply yaf | refine yam ?_ (Aside0.out ‹_›))⟩
                 ·
                  rw [if_neg v4] at H
                  have H0 : (r1 == i8) = false := beq_eq_false_iff_ne.mpr v4; have H1 : (r1 != i8) = true := bne_iff_ne.mpr v4
                  rw [hrt] at H
                  exact absurd H (by simp)
            ·
             rw [if_neg u0] at H
             have z2 : (r0 == i8) = false := beq_eq_false_iff_ne.mpr u0; have z3 : (r0 != i8) = true := bne_iff_ne.mpr u0
             rw [hrt] at H
             exact absurd H (by simp)
       ·
        replace c74 := Bool.eq_false_iff.mpr c74
        subst c74
        rw [if_neg (show ¬ (false = true) by decide)] at H
        rw [hrt] at H
        exact absurd H (by simp)
      ·
       replace c71 := Bool.eq_false_iff.mpr c71
       subst c71
       rw [if_neg (show ¬ (false = true) by decide)] at H
       rw [hrt] at H
       exact absurd H (by simp)

end Go.Proofs.Ytoifpgkfpdeglaa.X

namespace Go.Proofs.Ytoifpgkfpdeglaa.X
open Go.RowKit Go.Proofs.YtoifpgkfpdeglaaW.PrintWords Go.Proofs.Ytoifpgkfpdeglaa.Opn
set_option linter.unusedVariables false
/-- What is to be shown of the law FnExactOpsDo, over data alone. -/
def laws_FnExactOpsDo.Pure : Prop := ∀ (a0_0 : Int) (a0_1 : Int) (l0_2 : List (S94)) (l1 : List (S45)), (Lit.int .i64 a0_0).wf = true → (Lit.int .i64 a0_1).wf = true → l0_2.length ≤ maxLen → (∀ y ∈ l0_2, g94 y) → l1.length ≤ maxLen → (∀ y ∈ l1, g45 y) → ∃ k, laws_FnExactOpsDo.f k a0_0 a0_1 l0_2 l1 = some true
end Go.Proofs.Ytoifpgkfpdeglaa.X

namespace Go.Proofs.Ytoifpgkfpdeglaa.X
open Go.RowKit Go.Proofs.YtoifpgkfpdeglaaW.PrintWords Go.Proofs.Ytoifpgkfpdeglaa.Pl
set_option linter.unusedSimpArgs false
set_option linter.unusedVariables false

theorem mk_succ (w h : Nat) (f : Nat → Nat → Pix) : mk w (h + 1) f = mk w h f ++ (List.range' 0 w).map fun x => f x h := by
  unfold mk
  rw [Nat.mul_add, Nat.mul_one, List.range_add, List.map_append, List.map_map, ← List.range_eq_range']
  congr 1
  apply List.map_congr_left
  intro x hx
  have hx' := List.mem_range.1 hx
  show f ((w * h + x) % w) ((w * h + x) / w) = f x h
  rw [Nat.mul_add_mod, Nat.mod_eq_of_lt hx', Nat.mul_add_div (by omega), Nat.div_eq_of_lt hx', Nat.add_zero]
theorem mk_zero (w : Nat) (f : Nat → Nat → Pix) : mk w 0 f = [] := by unfold mk; simp
theorem ev_rows {β : Type} (w h : Nat) (f : Nat → Nat → Pix) (g0 : Nat → Nat → List Pix → Option β) (g1 : Nat → Nat → Nat → List Pix → Option β) (R : β) (hw : w ≤ 6) (hh : h ≤ 6)
    (hstart : ∀ i s r, i < h → Ev (fun k => g1 k i 0 s) r → Ev (fun k => g0 k i s) r)
    (hin : ∀ i j s r, i < h → j < w → s.length ≤ 10000 → Ev (fun k => g1 k i (j + 1) (s ++ [f j i])) r → Ev (fun k => g1 k i j s) r)
    (hout : ∀ i s r, i < h → Ev (fun k => g0 k (i + 1) s) r → Ev (fun k => g1 k i w s) r)
    (hend : Ev (fun k => g0 k h (mk w h f)) R) : Ev (fun k => g0 k 0 []) R := by
  have inner : ∀ i, i < h → ∀ d j, j + d = w → ∀ (s : List Pix) r, s.length + d ≤ 10000 → Ev (fun k => g1 k i w (s ++ (List.range' j d).map fun x => f x i)) r → Ev (fun k => g1 k i j s) r := by
    intro i hi d
    induction d with
    | zero => intro j hj s r _ h; obtain rfl : j = w := by omega
              simpa using h
    | succ d ih =>
      intro j hj s r hs h
      refine hin i j s r hi (by omega) (by omega) (ih (j + 1) (by omega) _ r (by rw [List.length_append]; simp only [List.length_cons, List.length_nil]; omega) ?_)
      rw [List.range'_succ, List.map_cons] at h
      rw [List.append_assoc, List.singleton_append]
      exact h
  have outer : ∀ d i, i + d = h → Ev (fun k => g0 k i (mk w i f)) R := by
    intro d
    induction d with
    | zero => intro i hi; obtain rfl : i = h := by omega
              exact hend
    | succ d ih =>
      intro i hi
      have hm : w * i ≤ 6 * 6 := Nat.mul_le_mul hw (by omega)
      refine hstart i _ R (by omega) (inner i (by omega) w 0 (by omega) _ R (by rw [mk_length]; omega) (hout i _ R (by omega) ?_))
      rw [← mk_succ]
      exact ih (i + 1) (by omega)
  have := outer h 0 (by omega)
  rwa [mk_zero] at this
theorem ev_line {β : Type} (n : Nat) (F : Nat → Pix) (g : Nat → Nat → List Pix → Option β) (R : β) (hn : n ≤ 10000)
    (hstep : ∀ i s r, i < n → s.length = i → Ev (fun k => g k (i + 1) (s ++ [F i])) r → Ev (fun k => g k i s) r)
    (hend : Ev (fun k => g k n ((List.range n).map F)) R) : Ev (fun k => g k 0 []) R := by
  have outer : ∀ d i, i + d = n → Ev (fun k => g k i ((List.range i).map F)) R := by
    intro d
    induction d with
    | zero => intro i hi; obtain rfl : i = n := by omega
              exact hend
    | succ d ih =>
      intro i hi
      refine hstep i _ R (by omega) (by simp) ?_
      have := ih (i + 1) (by omega)
      rwa [List.range_succ, List.map_append] at this
  exact outer n 0 (by omega)

/-! ### Small numbers -/
theorem wadd {a b : Nat} (h : a + b ≤ 1000000) : wrap64 ((a : Int) + (b : Int)) = ((a + b : Nat) : Int) := by rw [← Int.natCast_add]; exact wrap_id (by omega) (by omega)
theorem wadd1 {a : Nat} (h : a ≤ 999999) : wrap64 ((a : Int) + 1) = ((a + 1 : Nat) : Int) := wadd (a := a) (b := 1) (by omega)
theorem wmul {a b : Nat} (h : a * b ≤ 1000000) : wrap64 ((a : Int) * (b : Int)) = ((a * b : Nat) : Int) := by
  rw [← Int.natCast_mul]; exact wrap_id (Int.le_trans (by decide) (Int.natCast_nonneg _)) (Int.le_trans (Int.ofNat_le.2 h) (by decide))
theorem wmul2 {b : Nat} (h : b ≤ 1000) : wrap64 (2 * (b : Int)) = ((2 * b : Nat) : Int) := wmul (a := 2) (b := b) (by omega)
theorem wsub {a b : Nat} (h : b ≤ a) (ha : a ≤ 1000000) : wrap64 ((a : Int) - (b : Int)) = ((a - b : Nat) : Int) := by rw [← Int.ofNat_sub h]; exact wrap_id (by omega) (by omega)
theorem wsub1 {a : Nat} (h : 1 ≤ a) (ha : a ≤ 1000000) : wrap64 ((a : Int) - 1) = ((a - 1 : Nat) : Int) := wsub (b := 1) h ha
theorem wdiv {a b : Nat} (ha : a ≤ 1000000) : wrap64 (Int.tdiv (a : Int) (b : Int)) = ((a / b : Nat) : Int) := by
  rw [show Int.tdiv (a : Int) (b : Int) = ((a / b : Nat) : Int) from rfl]
  have := Nat.div_le_self a b
  exact wrap_id (Int.le_trans (by decide) (Int.natCast_nonneg _)) (Int.le_trans (Int.ofNat_le.2 (Nat.le_trans this ha)) (by decide))
theorem place_le {x y wd hg : Nat} (hw : wd ≤ 6) (hh : hg ≤ 6) (hy : y < hg) (hx : x < wd) : y * wd ≤ 36 ∧ y * wd + x ≤ 100 := by
  have : y * wd ≤ 6 * 6 := Nat.mul_le_mul (by omega) hw
  omega
theorem at_place {l : List Pix} {wd hg x y : Nat} (hl : l.length = wd * hg) (hx : x < wd) (hy : y < hg) : (0 : Int) ≤ ((y * wd + x : Nat) : Int) ∧ ((y * wd + x : Nat) : Int) < (l.length : Int) := by
  have := place_lt hx hy hl
  omega
theorem rd_pix (l : List Pix) (wd x y : Nat) : (⟨(rd_T36 l ((y * wd + x : Nat) : Int)).f0, (rd_T36 l ((y * wd + x : Nat) : Int)).f1, (rd_T36 l ((y * wd + x : Nat) : Int)).f2, (rd_T36 l ((y * wd + x : Nat) : Int)).f3⟩ : Pix) = pix l wd x y := rfl

theorem spec_l6Crop_ev {wd hg : Nat} {l : List Pix} (hv : Valid wd hg l) (o : Op) (h0 : o.f0 = 1) (ho : OkO o) (hm : hasM o wd hg = true) :
    Ev (fun k => spec_l6Crop.f k wd hg l o.f0 o.f1 o.f2 o.f3 o.f4) ((wideM o wd hg : Int), (highM o wd hg : Int), picM o wd hg l) := by
  obtain ⟨hw, hh, hl, -⟩ := hv
  have hbd : (0 ≤ o.f1 ∧ o.f1 ≤ 5) ∧ (0 ≤ o.f2 ∧ o.f2 ≤ 5) ∧ (1 ≤ o.f3 ∧ o.f3 ≤ 6) ∧ (1 ≤ o.f4 ∧ o.f4 ≤ 6) := by
    rcases ho with ⟨_, h⟩ | ⟨h, _⟩ | ⟨h, _⟩ | ⟨h, _⟩
    · exact h
    · omega
    · omega
    · omega
  have hc := hasM_crop hm h0
  obtain ⟨a0, a1, a2, a3, a4⟩ := o
  dsimp only at h0 hbd hc ⊢
  obtain ⟨A, rfl⟩ : ∃ n : Nat, a1 = n := ⟨a1.toNat, by omega⟩
  obtain ⟨B, rfl⟩ : ∃ n : Nat, a2 = n := ⟨a2.toNat, by omega⟩
  obtain ⟨C, rfl⟩ : ∃ n : Nat, a3 = n := ⟨a3.toNat, by omega⟩
  obtain ⟨D, rfl⟩ : ∃ n : Nat, a4 = n := ⟨a4.toNat, by omega⟩
  subst h0
  have e : picM ⟨1, A, B, C, D⟩ wd hg l = mk C D fun x y => pix l wd (A + x) (B + y) := rfl
  rw [e]
  refine ev_rows C D (fun x y => pix l wd (A + x) (B + y)) (fun k i s => spec_l6Crop.l0 k i wd hg l 1 A B C D C D s) (fun k i j s => spec_l6Crop.l1 k i j wd hg l 1 A B C D C D s) _ (by omega) (by omega) ?_ ?_ ?_ ?_
  · intro i s r hi h
    refine Ev.step (fun k => ?_) h
    simp only [spec_l6Crop.l0]
    rw [if_pos (by omega)]
    rfl
  · intro i j s r hi hj hs h
    refine Ev.step (fun k => ?_) h
    have hp := place_le hw.2 hh.2 (show B + i < hg by omega) (show A + j < wd by omega)
    have ha := at_place hl (show A + j < wd by omega) (show B + i < hg by omega)
    simp only [spec_l6Crop.l1]
    rw [if_pos (by omega), wadd (a := B) (b := i) (by omega), wmul (by omega), wadd (b := A) (by omega), wadd (b := j) (by omega), Nat.add_assoc, if_pos ha.1, if_pos ha.2, if_pos (by omega), wadd1 (by omega), rd_pix]
  · intro i s r hi h
    refine Ev.step (fun k => ?_) h
    simp only [spec_l6Crop.l1]
    rw [if_neg (by omega), wadd1 (by omega)]
  · refine ev_succ ⟨0, fun k _ => ?_⟩
    simp only [spec_l6Crop.l0]
    rw [if_neg (by omega)]
    rfl
theorem spec_l6FlipX_ev {wd hg : Nat} {l : List Pix} (hv : Valid wd hg l) : Ev (fun k => spec_l6FlipX.f k wd hg l) ((wd : Int), (hg : Int), picM ⟨2, 0, 0, 0, 0⟩ wd hg l) := by
  obtain ⟨hw, hh, hl, -⟩ := hv
  rw [picM_flipX]
  refine ev_rows wd hg (fun x y => pix l wd (wd - 1 - x) y) (fun k i s => spec_l6FlipX.l0 k i wd hg l wd hg s) (fun k i j s => spec_l6FlipX.l1 k i ((wd : Int) - 1 - j) wd hg l wd hg s) _ (by omega) (by omega) ?_ ?_ ?_ ?_
  · intro i s r hi h
    refine Ev.step (fun k => ?_) h
    simp only [spec_l6FlipX.l0]
    rw [if_pos (by omega), wsub1 (by omega) (by omega)]
    congr 1
    omega
  · intro i j s r hi hj hs h
    refine Ev.step (fun k => ?_) h
    have hp := place_le hw.2 hh.2 hi (show wd - 1 - j < wd by omega)
    have ha := at_place hl (show wd - 1 - j < wd by omega) hi
    have e1 : (wd : Int) - 1 - (j : Int) = ((wd - 1 - j : Nat) : Int) := by omega
    have e2 : wrap64 (((wd - 1 - j : Nat) : Int) - 1) = (wd : Int) - 1 - ((j + 1 : Nat) : Int) := by rw [wrap_id (by omega) (by omega)]; omega
    simp only [spec_l6FlipX.l1]
    rw [if_pos (by omega), e1, wmul (by omega), wadd (by omega), if_pos ha.1, if_pos ha.2, if_pos (by omega), e2, rd_pix]
  · intro i s r hi h
    refine Ev.step (fun k => ?_) h
    simp only [spec_l6FlipX.l1]
    rw [if_neg (by omega), wadd1 (by omega)]
  · refine ev_succ ⟨0, fun k _ => ?_⟩
    simp only [spec_l6FlipX.l0]
    rw [if_neg (by omega)]
theorem spec_l6Turn_ev {wd hg : Nat} {l : List Pix} (hv : Valid wd hg l) : Ev (fun k => spec_l6Turn.f k wd hg l) ((hg : Int), (wd : Int), picM ⟨4, 0, 0, 0, 0⟩ wd hg l) := by
  obtain ⟨hw, hh, hl, -⟩ := hv
  rw [picM_turn]
  refine ev_rows hg wd (fun x y => pix l wd y (hg - 1 - x)) (fun k i s => spec_l6Turn.l0 k i wd hg l hg wd s) (fun k i j s => spec_l6Turn.l1 k i j wd hg l hg wd s) _ (by omega) (by omega) ?_ ?_ ?_ ?_
  · intro i s r hi h
    refine Ev.step (fun k => ?_) h
    simp only [spec_l6Turn.l0]
    rw [if_pos (by omega)]
    rfl
  · intro i j s r hi hj hs h
    refine Ev.step (fun k => ?_) h
    have hp := place_le hw.2 hh.2 (show hg - 1 - j < hg by omega) hi
    have ha := at_place hl hi (show hg - 1 - j < hg by omega)
    simp only [spec_l6Turn.l1]
    rw [if_pos (by omega), wsub1 (by omega) (by omega), wsub (by omega) (by omega), wmul (by omega), wadd (by omega), if_pos ha.1, if_pos ha.2, if_pos (by omega), wadd1 (by omega), rd_pix]
  · intro i s r hi h
    refine Ev.step (fun k => ?_) h
    simp only [spec_l6Turn.l1]
    rw [if_neg (by omega), wadd1 (by omega)]
  · refine ev_succ ⟨0, fun k _ => ?_⟩
    simp only [spec_l6Turn.l0]
    rw [if_neg (by omega)]
theorem spec_l6Size_ev {wd hg : Nat} {l : List Pix} (hv : Valid wd hg l) {a b : Nat} (ha : 1 ≤ a ∧ a ≤ 6) (hb : 1 ≤ b ∧ b ≤ 6) : Ev (fun k => spec_l6Size.f k wd hg l 7 a b 0 0) ((a : Int), (b : Int), picM ⟨7, a, b, 0, 0⟩ wd hg l) := by
  obtain ⟨hw, hh, hl, -⟩ := hv
  have e : picM ⟨7, a, b, 0, 0⟩ wd hg l = mk a b fun x y => pix l wd ((2 * x + 1) * wd / (2 * a)) ((2 * y + 1) * hg / (2 * b)) := rfl
  rw [e]
  refine ev_rows a b (fun x y => pix l wd ((2 * x + 1) * wd / (2 * a)) ((2 * y + 1) * hg / (2 * b))) (fun k i s => spec_l6Size.l0 k i wd hg l 7 a b 0 0 a b s) (fun k i j s => spec_l6Size.l1 k i j wd hg l 7 a b 0 0 a b s) _ (by omega) (by omega) ?_ ?_ ?_ ?_
  · intro i s r hi h
    refine Ev.step (fun k => ?_) h
    simp only [spec_l6Size.l0]
    rw [if_pos (by omega)]
    rfl
  · intro i j s r hi hj hs h
    refine Ev.step (fun k => ?_) h
    have hx := scale_lt (n := a) hj (show 0 < wd by omega)
    have hy := scale_lt (n := b) hi (show 0 < hg by omega)
    have hp := place_le hw.2 hh.2 hy hx
    have hat := at_place hl hx hy
    have q1 : (2 * i + 1) * hg ≤ 13 * 6 := Nat.mul_le_mul (by omega) hh.2
    have q2 : (2 * j + 1) * wd ≤ 13 * 6 := Nat.mul_le_mul (by omega) hw.2
    simp only [spec_l6Size.l1]
    rw [if_pos (by omega), wmul2 (b := b) (by omega), if_neg (by omega), wmul2 (b := a) (by omega), if_neg (by omega), wmul2 (b := i) (by omega), wadd1 (by omega), wmul (by omega), wdiv (by omega), wmul2 (b := j) (by omega), wadd1 (by omega), wmul (a := 2 * j + 1) (b := wd) (by omega), wdiv (by omega), wmul (by omega), wadd (by omega), if_pos hat.1, if_pos hat.2, if_pos (by omega), wadd1 (by omega), rd_pix]
  · intro i s r hi h
    refine Ev.step (fun k => ?_) h
    simp only [spec_l6Size.l1]
    rw [if_neg (by omega), wadd1 (by omega)]
  · refine ev_succ ⟨0, fun k _ => ?_⟩
    simp only [spec_l6Size.l0]
    rw [if_neg (by omega)]
end Go.Proofs.Ytoifpgkfpdeglaa.X

namespace Go.Proofs.Ytoifpgkfpdeglaa.X
open Go.RowKit Go.Proofs.YtoifpgkfpdeglaaW.PrintWords Go.Proofs.Ytoifpgkfpdeglaa.Pl
set_option linter.unusedSimpArgs false
set_option linter.unusedVariables false

theorem ev_blocks {β : Type} (w h : Nat) (f : Nat → Nat → Pix) (g : Nat → Nat → List Pix → Option β) (R : β) (hw : w ≤ 6) (hh : h ≤ 6)
    (hstep : ∀ i s r, i < h → s.length ≤ 10000 → Ev (fun k => g k (i + 1) (s ++ (List.range' 0 w).map fun x => f x i)) r → Ev (fun k => g k i s) r)
    (hend : Ev (fun k => g k h (mk w h f)) R) : Ev (fun k => g k 0 []) R := by
  have outer : ∀ d i, i + d = h → Ev (fun k => g k i (mk w i f)) R := by
    intro d
    induction d with
    | zero => intro i hi; obtain rfl : i = h := by omega
              exact hend
    | succ d ih =>
      intro i hi
      have hm : w * i ≤ 6 * 6 := Nat.mul_le_mul hw (by omega)
      refine hstep i _ R (by omega) (by rw [mk_length]; omega) ?_
      rw [← mk_succ]
      exact ih (i + 1) (by omega)
  have := outer h 0 (by omega)
  rwa [mk_zero] at this
theorem row_eq {wd hg y : Nat} {l : List Pix} (hl : l.length = wd * hg) (hy : y < hg) : (l.take ((y + 1) * wd)).drop (y * wd) = (List.range' 0 wd).map fun x => pix l wd x y := by
  have h1 : (y + 1) * wd ≤ hg * wd := Nat.mul_le_mul_right _ (by omega)
  have h2 : (y + 1) * wd = y * wd + wd := by rw [Nat.add_mul, Nat.one_mul]
  have h3 : hg * wd = l.length := by rw [hl, Nat.mul_comm]
  rw [← List.range_eq_range']
  apply List.ext_getElem?
  intro i
  rw [List.getElem?_drop, List.getElem?_take, List.getElem?_map]
  by_cases hi : i < wd
  · rw [if_pos (by omega), List.getElem?_range hi, List.getElem?_eq_getElem (by omega)]
    unfold pix
    rw [Option.map_some, List.getD_eq_getElem?_getD, List.getElem?_eq_getElem (by omega)]
    rfl
  · rw [if_neg (by omega), List.getElem?_eq_none (by simp; omega)]
    rfl
theorem spec_l5Flip_ev {wd hg : Nat} {l : List Pix} (hv : Valid wd hg l) : Ev (fun k => spec_l5Flip.f k wd hg l) ((wd : Int), (hg : Int), picM ⟨3, 0, 0, 0, 0⟩ wd hg l) := by
  obtain ⟨hw, hh, hl, -⟩ := hv
  rw [picM_flipY]
  have := ev_blocks wd hg (fun x y => pix l wd x (hg - 1 - y)) (fun k i s => spec_l5Flip.l0 k ((hg : Int) - 1 - i) wd hg l wd hg s) ((wd : Int), (hg : Int), mk wd hg fun x y => pix l wd x (hg - 1 - y)) (by omega) (by omega) ?_ ?_
  · refine Ev.congr (fun k => ?_) this
    show spec_l5Flip.f k wd hg l = _
    unfold spec_l5Flip.f
    rw [wrap_id (x := (hg : Int) - 1) (by omega) (by omega)]
    congr 1
    omega
  · intro i s r hi hs h
    refine Ev.step (fun k => ?_) h
    have e1 : (hg : Int) - 1 - (i : Int) = ((hg - 1 - i : Nat) : Int) := by omega
    have e2 : wrap64 (((hg - 1 - i : Nat) : Int) - 1) = (hg : Int) - 1 - ((i + 1 : Nat) : Int) := by rw [wrap_id (by omega) (by omega)]; omega
    have q1 : (hg - 1 - i) * wd ≤ 6 * 6 := Nat.mul_le_mul (by omega) hw.2
    have q2 : (hg - 1 - i + 1) * wd ≤ 7 * 6 := Nat.mul_le_mul (by omega) hw.2
    have h1 : (hg - 1 - i + 1) * wd ≤ hg * wd := Nat.mul_le_mul_right _ (by omega)
    have h2 : (hg - 1 - i + 1) * wd = (hg - 1 - i) * wd + wd := by rw [Nat.add_mul, Nat.one_mul]
    have h3 : hg * wd = l.length := by rw [hl, Nat.mul_comm]
    have hr := row_eq (y := hg - 1 - i) hl (by omega)
    have hlen : ((l.take ((hg - 1 - i + 1) * wd)).drop ((hg - 1 - i) * wd)).length ≤ 100 := by rw [hr]; simp; omega
    simp only [spec_l5Flip.l0]
    rw [if_pos (by omega), e1, wmul (by omega), wadd1 (by omega), wmul (by omega), if_pos (by omega), if_pos (by omega), if_pos (by omega), Option.bind_some, Int.toNat_natCast, Int.toNat_natCast, if_pos (by omega), e2, hr]
  · refine ev_succ ⟨0, fun k _ => ?_⟩
    simp only [spec_l5Flip.l0]
    rw [if_neg (by omega)]

/-! ### Colour by colour -/
theorem mnmx (a b : Int) : mn a b = (if b < a then b else a) ∧ mx a b = (if a < b then b else a) := ⟨rfl, rfl⟩
theorem mean_inner (l : List Pix) {wd hg x y Y : Nat} (hl : l.length = wd * hg) (hw : wd ≤ 6) (hh : hg ≤ 6) (hx : x < wd) (hY : Y < hg) (r : Int × Int × Int × Int) : ∀ d X C (s : Pix), X + d = nearLo x + nearMany x wd → C + d ≤ 1000 →
    Ev (fun k => spec_l6Mean.l0 k x y ((C + d : Nat) : Int) ((Y + 1 : Nat) : Int) wd hg l (rowSum l wd Y X d s).f0 (rowSum l wd Y X d s).f1 (rowSum l wd Y X d s).f2 (rowSum l wd Y X d s).f3) r →
    Ev (fun k => spec_l6Mean.l1 k x y C Y X wd hg l s.f0 s.f1 s.f2 s.f3) r := by
  have hn := nearMany_pos hx
  have hmin : mn (wrap64 ((wd : Int) - 1)) (wrap64 ((x : Int) + 1)) = ((nearLo x + nearMany x wd : Nat) : Int) - 1 := by
    rw [wrap_id (x := (wd : Int) - 1) (by omega) (by omega), wrap_id (x := (x : Int) + 1) (by omega) (by omega), (mnmx _ _).1, hn.2.1]
    split <;> omega
  intro d
  induction d with
  | zero =>
    intro X C s hX hC h
    refine Ev.step (fun k => ?_) h
    simp only [spec_l6Mean.l1]
    rw [hmin, if_neg (by omega), wadd1 (by omega)]
    rfl
  | succ d ih =>
    intro X C s hX hC h
    have hXw : X < wd := near_lt hx (by omega)
    have hp := place_le hw hh hY hXw
    have ha := at_place hl hXw hY
    have := ih (X + 1) (C + 1) (addP s (pix l wd X Y)) (by omega) (by omega) (by rw [show C + 1 + d = C + (d + 1) by omega]; exact h)
    refine Ev.step (fun k => ?_) this
    simp only [spec_l6Mean.l1]
    rw [hmin, if_pos (by omega), wmul (by omega), wadd (by omega), if_pos ha.1, if_pos ha.2, wadd1 (by omega), wadd1 (by omega)]
    rfl
theorem mean_outer (l : List Pix) {wd hg x y : Nat} (hl : l.length = wd * hg) (hw : wd ≤ 6) (hh : hg ≤ 6) (hx : x < wd) (hy : y < hg) : ∀ d Y C (s : Pix), Y + d = nearLo y + nearMany y hg → C + d * nearMany x wd = nearMany y hg * nearMany x wd →
    Ev (fun k => spec_l6Mean.l0 k x y C Y wd hg l s.f0 s.f1 s.f2 s.f3) ((meanP (boxSum l wd (nearLo x) (nearMany x wd) Y d s) (nearMany y hg * nearMany x wd)).f0, (meanP (boxSum l wd (nearLo x) (nearMany x wd) Y d s) (nearMany y hg * nearMany x wd)).f1, (meanP (boxSum l wd (nearLo x) (nearMany x wd) Y d s) (nearMany y hg * nearMany x wd)).f2, (meanP (boxSum l wd (nearLo x) (nearMany x wd) Y d s) (nearMany y hg * nearMany x wd)).f3) := by
  have hn := nearMany_pos hy
  have hnx := nearMany_pos hx
  have hmb := many_bd hx hy
  have hmin : mn (wrap64 ((hg : Int) - 1)) (wrap64 ((y : Int) + 1)) = ((nearLo y + nearMany y hg : Nat) : Int) - 1 := by
    rw [wrap_id (x := (hg : Int) - 1) (by omega) (by omega), wrap_id (x := (y : Int) + 1) (by omega) (by omega), (mnmx _ _).1, hn.2.1]
    split <;> omega
  have hmax : mx 0 (wrap64 ((x : Int) - 1)) = ((nearLo x : Nat) : Int) := by
    rw [wrap_id (x := (x : Int) - 1) (by omega) (by omega), (mnmx _ _).2]
    unfold nearLo
    split <;> omega
  intro d
  induction d with
  | zero =>
    intro Y C s hY hC
    rw [Nat.zero_mul, Nat.add_zero] at hC
    refine ev_succ ⟨0, fun k _ => ?_⟩
    simp only [spec_l6Mean.l0]
    rw [hmin, if_neg (by omega), if_neg (by omega), hC]
    rfl
  | succ d ih =>
    intro Y C s hY hC
    have hC' : C + nearMany x wd + d * nearMany x wd = nearMany y hg * nearMany x wd := by rw [Nat.add_mul, Nat.one_mul] at hC; omega
    have := mean_inner l hl hw hh hx (show Y < hg from near_lt hy (by omega)) _ (nearMany x wd) (nearLo x) C s rfl (by omega) (ih (Y + 1) (C + nearMany x wd) (rowSum l wd Y (nearLo x) (nearMany x wd) s) (by omega) hC')
    refine Ev.step (fun k => ?_) this
    simp only [spec_l6Mean.l0]
    rw [hmin, hmax, if_pos (by omega)]
theorem spec_l6Mean_ev (l : List Pix) {wd hg x y : Nat} (hl : l.length = wd * hg) (hw : wd ≤ 6) (hh : hg ≤ 6) (hx : x < wd) (hy : y < hg) :
    Ev (fun k => spec_l6Mean.f k wd hg l x y) ((blurP l wd hg x y).f0, (blurP l wd hg x y).f1, (blurP l wd hg x y).f2, (blurP l wd hg x y).f3) := by
  have h := mean_outer l hl hw hh hx hy (nearMany y hg) (nearLo y) 0 z36 rfl (by omega)
  have hmax : mx 0 (wrap64 ((y : Int) - 1)) = ((nearLo y : Nat) : Int) := by
    rw [wrap_id (x := (y : Int) - 1) (by omega) (by omega), (mnmx _ _).2]
    unfold nearLo
    split <;> omega
  refine Ev.congr (fun k => ?_) h
  show spec_l6Mean.f k wd hg l x y = _
  unfold spec_l6Mean.f
  rw [hmax]
  rfl
theorem each_ev {wd hg : Nat} {l : List Pix} (hv : Valid wd hg l) (o0 o1 o2 o3 o4 : Int) (F : Nat → Nat → Pix)
    (hstep : ∀ i (s : List Pix) r, i < l.length → s.length = i → Ev (fun k => spec_l6Each.l0 k ((i + 1 : Nat) : Int) wd hg l o0 o1 o2 o3 o4 wd hg (s ++ [F (i % wd) (i / wd)])) r → Ev (fun k => spec_l6Each.l0 k (i : Int) wd hg l o0 o1 o2 o3 o4 wd hg s) r) :
    Ev (fun k => spec_l6Each.f k wd hg l o0 o1 o2 o3 o4) ((wd : Int), (hg : Int), mk wd hg F) := by
  obtain ⟨hw, hh, hl, -⟩ := hv
  have hle : wd * hg ≤ 6 * 6 := Nat.mul_le_mul hw.2 hh.2
  have := ev_line l.length (fun i => F (i % wd) (i / wd)) (fun k i s => spec_l6Each.l0 k i wd hg l o0 o1 o2 o3 o4 wd hg s) ((wd : Int), (hg : Int), mk wd hg F) (by omega) hstep ?_
  · exact this
  · refine ev_succ ⟨0, fun k _ => ?_⟩
    simp only [spec_l6Each.l0]
    rw [if_neg (by omega), hl]
    rfl
theorem rd_at {l : List Pix} {wd i : Nat} : rd_T36 l (i : Int) = pix l wd (i % wd) (i / wd) := by
  unfold pix
  rw [show i / wd * wd + i % wd = i by rw [Nat.mul_comm]; exact Nat.div_add_mod i wd]
  rfl
theorem spec_gray_ev {wd hg : Nat} {l : List Pix} (hv : Valid wd hg l) (a b c d : Int) : Ev (fun k => spec_l6Each.f k wd hg l 5 a b c d) ((wd : Int), (hg : Int), eachM grayP wd hg l) := by
  refine each_ev hv 5 a b c d (fun x y => grayP (pix l wd x y)) ?_
  have hle : wd * hg ≤ 6 * 6 := Nat.mul_le_mul hv.1.2 hv.2.1.2
  have hl := hv.2.2.1
  intro i s r hi hs h
  refine Ev.step (fun k => ?_) h
  rw [spec_l6Each.l0, if_pos (by omega), if_pos rfl, if_pos (by omega), rd_at (wd := wd)]
  show (if s.length < 4398046511104 then _ else none) = _
  rw [if_pos (by omega), wadd1 (by omega)]
  rfl
theorem spec_flat_ev {wd hg : Nat} {l : List Pix} (hv : Valid wd hg l) (a b c d : Int) : Ev (fun k => spec_l6Each.f k wd hg l 8 a b c d) ((wd : Int), (hg : Int), eachM (flatP a b c) wd hg l) := by
  refine each_ev hv 8 a b c d (fun x y => flatP a b c (pix l wd x y)) ?_
  have hle : wd * hg ≤ 6 * 6 := Nat.mul_le_mul hv.1.2 hv.2.1.2
  have hl := hv.2.2.1
  intro i s r hi hs h
  refine Ev.step (fun k => ?_) h
  rw [spec_l6Each.l0, if_pos (by omega), if_neg (by decide), if_neg (by decide), if_pos (by omega), rd_at (wd := wd)]
  show (if s.length < 4398046511104 then _ else none) = _
  rw [if_pos (by omega), wadd1 (by omega)]
  rfl
theorem spec_blur_ev {wd hg : Nat} {l : List Pix} (hv : Valid wd hg l) (a b c d : Int) : Ev (fun k => spec_l6Each.f k wd hg l 6 a b c d) ((wd : Int), (hg : Int), mk wd hg (blurP l wd hg)) := by
  refine each_ev hv 6 a b c d (blurP l wd hg) ?_
  have hle : wd * hg ≤ 6 * 6 := Nat.mul_le_mul hv.1.2 hv.2.1.2
  have hl := hv.2.2.1
  intro i s r hi hs h
  have hmd := mod_div_lt (show i < wd * hg by omega)
  obtain ⟨K1, h1⟩ := spec_l6Mean_ev l hl hv.1.2 hv.2.1.2 hmd.1 hmd.2
  obtain ⟨K2, h2⟩ := h
  refine ⟨K1 + K2 + 1, fun n hn => ?_⟩
  obtain ⟨m, rfl⟩ : ∃ m, n = m + 1 := ⟨n - 1, by omega⟩
  have e1 := h1 m (by omega)
  have e2 := h2 m (by omega)
  dsimp only at e1 e2 ⊢
  have t1 : Int.tmod (i : Int) (wd : Int) = ((i % wd : Nat) : Int) := rfl
  rw [spec_l6Each.l0, if_pos (by omega), if_neg (by decide), if_pos rfl, if_neg (by have := hv.1.1; omega), t1, wdiv (by omega), e1]
  show (if s.length < 4398046511104 then _ else none) = _
  rw [if_pos (by omega), wadd1 (by omega)]
  exact e2
theorem spec_l6Do_ev {wd hg : Nat} {l : List Pix} (hv : Valid wd hg l) {o : Op} (ho : OkO o) :
    Ev (fun k => spec_l6Do.f k wd hg l o.f0 o.f1 o.f2 o.f3 o.f4) (if hasM o wd hg then ((wideM o wd hg : Int), (highM o wd hg : Int), picM o wd hg l, true) else (0, 0, [], false)) := by
  have hw := hv.1
  have hh := hv.2.1
  have hok := ho
  rcases ho with ⟨h0, b1, b2, b3, b4⟩ | ⟨h0, z1, z2, z3, z4⟩ | ⟨h0, b1, b2, z3, z4⟩ | ⟨h0, b1, b2, b3, z4⟩
  · have e1 : wrap64 (o.f1 + o.f3) = o.f1 + o.f3 := wrap_id (by omega) (by omega)
    have e2 : wrap64 (o.f2 + o.f4) = o.f2 + o.f4 := wrap_id (by omega) (by omega)
    by_cases hm : hasM o wd hg = true
    · have hc := hasM_crop hm h0
      obtain ⟨K, h⟩ := spec_l6Crop_ev hv o h0 hok hm
      refine ⟨K + 1, fun n hn => ?_⟩
      obtain ⟨m, rfl⟩ : ∃ m, n = m + 1 := ⟨n - 1, by omega⟩
      have := h m (by omega)
      dsimp only at this ⊢
      unfold spec_l6Do.f
      rw [if_pos h0, e1, e2, if_neg (by omega), if_pos hm]
      simp only [spec_l6Do.j0]
      rw [if_neg (by simp; omega), this]
      rfl
    · rw [if_neg hm]
      have hm' : ¬ (o.f1 + o.f3 ≤ wd ∧ o.f2 + o.f4 ≤ hg) := by
        intro hc
        apply hm
        unfold hasM
        rw [if_pos h0]
        simp [hc]
      refine ev_succ ⟨0, fun k _ => ?_⟩
      unfold spec_l6Do.f
      dsimp only
      rw [if_pos h0, e1, e2]
      by_cases hx : o.f1 + o.f3 > (wd : Int)
      · rw [if_pos hx]
        simp only [spec_l6Do.j0, if_true]
      · rw [if_neg hx]
        simp only [spec_l6Do.j0]
        rw [if_pos (by simp; omega)]
  · have hm : hasM o wd hg = true := by unfold hasM; rw [if_neg (by omega)]
    obtain ⟨a0, a1, a2, a3, a4⟩ := o
    dsimp only at h0 z1 z2 z3 z4 ⊢
    subst z1 z2 z3 z4
    rw [if_pos hm]
    have : a0 = 2 ∨ a0 = 3 ∨ a0 = 4 ∨ a0 = 5 ∨ a0 = 6 := by omega
    rcases this with rfl | rfl | rfl | rfl | rfl
    · obtain ⟨K, h⟩ := spec_l6FlipX_ev hv
      exact ⟨K, fun n hn => by have := h n hn; dsimp only at this ⊢; unfold spec_l6Do.f; rw [if_neg (by decide), if_pos rfl, this]; rfl⟩
    · obtain ⟨K, h⟩ := spec_l5Flip_ev hv
      exact ⟨K, fun n hn => by have := h n hn; dsimp only at this ⊢; unfold spec_l6Do.f; rw [if_neg (by decide), if_neg (by decide), if_pos rfl, this]; rfl⟩
    · obtain ⟨K, h⟩ := spec_l6Turn_ev hv
      exact ⟨K, fun n hn => by have := h n hn; dsimp only at this ⊢; unfold spec_l6Do.f; rw [if_neg (by decide), if_neg (by decide), if_neg (by decide), if_pos rfl, this]; rfl⟩
    · obtain ⟨K, h⟩ := spec_gray_ev hv 0 0 0 0
      exact ⟨K, fun n hn => by have := h n hn; dsimp only at this ⊢; unfold spec_l6Do.f; rw [if_neg (by decide), if_neg (by decide), if_neg (by decide), if_neg (by decide), if_neg (by decide), this]; rfl⟩
    · obtain ⟨K, h⟩ := spec_blur_ev hv 0 0 0 0
      exact ⟨K, fun n hn => by have := h n hn; dsimp only at this ⊢; unfold spec_l6Do.f; rw [if_neg (by decide), if_neg (by decide), if_neg (by decide), if_neg (by decide), if_neg (by decide), this]; rfl⟩
  · have hm : hasM o wd hg = true := by unfold hasM; rw [if_neg (by omega)]
    obtain ⟨a0, a1, a2, a3, a4⟩ := o
    dsimp only at h0 b1 b2 z3 z4 ⊢
    obtain ⟨A, rfl⟩ : ∃ n : Nat, a1 = n := ⟨a1.toNat, by omega⟩
    obtain ⟨B, rfl⟩ : ∃ n : Nat, a2 = n := ⟨a2.toNat, by omega⟩
    subst h0 z3 z4
    rw [if_pos hm]
    obtain ⟨K, h⟩ := spec_l6Size_ev hv (a := A) (b := B) (by omega) (by omega)
    exact ⟨K, fun n hn => by have := h n hn; dsimp only at this ⊢; unfold spec_l6Do.f; rw [if_neg (by decide), if_neg (by decide), if_neg (by decide), if_neg (by decide), if_pos rfl, this]; rfl⟩
  · have hm : hasM o wd hg = true := by unfold hasM; rw [if_neg (by omega)]
    obtain ⟨a0, a1, a2, a3, a4⟩ := o
    dsimp only at h0 b1 b2 b3 z4 ⊢
    subst h0 z4
    rw [if_pos hm]
    obtain ⟨K, h⟩ := spec_flat_ev hv a1 a2 a3 0
    exact ⟨K, fun n hn => by have := h n hn; dsimp only at this ⊢; unfold spec_l6Do.f; rw [if_neg (by decide), if_neg (by decide), if_neg (by decide), if_neg (by decide), if_neg (by decide), this]; rfl⟩
end Go.Proofs.Ytoifpgkfpdeglaa.X

namespace Go.Proofs.Ytoifpgkfpdeglaa.X
open Go.RowKit Go.Proofs.YtoifpgkfpdeglaaW.PrintWords Go.Proofs.Ytoifpgkfpdeglaa.Pl
set_option linter.unusedSimpArgs false
set_option linter.unusedVariables false

theorem rd_eq {os : List Op} {i : Nat} (hi : i < os.length) : rd_T27 os (i : Int) = os[i] := by
  unfold rd_T27
  rw [List.getD_eq_getElem?_getD, Int.toNat_natCast, List.getElem?_eq_getElem hi]
  rfl
theorem allOk_iff (os : List Op) : allOkB os = true ↔ os.length ≤ 5 ∧ ∀ o ∈ os, OkO o := by
  unfold allOkB
  rw [Bool.and_eq_true, decide_eq_true_eq, List.all_eq_true]
  constructor
  · rintro ⟨h1, h2⟩
    refine ⟨h1, fun o ho => ?_⟩
    obtain ⟨i, hi, rfl⟩ := List.getElem_of_mem ho
    have := h2 i (List.mem_range.2 hi)
    rw [show opAt os i = os[i] from rd_eq hi] at this
    exact (okB_iff _).1 this
  · rintro ⟨h1, h2⟩
    refine ⟨h1, fun i hi => ?_⟩
    have hi' := List.mem_range.1 hi
    rw [show opAt os i = os[i] from rd_eq hi']
    exact (okB_iff _).2 (h2 _ (List.getElem_mem hi'))
theorem doI_of {wd hg : Nat} {l : List Pix} {o : Op} (hv : Valid wd hg l) (ho : OkO o) : doI wd hg l o = (((outM o wd hg l).1 : Int), ((outM o wd hg l).2.1 : Int), (outM o wd hg l).2.2.1, (outM o wd hg l).2.2.2) :=
  doI_out ((rasOkB_iff _ _ _).2 ⟨wd, hg, rfl, rfl, hv⟩) ((okB_iff o).2 ho)
theorem doI_hit {wd hg : Nat} {l : List Pix} {o : Op} (hv : Valid wd hg l) (ho : OkO o) (h : (doI wd hg l o).2.2.2 = true) : ∃ W H : Nat, ∃ l2, doI wd hg l o = ((W : Int), (H : Int), l2, true) ∧ Valid W H l2 := by
  have e := doI_of hv ho
  rw [e] at h
  obtain ⟨W, H, l2, b, hout⟩ : ∃ W H l2 b, outM o wd hg l = (W, H, l2, b) := ⟨_, _, _, _, rfl⟩
  rw [hout] at e h
  dsimp only at e h
  subst h
  obtain ⟨hm, rfl, rfl, rfl⟩ := outM_true hout
  exact ⟨_, _, _, e, valid_picM ho hv hm⟩
theorem doAll_cons (o : Op) (os : List Op) (a b : Int) (l : List Pix) : doAll (o :: os) a b l = if (doI a b l o).2.2.2 then doAll os (doI a b l o).1 (doI a b l o).2.1 (doI a b l o).2.2.1 else (0, 0, [], false) := rfl
/-- What all comes to is a picture, or nothing. -/
theorem doAll_ok : ∀ (os : List Op) (wd hg : Nat) (l : List Pix), (∀ o ∈ os, OkO o) → Valid wd hg l → (∃ W H : Nat, ∃ l2, doAll os wd hg l = ((W : Int), (H : Int), l2, true) ∧ Valid W H l2) ∨ doAll os wd hg l = (0, 0, [], false)
  | [], wd, hg, l, _, hv => Or.inl ⟨wd, hg, l, rfl, hv⟩
  | o :: os, wd, hg, l, ho, hv => by
    rw [doAll_cons]
    cases hd : (doI wd hg l o).2.2.2 with
    | false => exact Or.inr rfl
    | true =>
      obtain ⟨W, H, l2, e, hv2⟩ := doI_hit hv (ho o (by simp)) hd
      rw [e]
      exact doAll_ok os W H l2 (fun x hx => ho x (by simp [hx])) hv2
theorem opsI_ok {wd hg : Nat} {l : List Pix} {os : List Op} (hv : Valid wd hg l) (ho : allOkB os = true) : opsI wd hg l os = doAll os wd hg l := by
  unfold opsI
  rw [(rasOkB_iff _ _ _).2 ⟨wd, hg, rfl, rfl, hv⟩, ho]
  rfl
/-- What it says yes to. -/
theorem opsI_yes {a b : Int} {l : List Pix} {os : List Op} (h : (opsI a b l os).2.2.2 = true) : ∃ wd hg W H : Nat, ∃ l2, a = wd ∧ b = hg ∧ Valid wd hg l ∧ allOkB os = true ∧ doAll os wd hg l = ((W : Int), (H : Int), l2, true) ∧ opsI a b l os = ((W : Int), (H : Int), l2, true) ∧ Valid W H l2 := by
  unfold opsI at h
  split at h
  · rename_i hc
    rw [Bool.and_eq_true] at hc
    obtain ⟨wd, hg, rfl, rfl, hv⟩ := (rasOkB_iff a b l).1 hc.1
    rcases doAll_ok os wd hg l ((allOk_iff os).1 hc.2).2 hv with ⟨W, H, l2, e, hv2⟩ | e
    · exact ⟨wd, hg, W, H, l2, rfl, rfl, hv, hc.2, e, by rw [opsI_ok hv hc.2, e], hv2⟩
    · rw [e] at h; simp at h
  · simp at h
theorem opsI_no {a b : Int} {l : List Pix} {os : List Op} (h : (opsI a b l os).2.2.2 = false) : opsI a b l os = (0, 0, [], false) := by
  unfold opsI at h ⊢
  split at h
  · rename_i hc
    rw [if_pos hc]
    rw [Bool.and_eq_true] at hc
    obtain ⟨wd, hg, rfl, rfl, hv⟩ := (rasOkB_iff a b l).1 hc.1
    rcases doAll_ok os wd hg l ((allOk_iff os).1 hc.2).2 hv with ⟨W, H, l2, e, hv2⟩ | e
    · rw [e] at h; simp at h
    · exact e
  · rename_i hc
    rw [if_neg hc]
theorem opsI_len (a b : Int) (l : List Pix) (os : List Op) : (opsI a b l os).2.2.1.length ≤ 1048576 := by
  cases h : (opsI a b l os).2.2.2 with
  | false => rw [opsI_no h]; simp
  | true =>
    obtain ⟨wd, hg, W, H, l2, _, _, _, _, _, e, hv⟩ := opsI_yes h
    rw [e]
    show l2.length ≤ _
    have := Nat.mul_le_mul hv.1.2 hv.2.1.2
    have := hv.2.2.1
    omega
theorem spec_l3Copy_some (a b : Int) (l : List Pix) (hl : l.length ≤ 1048576) : spec_l3Copy.f a b l = some (a, b, l) := by
  unfold spec_l3Copy.f
  simp only [Option.bind_some, List.length_nil, List.nil_append]
  rw [if_pos (by omega)]
theorem spec_OpsDo_l0 (os : List Op) (hos : os.length ≤ 1048576) (hok : ∀ o ∈ os, OkO o) : ∀ d i, i + d = os.length → ∀ (wd hg : Nat) (l : List Pix), Valid wd hg l → Ev (fun k => spec_OpsDo.l0 k os (i : Int) wd hg l) (doAll (os.drop i) wd hg l) := by
  intro d
  induction d with
  | zero =>
    intro i hi wd hg l hv
    refine ev_succ ⟨0, fun k _ => ?_⟩
    rw [List.drop_of_length_le (by omega)]
    show spec_OpsDo.l0 (k + 1) os (i : Int) wd hg l = _
    rw [spec_OpsDo.l0, if_neg (by omega)]
    rfl
  | succ d ih =>
    intro i hi wd hg l hv
    have hi' : i < os.length := by omega
    rw [drop_at hi']
    have ho : OkO (rd_T27 os (i : Int)) := by rw [rd_eq hi']; exact hok _ (List.getElem_mem hi')
    obtain ⟨K1, h1⟩ := spec_l6Do_ev hv ho
    dsimp only at h1
    have e := doI_of hv ho
    cases hm : hasM (rd_T27 os (i : Int)) wd hg with
    | false =>
      rw [hm] at h1
      have e2 : doI wd hg l (rd_T27 os (i : Int)) = (0, 0, [], false) := by rw [e]; unfold outM; rw [hm]; rfl
      refine ev_succ ⟨K1, fun k hk => ?_⟩
      show spec_OpsDo.l0 (k + 1) os (i : Int) wd hg l = _
      rw [spec_OpsDo.l0, if_pos (by omega), if_pos (by omega), h1 k hk]
      rw [doAll_cons, e2]
      rfl
    | true =>
      rw [hm] at h1
      have hv2 := valid_picM ho hv hm
      have e2 : doI wd hg l (rd_T27 os (i : Int)) = ((wideM (rd_T27 os (i : Int)) wd hg : Int), (highM (rd_T27 os (i : Int)) wd hg : Int), picM (rd_T27 os (i : Int)) wd hg l, true) := by rw [e]; unfold outM; rw [hm]; rfl
      obtain ⟨K2, h2⟩ := ih (i + 1) (by omega) _ _ _ hv2
      dsimp only at h2
      refine ev_succ ⟨K1 + K2, fun k hk => ?_⟩
      show spec_OpsDo.l0 (k + 1) os (i : Int) wd hg l = _
      rw [spec_OpsDo.l0, if_pos (by omega), if_pos (by omega), h1 k (by omega)]
      rw [doAll_cons, e2]
      simp only [Option.bind_some, if_true]
      rw [wrap_succ (by omega)]
      exact h2 k (by omega)
theorem spec_OpsDo_ev (a b : Int) (l : List Pix) (os : List Op) (hl : l.length ≤ 1048576) (hos : os.length ≤ 1048576) : Ev (fun k => spec_OpsDo.f k a b l os) (opsI a b l os) := by
  obtain ⟨K1, h1⟩ := spec_RasOk_ev a b l
  obtain ⟨K2, h2⟩ := spec_l6All_ev os (by omega)
  dsimp only at h1 h2
  cases hr : rasOkB a b l with
  | false =>
    rw [hr] at h1
    have e : opsI a b l os = (0, 0, [], false) := by unfold opsI; rw [hr]; rfl
    rw [e]
    refine ⟨K1 + 1, fun k hk => ?_⟩
    obtain ⟨k, rfl⟩ : ∃ m, k = m + 1 := ⟨k - 1, by omega⟩
    dsimp only
    unfold spec_OpsDo.f
    rw [h1 (k + 1) (by omega)]
    simp only [Option.bind_some, Bool.false_eq_true, if_false]
    rw [spec_OpsDo.j0, if_pos rfl]
  | true =>
    rw [hr] at h1
    cases ha : allOkB os with
    | false =>
      rw [ha] at h2
      have e : opsI a b l os = (0, 0, [], false) := by unfold opsI; rw [hr, ha]; rfl
      rw [e]
      refine ⟨K1 + K2 + 1, fun k hk => ?_⟩
      obtain ⟨k, rfl⟩ : ∃ m, k = m + 1 := ⟨k - 1, by omega⟩
      dsimp only
      unfold spec_OpsDo.f
      rw [h1 (k + 1) (by omega)]
      simp only [Option.bind_some, if_true]
      rw [h2 (k + 1) (by omega)]
      simp only [Option.bind_some, Bool.not_false]
      rw [spec_OpsDo.j0, if_pos rfl]
    | true =>
      rw [ha] at h2
      obtain ⟨wd, hg, rfl, rfl, hv⟩ := (rasOkB_iff a b l).1 hr
      obtain ⟨K3, h3⟩ := spec_OpsDo_l0 os hos ((allOk_iff os).1 ha).2 os.length 0 (by omega) wd hg l hv
      dsimp only at h3
      rw [opsI_ok hv ha]
      refine ⟨K1 + K2 + K3 + 1, fun k hk => ?_⟩
      obtain ⟨k, rfl⟩ : ∃ m, k = m + 1 := ⟨k - 1, by omega⟩
      dsimp only
      unfold spec_OpsDo.f
      rw [h1 (k + 1) (by omega)]
      simp only [Option.bind_some, if_true]
      rw [h2 (k + 1) (by omega)]
      simp only [Option.bind_some, Bool.not_true]
      rw [spec_OpsDo.j0, if_neg (by decide), spec_l3Copy_some _ _ _ hl]
      simp only [Option.bind_some]
      have := h3 k (by omega)
      rw [List.drop_zero] at this
      exact this
end Go.Proofs.Ytoifpgkfpdeglaa.X

namespace Go.Proofs.Ytoifpgkfpdeglaa.X
open Go.RowKit Go.Proofs.YtoifpgkfpdeglaaW.PrintWords Go.Proofs.Ytoifpgkfpdeglaa.Pl
set_option linter.unusedSimpArgs false
set_option linter.unusedVariables false

def mark4 (m : Int) (i : Nat) : Pix := ⟨m + 4 * i, m + 4 * i + 1, m + 4 * i + 2, m + 4 * i + 3⟩
def marks (m : Int) (n : Nat) : List Pix := (List.range n).map (mark4 m)
theorem marks_length (m : Int) (n : Nat) : (marks m n).length = n := by simp [marks]
theorem marks_getD {m : Int} {n i : Nat} (h : i < n) (z : Pix) : (marks m n).getD i z = mark4 m i := by
  unfold marks
  rw [List.getD_eq_getElem?_getD, List.getElem?_map, List.getElem?_range h]
  rfl
theorem rd_set {l : List Pix} {i : Nat} (h : i < l.length) (p : Pix) : rd_T36 (l.set i p) (i : Int) = p := by
  unfold rd_T36
  rw [List.getD_eq_getElem?_getD, Int.toNat_natCast, List.getElem?_set_self h]
  rfl
theorem markPixPixS_ev (l : List Pix) (m : Int) (hm : 0 ≤ m ∧ m ≤ 1000) (hl : l.length ≤ 1048576) : Ev (fun k => laws_markPixPixS.f k l m) (m + 4 * l.length, marks m l.length) := by
  obtain ⟨r, h, rfl⟩ := ev_up (α := Int × List Pix) l.length (fun k i (s : List Pix × Int) => laws_markPixPixS.l0 k s.1 s.2 i) (fun i s => s.1.length = l.length ∧ s.1.take i = (marks m l.length).take i ∧ s.2 = m + 4 * i) (fun r => r = (m + 4 * l.length, marks m l.length)) (by
    rintro i ⟨s, x⟩ hi ⟨h1, h2, h3⟩
    dsimp only at h1 h2 h3
    subst h3
    refine Or.inl ⟨(s.set i (mark4 m i), m + 4 * ((i + 1 : Nat) : Int)), ⟨by simpa using h1, ?_, rfl⟩, fun r hr => Ev.step (fun k => ?_) hr⟩
    · have := set_take_next (marks m l.length) s z36 i (by rw [marks_length]; exact hi) (by rw [marks_length]; exact h1) h2
      rwa [marks_getD hi] at this
    · have hs : i < s.length := by omega
      have w1 : wrap64 (m + 4 * (i : Int) + 1) = m + 4 * i + 1 := wrap_id (by omega) (by omega)
      have w2 : wrap64 (m + 4 * (i : Int) + 1 + 1) = m + 4 * i + 2 := by rw [wrap_id (by omega) (by omega)]; omega
      have w3 : wrap64 (m + 4 * (i : Int) + 2 + 1) = m + 4 * i + 3 := by rw [wrap_id (by omega) (by omega)]; omega
      have w4 : wrap64 (m + 4 * (i : Int) + 3 + 1) = m + 4 * ((i + 1 : Nat) : Int) := by rw [wrap_id (by omega) (by omega)]; omega
      dsimp only
      rw [laws_markPixPixS.l0, if_pos (by omega), if_pos (by omega)]
      simp only [Option.bind_some, Int.toNat_natCast, w1, w2, w3, w4, rd_set hs, List.set_set, wrap_succ (show i < 9223372036854775807 by omega)]
      rfl) (by
    rintro ⟨s, x⟩ ⟨h1, h2, h3⟩
    dsimp only at h1 h2 h3
    subst h3
    rw [List.take_of_length_le (by omega), List.take_of_length_le (by rw [marks_length]; omega)] at h2
    refine ⟨_, ev_succ ⟨0, fun k _ => ?_⟩, rfl⟩
    dsimp only
    rw [laws_markPixPixS.l0, if_neg (by omega), h2]) 0 (l, m) (by omega) ⟨rfl, by simp, by simp⟩
  exact h
theorem heldPixPixS_ev (n : Nat) (m : Int) (hm : 0 ≤ m ∧ m ≤ 1000) (hl : n ≤ 1048576) : Ev (fun k => laws_heldPixPixS.f k (marks m n) m) (m + 4 * n) := by
  obtain ⟨r, h, rfl⟩ := ev_up (α := Int) n (fun k i (x : Int) => laws_heldPixPixS.l0 k (marks m n) x i) (fun i x => x = m + 4 * i) (fun r => r = m + 4 * n) (by
    rintro i x hi rfl
    refine Or.inl ⟨m + 4 * ((i + 1 : Nat) : Int), rfl, fun r hr => Ev.step (fun k => ?_) hr⟩
    have w1 : wrap64 (m + 4 * (i : Int) + 1) = m + 4 * i + 1 := wrap_id (by omega) (by omega)
    have w2 : wrap64 (m + 4 * (i : Int) + 1 + 1) = m + 4 * i + 2 := by rw [wrap_id (by omega) (by omega)]; omega
    have w3 : wrap64 (m + 4 * (i : Int) + 2 + 1) = m + 4 * i + 3 := by rw [wrap_id (by omega) (by omega)]; omega
    have w4 : wrap64 (m + 4 * (i : Int) + 3 + 1) = m + 4 * ((i + 1 : Nat) : Int) := by rw [wrap_id (by omega) (by omega)]; omega
    have e : rd_T36 (marks m n) (i : Int) = mark4 m i := marks_getD hi _
    have hlen := marks_length m n
    rw [laws_heldPixPixS.l0, if_pos (by omega), if_pos (by omega)]
    simp only [e, mark4, w1, w2, w3, w4, if_true]
    rw [wrap_succ (by omega)]) (by
    rintro x rfl
    have hlen := marks_length m n
    refine ⟨_, ev_succ ⟨0, fun k _ => ?_⟩, rfl⟩
    dsimp only
    rw [laws_heldPixPixS.l0, if_neg (by omega)]) 0 m (by omega) (by simp)
  exact h
theorem markRas_ev (a b : Int) (l : List Pix) (m : Int) (hm : 0 ≤ m ∧ m ≤ 1000) (hl : l.length ≤ 1048576) : Ev (fun k => laws_markRasRaster.f k a b l m) (m + 4 * l.length, marks m l.length) := by
  obtain ⟨K, h⟩ := markPixPixS_ev l m hm hl
  refine ⟨K, fun n hn => ?_⟩
  have := h n hn
  dsimp only at this ⊢
  unfold laws_markRasRaster.f
  rw [this]
  rfl
theorem heldRas_ev (a b : Int) (n : Nat) (m : Int) (hm : 0 ≤ m ∧ m ≤ 1000) (hl : n ≤ 1048576) : Ev (fun k => laws_heldRasRaster.f k a b (marks m n) m) (m + 4 * n) := by
  obtain ⟨K, h⟩ := heldPixPixS_ev n m hm hl
  refine ⟨K, fun n' hn => ?_⟩
  have := h n' hn
  dsimp only at this ⊢
  unfold laws_heldRasRaster.f
  rw [this]
  simp only [Option.bind_some]
  rw [if_neg (by omega)]
end Go.Proofs.Ytoifpgkfpdeglaa.X

namespace Go.Proofs.Ytoifpgkfpdeglaa.X
open Go.RowKit Go.Proofs.YtoifpgkfpdeglaaW.PrintWords Go.Proofs.Ytoifpgkfpdeglaa.Pl
set_option linter.unusedSimpArgs false
set_option linter.unusedVariables false

def mark5 (m : Int) (i : Nat) : Op := ⟨m + 5 * i, m + 5 * i + 1, m + 5 * i + 2, m + 5 * i + 3, m + 5 * i + 4⟩
def marks5 (m : Int) (n : Nat) : List Op := (List.range n).map (mark5 m)
theorem marks5_length (m : Int) (n : Nat) : (marks5 m n).length = n := by simp [marks5]
theorem marks5_getD {m : Int} {n i : Nat} (h : i < n) (z : Op) : (marks5 m n).getD i z = mark5 m i := by
  unfold marks5
  rw [List.getD_eq_getElem?_getD, List.getElem?_map, List.getElem?_range h]
  rfl
theorem rd5_set {l : List Op} {i : Nat} (h : i < l.length) (p : Op) : rd_T27 (l.set i p) (i : Int) = p := by
  unfold rd_T27
  rw [List.getD_eq_getElem?_getD, Int.toNat_natCast, List.getElem?_set_self h]
  rfl
theorem markOpOpS_ev (l : List Op) (m : Int) (hm : 0 ≤ m ∧ m ≤ 10000000) (hl : l.length ≤ 1048576) : Ev (fun k => laws_markOpOpS.f k l m) (m + 5 * l.length, marks5 m l.length) := by
  obtain ⟨r, h, rfl⟩ := ev_up (α := Int × List Op) l.length (fun k i (s : List Op × Int) => laws_markOpOpS.l0 k s.1 s.2 i) (fun i s => s.1.length = l.length ∧ s.1.take i = (marks5 m l.length).take i ∧ s.2 = m + 5 * i) (fun r => r = (m + 5 * l.length, marks5 m l.length)) (by
    rintro i ⟨s, x⟩ hi ⟨h1, h2, h3⟩
    dsimp only at h1 h2 h3
    subst h3
    refine Or.inl ⟨(s.set i (mark5 m i), m + 5 * ((i + 1 : Nat) : Int)), ⟨by simpa using h1, ?_, rfl⟩, fun r hr => Ev.step (fun k => ?_) hr⟩
    · have := set_take_next (marks5 m l.length) s z27 i (by rw [marks5_length]; exact hi) (by rw [marks5_length]; exact h1) h2
      rwa [marks5_getD hi] at this
    · have hs : i < s.length := by omega
      have w1 : wrap64 (m + 5 * (i : Int) + 1) = m + 5 * i + 1 := wrap_id (by omega) (by omega)
      have w2 : wrap64 (m + 5 * (i : Int) + 1 + 1) = m + 5 * i + 2 := by rw [wrap_id (by omega) (by omega)]; omega
      have w3 : wrap64 (m + 5 * (i : Int) + 2 + 1) = m + 5 * i + 3 := by rw [wrap_id (by omega) (by omega)]; omega
      have w4 : wrap64 (m + 5 * (i : Int) + 3 + 1) = m + 5 * i + 4 := by rw [wrap_id (by omega) (by omega)]; omega
      have w5 : wrap64 (m + 5 * (i : Int) + 4 + 1) = m + 5 * ((i + 1 : Nat) : Int) := by rw [wrap_id (by omega) (by omega)]; omega
      dsimp only
      rw [laws_markOpOpS.l0, if_pos (by omega), if_pos (by omega)]
      simp only [Option.bind_some, Int.toNat_natCast, w1, w2, w3, w4, w5, rd5_set hs, List.set_set, wrap_succ (show i < 9223372036854775807 by omega)]
      rfl) (by
    rintro ⟨s, x⟩ ⟨h1, h2, h3⟩
    dsimp only at h1 h2 h3
    subst h3
    rw [List.take_of_length_le (by omega), List.take_of_length_le (by rw [marks5_length]; omega)] at h2
    refine ⟨_, ev_succ ⟨0, fun k _ => ?_⟩, rfl⟩
    dsimp only
    rw [laws_markOpOpS.l0, if_neg (by omega), h2]) 0 (l, m) (by omega) ⟨rfl, by simp, by simp⟩
  exact h
end Go.Proofs.Ytoifpgkfpdeglaa.X

namespace Go.Proofs.Ytoifpgkfpdeglaa.X
open Go.RowKit Go.Proofs.YtoifpgkfpdeglaaW.PrintWords Go.Proofs.Ytoifpgkfpdeglaa.Pl
set_option linter.unusedSimpArgs false
set_option linter.unusedVariables false
def sm45 (x : S45) : Prop := True
def sm27 (x : S27) : Prop := True
def cOpOp (x : S45) : S27 := ⟨x.f0, x.f1, x.f2, x.f3, x.f4⟩
theorem toOpOp_ev (v0 : Int) (v1 : Int) (v2 : Int) (v3 : Int) (v4 : Int) : Ev (fun k => laws_toOpOp.f v0 v1 v2 v3 v4) (v0, v1, v2, v3, v4) := by
  refine ⟨0, fun k hk => ?_⟩
  rfl
theorem eqOpOp_ev (v0 : Int) (v1 : Int) (v2 : Int) (v3 : Int) (v4 : Int) : Ev (fun k => laws_eqOpOp.f v0 v1 v2 v3 v4 v0 v1 v2 v3 v4) true := by
  refine ⟨0, fun k hk => ?_⟩
  simp [laws_eqOpOp.f]
theorem toOpOpS_ev (l : List S45) (hl : l.length ≤ 1048576 ∧ ∀ y ∈ l, sm45 y) : Ev (fun k => laws_toOpOpS.f k l) (l.map cOpOp) := by
  have hle := hl.1
  have := ev_map cOpOp z45 z27 l (fun k i s => laws_toOpOpS.l0 k l s i) hle ?_ ?_
  · refine Ev.congr (fun k => ?_) this
    show laws_toOpOpS.f k l = _
    unfold laws_toOpOpS.f
    rw [if_pos (by omega), if_pos (by omega)]
    rfl
  · intro i s hi hs r h
    have hx : sm45 (rd_T45 l (i : Int)) := hl.2 _ (getD_mem l z45 i hi)
    obtain ⟨K0, h0⟩ := toOpOp_ev ((rd_T45 l (i : Int)).f0) ((rd_T45 l (i : Int)).f1) ((rd_T45 l (i : Int)).f2) ((rd_T45 l (i : Int)).f3) ((rd_T45 l (i : Int)).f4) 
    obtain ⟨K, h⟩ := h
    refine ⟨K + K0 + 1, fun k hk => ?_⟩
    obtain ⟨k, rfl⟩ : ∃ m, k = m + 1 := ⟨k - 1, by omega⟩
    have e0 := h0 k (by omega)
    have e1 := h k (by omega)
    dsimp only at e0 e1
    simp only [laws_toOpOpS.l0]
    rw [if_pos (by omega), if_pos (by omega), e0]
    simp only [Option.bind_some]
    rw [if_pos (by omega), wrap_succ (by omega)]
    exact e1
  · intro k s hs
    simp only [laws_toOpOpS.l0]
    rw [if_neg (by omega)]
theorem eqOpOpS_ev (l : List S27) (hl : l.length ≤ 1048576 ∧ ∀ y ∈ l, sm27 y) : Ev (fun k => laws_eqOpOpS.f k l l) true := by
  have hle := hl.1
  have := ev_all l.length (fun k i => laws_eqOpOpS.l0 k l l i) ?_ ?_
  · refine Ev.congr (fun k => ?_) this
    show laws_eqOpOpS.f k l l = _
    unfold laws_eqOpOpS.f
    rw [if_pos rfl]
  · intro i hi h
    have hx : sm27 (rd_T27 l (i : Int)) := hl.2 _ (getD_mem l z27 i hi)
    obtain ⟨K0, h0⟩ := eqOpOp_ev ((rd_T27 l (i : Int)).f0) ((rd_T27 l (i : Int)).f1) ((rd_T27 l (i : Int)).f2) ((rd_T27 l (i : Int)).f3) ((rd_T27 l (i : Int)).f4) 
    obtain ⟨K, h⟩ := h
    refine ⟨K + K0 + 1, fun k hk => ?_⟩
    obtain ⟨k, rfl⟩ : ∃ m, k = m + 1 := ⟨k - 1, by omega⟩
    have e0 := h0 k (by omega)
    have e1 := h k (by omega)
    dsimp only at e0 e1
    simp only [laws_eqOpOpS.l0]
    rw [if_pos (by omega), if_pos (by omega), if_pos (by omega), e0]
    simp only [Option.bind_some, if_true]
    rw [wrap_succ (by omega)]
    exact e1
  · intro k
    simp only [laws_eqOpOpS.l0]
    rw [if_neg (by omega)]
theorem szOpOpS_ev (l : List S45) (left : Int) (h0 : 0 ≤ left) (h1 : left ≤ 1048576) (g : l.length ≤ maxLen ∧ ∀ y ∈ l, g45 y) : ∃ r, Ev (fun k => laws_szOpOpS.f l left) r ∧ r ≤ 1048576 ∧ (0 ≤ r → l.length ≤ 1048576 ∧ ∀ y ∈ l, sm45 y) := by
  have hm : maxLen = 9223372036854775807 := rfl
  have hlm : l.length ≤ maxLen := g.1
  have w : wrap64 (left - (l.length : Int)) = left - (l.length : Int) := wrap_id (by omega) (by omega)
  by_cases n : left - (l.length : Int) < 0
  · exact ⟨-1, ⟨0, fun k hk => by simp [laws_szOpOpS.f, w, n]⟩, by omega, fun h => absurd h (by omega)⟩
  exact ⟨left - (l.length : Int), ⟨0, fun k hk => by simp [laws_szOpOpS.f, w, n]⟩, by omega, fun _ => ⟨by omega, fun y _ => trivial⟩⟩
end Go.Proofs.Ytoifpgkfpdeglaa.X

namespace Go.Proofs.Ytoifpgkfpdeglaa.X
open Go.RowKit Go.Proofs.YtoifpgkfpdeglaaW.PrintWords Go.Proofs.Ytoifpgkfpdeglaa.Pl
set_option linter.unusedSimpArgs false
set_option linter.unusedVariables false
def sm94 (x : S94) : Prop := True
def sm36 (x : S36) : Prop := True
def cPixPix (x : S94) : S36 := ⟨x.f0, x.f1, x.f2, x.f3⟩
theorem toPixPix_ev (v0 : Int) (v1 : Int) (v2 : Int) (v3 : Int) : Ev (fun k => laws_toPixPix.f v0 v1 v2 v3) (v0, v1, v2, v3) := by
  refine ⟨0, fun k hk => ?_⟩
  rfl
theorem eqPixPix_ev (v0 : Int) (v1 : Int) (v2 : Int) (v3 : Int) : Ev (fun k => laws_eqPixPix.f v0 v1 v2 v3 v0 v1 v2 v3) true := by
  refine ⟨0, fun k hk => ?_⟩
  simp [laws_eqPixPix.f]
theorem toPixPixS_ev (l : List S94) (hl : l.length ≤ 1048576 ∧ ∀ y ∈ l, sm94 y) : Ev (fun k => laws_toPixPixS.f k l) (l.map cPixPix) := by
  have hle := hl.1
  have := ev_map cPixPix z94 z36 l (fun k i s => laws_toPixPixS.l0 k l s i) hle ?_ ?_
  · refine Ev.congr (fun k => ?_) this
    show laws_toPixPixS.f k l = _
    unfold laws_toPixPixS.f
    rw [if_pos (by omega), if_pos (by omega)]
    rfl
  · intro i s hi hs r h
    have hx : sm94 (rd_T94 l (i : Int)) := hl.2 _ (getD_mem l z94 i hi)
    obtain ⟨K0, h0⟩ := toPixPix_ev ((rd_T94 l (i : Int)).f0) ((rd_T94 l (i : Int)).f1) ((rd_T94 l (i : Int)).f2) ((rd_T94 l (i : Int)).f3) 
    obtain ⟨K, h⟩ := h
    refine ⟨K + K0 + 1, fun k hk => ?_⟩
    obtain ⟨k, rfl⟩ : ∃ m, k = m + 1 := ⟨k - 1, by omega⟩
    have e0 := h0 k (by omega)
    have e1 := h k (by omega)
    dsimp only at e0 e1
    simp only [laws_toPixPixS.l0]
    rw [if_pos (by omega), if_pos (by omega), e0]
    simp only [Option.bind_some]
    rw [if_pos (by omega), wrap_succ (by omega)]
    exact e1
  · intro k s hs
    simp only [laws_toPixPixS.l0]
    rw [if_neg (by omega)]
theorem eqPixPixS_ev (l : List S36) (hl : l.length ≤ 1048576 ∧ ∀ y ∈ l, sm36 y) : Ev (fun k => laws_eqPixPixS.f k l l) true := by
  have hle := hl.1
  have := ev_all l.length (fun k i => laws_eqPixPixS.l0 k l l i) ?_ ?_
  · refine Ev.congr (fun k => ?_) this
    show laws_eqPixPixS.f k l l = _
    unfold laws_eqPixPixS.f
    rw [if_pos rfl]
  · intro i hi h
    have hx : sm36 (rd_T36 l (i : Int)) := hl.2 _ (getD_mem l z36 i hi)
    obtain ⟨K0, h0⟩ := eqPixPix_ev ((rd_T36 l (i : Int)).f0) ((rd_T36 l (i : Int)).f1) ((rd_T36 l (i : Int)).f2) ((rd_T36 l (i : Int)).f3) 
    obtain ⟨K, h⟩ := h
    refine ⟨K + K0 + 1, fun k hk => ?_⟩
    obtain ⟨k, rfl⟩ : ∃ m, k = m + 1 := ⟨k - 1, by omega⟩
    have e0 := h0 k (by omega)
    have e1 := h k (by omega)
    dsimp only at e0 e1
    simp only [laws_eqPixPixS.l0]
    rw [if_pos (by omega), if_pos (by omega), if_pos (by omega), e0]
    simp only [Option.bind_some, if_true]
    rw [wrap_succ (by omega)]
    exact e1
  · intro k
    simp only [laws_eqPixPixS.l0]
    rw [if_neg (by omega)]
theorem szPixPixS_ev (l : List S94) (left : Int) (h0 : 0 ≤ left) (h1 : left ≤ 1048576) (g : l.length ≤ maxLen ∧ ∀ y ∈ l, g94 y) : ∃ r, Ev (fun k => laws_szPixPixS.f l left) r ∧ r ≤ 1048576 ∧ (0 ≤ r → l.length ≤ 1048576 ∧ ∀ y ∈ l, sm94 y) := by
  have hm : maxLen = 9223372036854775807 := rfl
  have hlm : l.length ≤ maxLen := g.1
  have w : wrap64 (left - (l.length : Int)) = left - (l.length : Int) := wrap_id (by omega) (by omega)
  by_cases n : left - (l.length : Int) < 0
  · exact ⟨-1, ⟨0, fun k hk => by simp [laws_szPixPixS.f, w, n]⟩, by omega, fun h => absurd h (by omega)⟩
  exact ⟨left - (l.length : Int), ⟨0, fun k hk => by simp [laws_szPixPixS.f, w, n]⟩, by omega, fun _ => ⟨by omega, fun y _ => trivial⟩⟩
end Go.Proofs.Ytoifpgkfpdeglaa.X

namespace Go.Proofs.Ytoifpgkfpdeglaa.X
open Go.RowKit Go.Proofs.YtoifpgkfpdeglaaW.PrintWords Go.Proofs.Ytoifpgkfpdeglaa.Pl
set_option linter.unusedSimpArgs false
set_option linter.unusedVariables false
theorem toRasRaster_ev (v0 : Int) (v1 : Int) (v2 : List S94) (s2 : (v2.length ≤ 1048576 ∧ ∀ y ∈ v2, sm94 y)) : Ev (fun k => laws_toRasRaster.f k v0 v1 v2) (v0, v1, (v2.map cPixPix)) := by
  obtain ⟨K0, h0⟩ := toPixPixS_ev v2 s2
  refine ⟨K0, fun k hk => ?_⟩
  simp only [laws_toRasRaster.f, h0 k (by omega), Option.bind_some]
theorem eqRasRaster_ev (v0 : Int) (v1 : Int) (v2 : List S36) (s2 : (v2.length ≤ 1048576 ∧ ∀ y ∈ v2, sm36 y)) : Ev (fun k => laws_eqRasRaster.f k v0 v1 v2 v0 v1 v2) true := by
  obtain ⟨K0, h0⟩ := eqPixPixS_ev v2 s2
  refine ⟨K0, fun k hk => ?_⟩
  simp [laws_eqRasRaster.f, h0 k (by omega)]
theorem szRasRaster_ev (v0 : Int) (v1 : Int) (v2 : List S94) (left : Int) (h0 : 0 ≤ left) (h1 : left ≤ 1048576) (g2 : v2.length ≤ maxLen ∧ ∀ y ∈ v2, g94 y) : ∃ r, Ev (fun k => laws_szRasRaster.f v0 v1 v2 left) r ∧ r ≤ 1048576 ∧ (0 ≤ r → (v2.length ≤ 1048576 ∧ ∀ y ∈ v2, sm94 y)) := by
  have hm : maxLen = 9223372036854775807 := rfl
  obtain ⟨c0, ⟨K0, e0⟩, u0, q0⟩ := szPixPixS_ev v2 left (by omega) (by omega) g2
  by_cases n0 : c0 < 0
  · exact ⟨-1, ⟨K0, fun k hk => by simp [laws_szRasRaster.f, e0 k (by omega), n0]⟩, by omega, fun h => absurd h (by omega)⟩
  exact ⟨c0, ⟨K0, fun k hk => by simp [laws_szRasRaster.f, e0 k (by omega), n0]⟩, by omega, fun _ => q0 (by omega)⟩
end Go.Proofs.Ytoifpgkfpdeglaa.X

namespace Go.Proofs.Ytoifpgkfpdeglaa.Pure
open Go.RowKit Go.Proofs.YtoifpgkfpdeglaaW.PrintWords Go.Proofs.Ytoifpgkfpdeglaa.Pl Go.Proofs.Ytoifpgkfpdeglaa.X
set_option linter.unusedSimpArgs false
set_option linter.unusedVariables false

theorem FnExactOpsDo : laws_FnExactOpsDo.Pure := by
  intro a b l0 l1 _ _ hl hg hl1 hg1
  obtain ⟨r, ⟨K0, e0⟩, hrle, hr⟩ := szRasRaster_ev a b l0 1048576 (by omega) (by omega) ⟨hl, hg⟩
  by_cases hn : r < 0
  · refine ⟨K0, ?_⟩
    have := e0 K0 (by omega)
    dsimp only at this
    unfold laws_FnExactOpsDo.f
    rw [this]
    simp [hn]
  obtain ⟨r1, ⟨K00, e00⟩, _, hr1⟩ := szOpOpS_ev l1 r (by omega) hrle ⟨hl1, hg1⟩
  by_cases hn1 : r1 < 0
  · refine ⟨K0 + K00, ?_⟩
    have := e0 (K0 + K00) (by omega)
    have h2 := e00 (K0 + K00) (by omega)
    dsimp only at this h2
    unfold laws_FnExactOpsDo.f
    rw [this]
    simp only [Option.bind_some, if_neg hn]
    rw [h2]
    simp [hn1]
  have hsm := hr (by omega)
  have hsm1 := hr1 (by omega)
  have hll : (l0.map cPixPix).length ≤ 1048576 := by rw [List.length_map]; exact hsm.1
  have hoo : (l1.map cOpOp).length ≤ 1048576 := by rw [List.length_map]; exact hsm1.1
  obtain ⟨K1, e1⟩ := toRasRaster_ev a b l0 hsm
  obtain ⟨K9, e9⟩ := toOpOpS_ev l1 hsm1
  generalize l0.map cPixPix = l at hll e1
  generalize l1.map cOpOp = os at hoo e9
  obtain ⟨K2, e2⟩ := spec_OpsDo_ev a b l os hll hoo
  have hDl := opsI_len a b l os
  have hi : impl_OpsDo.f a b l os = some (opsI a b l os) := by
    unfold impl_OpsDo.f
    rw [if_pos (by omega)]
  generalize opsI a b l os = D at e2 hDl hi
  obtain ⟨K3, e3⟩ := eqRasRaster_ev D.1 D.2.1 D.2.2.1 ⟨hDl, fun y _ => trivial⟩
  obtain ⟨K4, e4⟩ := eqRasRaster_ev a b l ⟨hll, fun y _ => trivial⟩
  obtain ⟨K10, e10⟩ := eqOpOpS_ev os ⟨hoo, fun y _ => trivial⟩
  obtain ⟨K5, e5⟩ := markRas_ev a b l 1 (by omega) hll
  obtain ⟨K11, e11⟩ := markOpOpS_ev os (1 + 4 * l.length) (by omega) hoo
  obtain ⟨K6, e6⟩ := markRas_ev D.1 D.2.1 D.2.2.1 1 (by omega) hDl
  obtain ⟨K7, e7⟩ := heldRas_ev D.1 D.2.1 D.2.2.1.length 1 (by omega) hDl
  obtain ⟨K, hK⟩ : ∃ K, K = K0 + K00 + K1 + K2 + K3 + K4 + K5 + K6 + K7 + K9 + K10 + K11 := ⟨_, rfl⟩
  have f0 := fun n (h : K ≤ n) => e0 n (by omega)
  have f00 := fun n (h : K ≤ n) => e00 n (by omega)
  have f1 := fun n (h : K ≤ n) => e1 n (by omega)
  have f2 := fun n (h : K ≤ n) => e2 n (by omega)
  have f3 := fun n (h : K ≤ n) => e3 n (by omega)
  have f4 := fun n (h : K ≤ n) => e4 n (by omega)
  have f5 := fun n (h : K ≤ n) => e5 n (by omega)
  have f6 := fun n (h : K ≤ n) => e6 n (by omega)
  have f7 := fun n (h : K ≤ n) => e7 n (by omega)
  have f9 := fun n (h : K ≤ n) => e9 n (by omega)
  have f10 := fun n (h : K ≤ n) => e10 n (by omega)
  have f11 := fun n (h : K ≤ n) => e11 n (by omega)
  dsimp only at f0 f00 f1 f2 f3 f4 f5 f6 f7 f9 f10 f11
  clear e0 e00 e1 e2 e3 e4 e5 e6 e7 e9 e10 e11
  have n1 : ¬ (1 + 4 * (l.length : Int) + 5 * (os.length : Int) < 0) := by omega
  have n2 : ¬ (1 + 4 * (D.2.2.1.length : Int) < 0) := by omega
  refine ⟨K + 3, ?_⟩
  unfold laws_FnExactOpsDo.f
  rw [f0 (K + 3) (by omega)]
  simp only [Option.bind_some, if_neg hn]
  rw [f00 (K + 3) (by omega)]
  simp only [Option.bind_some, if_neg hn1, f1 (K + 3) (by omega), f9 (K + 3) (by omega), f2 (K + 3) (by omega), hi, f3 (K + 3) (by omega), if_true]
  rw [laws_FnExactOpsDo.j0]
  simp only [bne_self_eq_false, Bool.false_eq_true, if_false, Option.bind_some, f1 (K + 2) (by omega), f4 (K + 2) (by omega), if_true, f9 (K + 2) (by omega), f10 (K + 2) (by omega), f5 (K + 2) (by omega), f11 (K + 2) (by omega), if_neg n1, f3 (K + 2) (by omega)]
  rw [laws_FnExactOpsDo.j1]
  simp only [bne_self_eq_false, Bool.false_eq_true, if_false, Option.bind_some, f6 (K + 1) (by omega), f7 (K + 1) (by omega), if_neg n2, if_true, f1 (K + 1) (by omega), f9 (K + 1) (by omega), hi, f3 (K + 1) (by omega)]
  rw [laws_FnExactOpsDo.j2]
  simp only [bne_self_eq_false, Bool.false_eq_true, if_false, Option.bind_some, f7 K (by omega), if_neg n2, if_true]
end Go.Proofs.Ytoifpgkfpdeglaa.Pure
