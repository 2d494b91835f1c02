/- Lemmas and contracts for the law FnExactTenOk, part 6: of the program's functions, and over data alone. No condition. -/
import Derived.Test.YtgpkkkmapgnhkaaMFnExactTenOk2
import Derived.Test.YtgpkkkmapgnhkaaMFnExactTenOk3
import Derived.Test.YtgpkkkmapgnhkaaMFnExactTenOk5
import Derived.Test.YtgpkkkmapgnhkaaMFnExactTenOk1
import Derived.ChangeArms
import Derived.WideShapes
import Derived.DataElems
import Derived.DataReads
import Derived.KernelRfl
import Derived.Test.YtgpkkkmapgnhkaaMFnExactTenOk4
namespace Go.Proofs.Ytgpkkkmapgnhkaa.X
open Go.RowKit Go.Proofs.YtgpkkkmapgnhkaaW.PrintWords Go.Proofs.YtgpkkkmapgnhkaaW.PrintLast Go.Proofs.YtgpkkkmapgnhkaaW.PrintMore
attribute [local go_sem] max2_int min2_int max_two min_two max_three min_three max_four min_four
set_option linter.unusedVariables false
set_option linter.unusedSimpArgs false

section
open Go.Proofs.YtgpkkkmapgnhkaaW.PrintWords.Aside0 renaming mk → yaa
open Go.Proofs.YtgpkkkmapgnhkaaW.PrintWords renaming blk_cell → yab, pw_below_drewN → yae, below_drew1 → yai, below_alloc → yaj, blk_below → yak, below_set → yal, below_size → yat, below_step → yau
open Go.Proofs.YtgpkkkmapgnhkaaW.PrintWords.Kd renaming S_far → yac, R_far → yad, S_drew → yaf, S_alloc → yag, S_drewN → yah, C_alloc → yam, C_drewN → yan, S_below → yao, R_below → yap, C_drew → yaq, S_reads' → yar, C_below → yas, R_drew → yav, R_reads' → yaw, S_new' → yax, S_elder' → yay, S_types → yaz

def laws_FnExactTenOk.f (k : Nat) (l0_0 : List Int) (a0_1 : Int) (a0_2 : Int) (a0_3 : Int) (a0_4 : Int) (a0_5 : Int) (a0_6 : Int) (a1_0 : Int) (a1_1 : Int) (a1_2 : Int) (a1_3 : Int) (l1_4 : List (S165)) (l1_5 : List (S167)) (l1_6 : List ByteArray) (l1_7 : List (S169)) : Option (Bool) := (laws_szTenCfg.f l0_0 a0_1 a0_2 a0_3 a0_4 a0_5 a0_6 1048576).bind fun t103 => (if t103 < 0 then (some true) else ((laws_szTenState.f k a1_0 a1_1 a1_2 a1_3 l1_4 l1_5 l1_6 l1_7 t103).bind fun t104 => (if t104 < 0 then (some true) else ((laws_toTenCfg.f k l0_0 a0_1 a0_2 a0_3 a0_4 a0_5 a0_6).bind fun bt105 => ((laws_toTenState.f k a1_0 a1_1 a1_2 a1_3 l1_4 l1_5 l1_6 l1_7).bind fun bt114 => ((spec_TenOk.f k bt105.1 bt105.2.1 bt105.2.2.1 bt105.2.2.2.1 bt105.2.2.2.2.1 bt105.2.2.2.2.2.1 bt105.2.2.2.2.2.2 bt114.1 bt114.2.1 bt114.2.2.1 bt114.2.2.2.1 bt114.2.2.2.2.1 bt114.2.2.2.2.2.1 bt114.2.2.2.2.2.2.1 bt114.2.2.2.2.2.2.2).bind fun t130 => ((laws_toTenCfg.f k l0_0 a0_1 a0_2 a0_3 a0_4 a0_5 a0_6).bind fun bt131 => ((laws_toTenState.f k a1_0 a1_1 a1_2 a1_3 l1_4 l1_5 l1_6 l1_7).bind fun bt141 => ((impl_TenOk.f k bt131.1 bt131.2.1 bt131.2.2.1 bt131.2.2.2.1 bt131.2.2.2.2.1 bt131.2.2.2.2.2.1 bt131.2.2.2.2.2.2 bt141.1 bt141.2.1 bt141.2.2.1 bt141.2.2.2.1 bt141.2.2.2.2.1 bt141.2.2.2.2.2.1 bt141.2.2.2.2.2.2.1 bt141.2.2.2.2.2.2.2).bind fun t158 => (if (t158 != t130) = true then (some false) else ((laws_toTenCfg.f k l0_0 a0_1 a0_2 a0_3 a0_4 a0_5 a0_6).bind fun bt159 => ((laws_eqTenCfg.f k bt131.1 bt131.2.1 bt131.2.2.1 bt131.2.2.2.1 bt131.2.2.2.2.1 bt131.2.2.2.2.2.1 bt131.2.2.2.2.2.2 bt159.1 bt159.2.1 bt159.2.2.1 bt159.2.2.2.1 bt159.2.2.2.2.1 bt159.2.2.2.2.2.1 bt159.2.2.2.2.2.2).bind fun t168 => (if t168 = true then ((laws_toTenState.f k a1_0 a1_1 a1_2 a1_3 l1_4 l1_5 l1_6 l1_7).bind fun bt169 => ((laws_eqTenState.f k bt141.1 bt141.2.1 bt141.2.2.1 bt141.2.2.2.1 bt141.2.2.2.2.1 bt141.2.2.2.2.2.1 bt141.2.2.2.2.2.2.1 bt141.2.2.2.2.2.2.2 bt169.1 bt169.2.1 bt169.2.2.1 bt169.2.2.2.1 bt169.2.2.2.2.1 bt169.2.2.2.2.2.1 bt169.2.2.2.2.2.2.1 bt169.2.2.2.2.2.2.2).bind fun t185 => (if t185 = true then (some true) else (some false)))) else (some false))))))))))))))
set_option maxHeartbeats 8000000 in
set_option maxRecDepth 100000 in
theorem laws_FnExactTenOk.calls (k : Nat) (A0_0 : Option Addr) (c0_0 : Nat) (l0_0 : List Int) (a0_1 : Int) (a0_2 : Int) (a0_3 : Int) (a0_4 : Int) (a0_5 : Int) (a0_6 : Int) (a1_0 : Int) (a1_1 : Int) (a1_2 : Int) (a1_3 : Int) (A1_4 : Option Addr) (c1_4 : Nat) (l1_4 : List (S165)) (A1_5 : Option Addr) (c1_5 : Nat) (l1_5 : List (S167)) (A1_6 : Option Addr) (c1_6 : Nat) (l1_6 : List ByteArray) (A1_7 : Option Addr) (c1_7 : Nat) (l1_7 : List (S169)) (r : Bool) (w : World) (hr0_0 : Kd.C (Kd.int .u8) w A0_0 l0_0.length l0_0) (hc0_0 : l0_0.length ≤ c0_0) (hr1_4 : Kd.C k165 w A1_4 l1_4.length l1_4) (hc1_4 : l1_4.length ≤ c1_4) (hr1_5 : Kd.C k167 w A1_5 l1_5.length l1_5) (hc1_5 : l1_5.length ≤ c1_5) (hr1_6 : Kd.C Kd.string w A1_6 l1_6.length l1_6) (hc1_6 : l1_6.length ≤ c1_6) (hr1_7 : Kd.C k169 w A1_7 l1_7.length l1_7) (hc1_7 : l1_7.length ≤ c1_7) (h : laws_FnExactTenOk.f k l0_0 a0_1 a0_2 a0_3 a0_4 a0_5 a0_6 a1_0 a1_1 a1_2 a1_3 l1_4 l1_5 l1_6 l1_7 = some r) (hrt : r = true) :
  Calls Try.prog 11 #[.agg #[.slice A0_0 l0_0.length c0_0, .int .i64 a0_1, .int .i64 a0_2, .int .i64 a0_3, .int .i64 a0_4, .int .i64 a0_5, .int .i64 a0_6], .agg #[.int .i64 a1_0, .int .i64 a1_1, .int .i64 a1_2, .int .i64 a1_3, .slice A1_4 l1_4.length c1_4, .slice A1_5 l1_5.length c1_5, .slice A1_6 l1_6.length c1_6, .slice A1_7 l1_7.length c1_7]] w fun e w' => e = .returned (.bool r) ∧ Below w.heap.size w w' := by
 have hu30 := Try.underlying30; have hu83 := Try.underlying83; have hu24 := Try.underlying24; have hu63 := Try.underlying63; have HR0_0 := yaa hr0_0; have HC0_0 := yaa hc0_0; clear hr0_0 hc0_0; have HR1_4 := yaa hr1_4; have HC1_4 := yaa hc1_4; clear hr1_4 hc1_4; have HR1_5 := yaa hr1_5; have HC1_5 := yaa hc1_5; clear hr1_5 hc1_5; have HR1_6 := yaa hr1_6; have HC1_6 := yaa hc1_6; clear hr1_6 hc1_6; have HR1_7 := yaa hr1_7; have HC1_7 := yaa hc1_7; clear hr1_7 hc1_7; have HB := yaa (Below.refl w.heap.size w); have H : ((laws_szTenCfg.f l0_0 a0_1 a0_2 a0_3 a0_4 a0_5 a0_6 1048576).bind fun f9 => (if f9 < 0 then (some true) else ((laws_szTenState.f k a1_0 a1_1 a1_2 a1_3 l1_4 l1_5 l1_6 l1_7 f9).bind fun i3 => (if i3 < 0 then (some true) else ((laws_toTenCfg.f k l0_0 a0_1 a0_2 a0_3 a0_4 a0_5 a0_6).bind fun g7 => ((laws_toTenState.f k a1_0 a1_1 a1_2 a1_3 l1_4 l1_5 l1_6 l1_7).bind fun g5 => ((spec_TenOk.f k g7.1 g7.2.1 g7.2.2.1 g7.2.2.2.1 g7.2.2.2.2.1 g7.2.2.2.2.2.1 g7.2.2.2.2.2.2 g5.1 g5.2.1 g5.2.2.1 g5.2.2.2.1 g5.2.2.2.2.1 g5.2.2.2.2.2.1 g5.2.2.2.2.2.2.1 g5.2.2.2.2.2.2.2).bind fun g8 => ((laws_toTenCfg.f k l0_0 a0_1 a0_2 a0_3 a0_4 a0_5 a0_6).bind fun f2 => ((laws_toTenState.f k a1_0 a1_1 a1_2 a1_3 l1_4 l1_5 l1_6 l1_7).bind fun e3 => ((impl_TenOk.f k f2.1 f2.2.1 f2.2.2.1 f2.2.2.2.1 f2.2.2.2.2.1 f2.2.2.2.2.2.1 f2.2.2.2.2.2.2 e3.1 e3.2.1 e3.2.2.1 e3.2.2.2.1 e3.2.2.2.2.1 e3.2.2.2.2.2.1 e3.2.2.2.2.2.2.1 e3.2.2.2.2.2.2.2).bind fun g9 => (if (g9 != g8) = true then (some false) else ((laws_toTenCfg.f k l0_0 a0_1 a0_2 a0_3 a0_4 a0_5 a0_6).bind fun h0 => ((laws_eqTenCfg.f k f2.1 f2.2.1 f2.2.2.1 f2.2.2.2.1 f2.2.2.2.2.1 f2.2.2.2.2.2.1 f2.2.2.2.2.2.2 h0.1 h0.2.1 h0.2.2.1 h0.2.2.2.1 h0.2.2.2.2.1 h0.2.2.2.2.2.1 h0.2.2.2.2.2.2).bind fun k4 => (if k4 = true then ((laws_toTenState.f k a1_0 a1_1 a1_2 a1_3 l1_4 l1_5 l1_6 l1_7).bind fun g6 => ((laws_eqTenState.f k e3.1 e3.2.1 e3.2.2.1 e3.2.2.2.1 e3.2.2.2.2.1 e3.2.2.2.2.2.1 e3.2.2.2.2.2.2.1 e3.2.2.2.2.2.2.2 g6.1 g6.2.1 g6.2.2.1 g6.2.2.2.1 g6.2.2.2.2.1 g6.2.2.2.2.2.1 g6.2.2.2.2.2.2.1 g6.2.2.2.2.2.2.2).bind fun k5 => (if k5 = true then (some true) else (some false)))) else (some false))))))))))))))) = some r := h; clear h; obtain ⟨f9, A3, H⟩ := bindA H; (try dsimp only at H)
 by_cases c4 : f9 < 0
 ·
  rw [if_pos c4] at H
  have E6 : decide (f9 < 0) = true := decide_eq_true c4; clear c4; obtain rfl := Option.some.inj H
  go_enter Try.func11, Try.ntmps11
  go_wp2_with (first | ((with_reducible refine gd_ 2 rfl ?_); refine bx_ 2 rfl #[.slice A0_0 l0_0.length c0_0, .int .i64 a0_1, .int .i64 a0_2, .int .i64 a0_3, .int .i64 a0_4, .int .i64 a0_5, .int .i64 a0_6] 30 ?_; intro c8 hg w5 hbox hb; have b1 := yaa (hbox); have i1 := yaa ((by rw [hg]; exact (yat (upH HB.out)) : w.heap.size ≤ c8)); replace HB := yaa (yau (upH HB.out) hb); have k2 := i1; clear hb hbox hg) | ((with_reducible refine gd_ 3 rfl ?_); refine bx_ 3 rfl #[.int .i64 a1_0, .int .i64 a1_1, .int .i64 a1_2, .int .i64 a1_3, .slice A1_4 l1_4.length c1_4, .slice A1_5 l1_5.length c1_5, .slice A1_6 l1_6.length c1_6, .slice A1_7 l1_7.length c1_7] 83 ?_; intro c2 hg w6 hbox hb; have b2 := yaa (hbox); have i2 := yaa ((by rw [hg]; exact (yat (by repeat (with_reducible first | exact HB.out | apply yaj | apply yae | apply yai | refine yal ?_ (Aside0.out ‹_›)))) : w.heap.size ≤ c2)); replace HB := yaa (yau (by repeat (with_reducible first | exact HB.out | apply yaj | apply yae | apply yai | refine yal ?_ (Aside0.out ‹_›))) hb); have k3 := i2; have d0 := yaa ((by rw [hg]; exact Nat.ne_of_lt (blk_lt (upB b1.out)) : c8 ≠ c2)); replace b1 := yaa (yak (upB b1.out) hb); have f5 := yaa d0.out.symm; clear hb hbox hg; have J3 := d0.out; have J4 := f5.out; obtain ⟨E7, E8, E9, F0, F1, F2, F3⟩ := cc7_ b1.out; obtain ⟨F4, F5, F6, F7, F8, F9⟩ := cf6_ b1.out; have G0 := blk_frozen b1.out 6) | ((with_reducible refine gc_ 17 rfl ?_); refine gl_ (some 12) rfl Try.func17 #[.agg #[.slice A0_0 l0_0.length c0_0, .int .i64 a0_1, .int .i64 a0_2, .int .i64 a0_3, .int .i64 a0_4, .int .i64 a0_5, .int .i64 a0_6], .int .i64 1048576] ?_; (with_reducible refine (laws_szTenCfg.calls _ _ l0_0 a0_1 a0_2 a0_3 a0_4 a0_5 a0_6 1048576 f9 _ ?side1 ?side2 A3.out).mono ?_); (case side1 => repeat (first | exact (yas HR0_0.out HB.out) | (with_reducible refine yam ?_ _) | (with_reducible refine yan ?_ _) | (with_reducible refine yaq ?_))); (case side2 => exact HC0_0.out); rintro e w9 ⟨rfl, hb⟩; refine ⟨_, rfl, ?_⟩; replace b1 := yaa (yak (upB b1.out) hb); replace b2 := yaa (yak (upB b2.out) hb); replace HB := yaa (yau (by repeat (with_reducible first | exact HB.out | apply yaj | apply yae | apply yai | refine yal ?_ (Aside0.out ‹_›))) hb); (try clear hb)))
  go_ret
  exact ⟨by first | rfl | (simp [*, errW_none, errW_some] <;> rfl), by repeat (with_reducible first | exact HB.out | apply yaj | apply yae | apply yai | refine yal ?_ (Aside0.out ‹_›))⟩
 ·
  rw [if_neg c4] at H
  have E6 : decide (f9 < 0) = false := decide_eq_false c4; clear c4; obtain ⟨i3, A10, H⟩ := bindA H; (try dsimp only at H)
  by_cases c11 : i3 < 0
  ·
   rw [if_pos c11] at H
   have n3 : decide (i3 < 0) = true := decide_eq_true c11; clear c11; obtain rfl := Option.some.inj H
   go_enter Try.func11, Try.ntmps11
   go_wp2_with (first | ((with_reducible refine gd_ 2 rfl ?_); refine bx_ 2 rfl #[.slice A0_0 l0_0.length c0_0, .int .i64 a0_1, .int .i64 a0_2, .int .i64 a0_3, .int .i64 a0_4, .int .i64 a0_5, .int .i64 a0_6] 30 ?_; intro c8 hg w12 hbox hb; have b1 := yaa (hbox); have i1 := yaa ((by rw [hg]; exact (yat (upH HB.out)) : w.heap.size ≤ c8)); replace HB := yaa (yau (upH HB.out) hb); have k2 := i1; clear hb hbox hg) | ((with_reducible refine gd_ 3 rfl ?_); refine bx_ 3 rfl #[.int .i64 a1_0, .int .i64 a1_1, .int .i64 a1_2, .int .i64 a1_3, .slice A1_4 l1_4.length c1_4, .slice A1_5 l1_5.length c1_5, .slice A1_6 l1_6.length c1_6, .slice A1_7 l1_7.length c1_7] 83 ?_; intro c2 hg w13 hbox hb; have b2 := yaa (hbox); have i2 := yaa ((by rw [hg]; exact (yat (by repeat (with_reducible first | exact HB.out | apply yaj | apply yae | apply yai | refine yal ?_ (Aside0.out ‹_›)))) : w.heap.size ≤ c2)); replace HB := yaa (yau (by repeat (with_reducible first | exact HB.out | apply yaj | apply yae | apply yai | refine yal ?_ (Aside0.out ‹_›))) hb); have k3 := i2; have d0 := yaa ((by rw [hg]; exact Nat.ne_of_lt (blk_lt (upB b1.out)) : c8 ≠ c2)); replace b1 := yaa (yak (upB b1.out) hb); have f5 := yaa d0.out.symm; clear hb hbox hg; have H6 := d0.out; have H7 := f5.out; obtain ⟨p7, p8, p9, q0, q1, q2, q3⟩ := cc7_ b1.out; obtain ⟨q4, q5, q6, q7, q8, q9⟩ := cf6_ b1.out; have r0 := blk_frozen b1.out 6) | ((with_reducible refine gc_ 17 rfl ?_); refine gl_ (some 12) rfl Try.func17 #[.agg #[.slice A0_0 l0_0.length c0_0, .int .i64 a0_1, .int .i64 a0_2, .int .i64 a0_3, .int .i64 a0_4, .int .i64 a0_5, .int .i64 a0_6], .int .i64 1048576] ?_; (with_reducible refine (laws_szTenCfg.calls _ _ l0_0 a0_1 a0_2 a0_3 a0_4 a0_5 a0_6 1048576 f9 _ ?side1 ?side2 A3.out).mono ?_); (case side1 => repeat (first | exact (yas HR0_0.out HB.out) | (with_reducible refine yam ?_ _) | (with_reducible refine yan ?_ _) | (with_reducible refine yaq ?_))); (case side2 => exact HC0_0.out); rintro e w16 ⟨rfl, hb⟩; refine ⟨_, rfl, ?_⟩; replace b1 := yaa (yak (upB b1.out) hb); replace b2 := yaa (yak (upB b2.out) hb); replace HB := yaa (yau (by repeat (with_reducible first | exact HB.out | apply yaj | apply yae | apply yai | refine yal ?_ (Aside0.out ‹_›))) hb); (try clear hb); obtain ⟨r1, r2, r3, r4, r5, r6, r7, r8⟩ := cc8_ b2.out; obtain ⟨r9, t0, t1, t2, t3, t4, t5⟩ := cf7_ b2.out; have t6 := blk_frozen b2.out 7) | ((with_reducible refine gc_ 53 rfl ?_); refine gl_ (some 17) rfl Try.func53 #[.agg #[.int .i64 a1_0, .int .i64 a1_1, .int .i64 a1_2, .int .i64 a1_3, .slice A1_4 l1_4.length c1_4, .slice A1_5 l1_5.length c1_5, .slice A1_6 l1_6.length c1_6, .slice A1_7 l1_7.length c1_7], .int .i64 f9] ?_; (with_reducible refine (laws_szTenState.calls k a1_0 a1_1 a1_2 a1_3 _ _ l1_4 _ _ l1_5 _ _ l1_6 _ _ l1_7 f9 i3 _ ?side1 ?side2 ?side3 ?side4 ?side5 ?side6 ?side7 ?side8 A10.out).mono ?_); (case side1 => repeat (first | exact (yas HR1_4.out HB.out) | (with_reducible refine yam ?_ _) | (with_reducible refine yan ?_ _) | (with_reducible refine yaq ?_))); (case side2 => exact HC1_4.out); (case side3 => repeat (first | exact (yas HR1_5.out HB.out) | (with_reducible refine yam ?_ _) | (with_reducible refine yan ?_ _) | (with_reducible refine yaq ?_))); (case side4 => exact HC1_5.out); (case side5 => repeat (first | exact (yas HR1_6.out HB.out) | (with_reducible refine yam ?_ _) | (with_reducible refine yan ?_ _) | (with_reducible refine yaq ?_))); (case side6 => exact HC1_6.out); (case side7 => repeat (first | exact (yas HR1_7.out HB.out) | (with_reducible refine yam ?_ _) | (with_reducible refine yan ?_ _) | (with_reducible refine yaq ?_))); (case side8 => exact HC1_7.out); rintro e w18 ⟨rfl, hb⟩; refine ⟨_, rfl, ?_⟩; replace b1 := yaa (yak (upB b1.out) hb); replace b2 := yaa (yak (upB b2.out) hb); replace HB := yaa (yau (by repeat (with_reducible first | exact HB.out | apply yaj | apply yae | apply yai | refine yal ?_ (Aside0.out ‹_›))) hb); (try clear hb)))
   go_ret
   exact ⟨by first | rfl | (simp [*, errW_none, errW_some] <;> rfl), by repeat (with_reducible first | exact HB.out | apply yaj | apply yae | apply yai | refine yal ?_ (Aside0.out ‹_›))⟩
  ·
   rw [if_neg c11] at H
   have n3 : decide (i3 < 0) = false := decide_eq_false c11; clear c11; obtain ⟨⟨i4, k8, k9, l0, l1, l2, l3⟩, A19, H⟩ := bindA H; (try dsimp only at H); obtain ⟨⟨l4, l5, l6, l7, j6, j7, j8, j9⟩, A20, H⟩ := bindA H; (try dsimp only at H); obtain ⟨g8, A21, H⟩ := bindA H; (try dsimp only at H); obtain ⟨⟨c9, d4, d7, e1, e4, e6, e9⟩, A22, H⟩ := bindA H; (try dsimp only at H); obtain ⟨⟨d1, d2, d5, d8, d9, e2, e5, e7⟩, A23, H⟩ := bindA H; (try dsimp only at H); obtain ⟨g9, A24, H⟩ := bindA H; (try dsimp only at H)
   by_cases c25 : (g9 != g8) = true
   ·
    rw [if_pos c25] at H
    have n4 : (g9 != g8) = true := c25
    (try (have n5 : decide (g9 = g8) = false := by simpa using c25))
    (try (have n6 : (g9 == g8) = false := by simpa using c25))
    (try (have H8 : ¬ (g9 = g8) := by simpa using c25))
    clear c25
    rw [hrt] at H
    exact absurd H (by simp)
   ·
    rw [if_neg c25] at H
    have n4 : (g9 != g8) = false := (by simpa using c25)
    (try (have n5 : decide (g9 = g8) = true := by simpa using c25))
    (try (have n6 : (g9 == g8) = true := by simpa using c25))
    clear c25; obtain ⟨⟨l8, l9, m0, m1, m2, m3, m4⟩, A26, H⟩ := bindA H; (try dsimp only at H); obtain ⟨k4, A27, H⟩ := bindA H; (try dsimp only at H)
    by_cases c28 : k4 = true
    ·
     subst c28
     rw [if_pos rfl] at H
     obtain ⟨⟨m5, m6, m7, m8, m9, n0, n1, n2⟩, A29, H⟩ := bindA H; (try dsimp only at H); obtain ⟨k5, A30, H⟩ := bindA H; (try dsimp only at H)
     by_cases c31 : k5 = true
     ·
      subst c31
      rw [if_pos rfl] at H
      obtain rfl := Option.some.inj H
      go_enter Try.func11, Try.ntmps11
      try go_wp2_with (first | ((with_reducible refine gd_ 2 rfl ?_); refine bx_ 2 rfl #[.slice A0_0 l0_0.length c0_0, .int .i64 a0_1, .int .i64 a0_2, .int .i64 a0_3, .int .i64 a0_4, .int .i64 a0_5, .int .i64 a0_6] 30 ?_; intro c8 hg w32 hbox hb; have b1 := yaa (hbox); have i1 := yaa ((by rw [hg]; exact (yat (upH HB.out)) : w.heap.size ≤ c8)); replace HB := yaa (yau (upH HB.out) hb); have k2 := i1; clear hb hbox hg) | ((with_reducible refine gd_ 3 rfl ?_); refine bx_ 3 rfl #[.int .i64 a1_0, .int .i64 a1_1, .int .i64 a1_2, .int .i64 a1_3, .slice A1_4 l1_4.length c1_4, .slice A1_5 l1_5.length c1_5, .slice A1_6 l1_6.length c1_6, .slice A1_7 l1_7.length c1_7] 83 ?_; intro c2 hg w33 hbox hb; have b2 := yaa (hbox); have i2 := yaa ((by rw [hg]; exact (yat (by repeat (with_reducible first | exact HB.out | apply yaj | apply yae | apply yai | refine yal ?_ (Aside0.out ‹_›)))) : w.heap.size ≤ c2)); replace HB := yaa (yau (by repeat (with_reducible first | exact HB.out | apply yaj | apply yae | apply yai | refine yal ?_ (Aside0.out ‹_›))) hb); have k3 := i2; have d0 := yaa ((by rw [hg]; exact Nat.ne_of_lt (blk_lt (upB b1.out)) : c8 ≠ c2)); replace b1 := yaa (yak (upB b1.out) hb); have f5 := yaa d0.out.symm; clear hb hbox hg; have H9 := d0.out; have I0 := f5.out; obtain ⟨t7, t8, t9, u0, u1, u2, u3⟩ := cc7_ b1.out; obtain ⟨u4, u5, u6, u7, u9, v0⟩ := cf6_ b1.out; have v1 := blk_frozen b1.out 6) | ((with_reducible refine gc_ 17 rfl ?_); refine gl_ (some 12) rfl Try.func17 #[.agg #[.slice A0_0 l0_0.length c0_0, .int .i64 a0_1, .int .i64 a0_2, .int .i64 a0_3, .int .i64 a0_4, .int .i64 a0_5, .int .i64 a0_6], .int .i64 1048576] ?_; (with_reducible refine (laws_szTenCfg.calls _ _ l0_0 a0_1 a0_2 a0_3 a0_4 a0_5 a0_6 1048576 f9 _ ?side1 ?side2 A3.out).mono ?_); (case side1 => repeat (first | exact (yas HR0_0.out HB.out) | (with_reducible refine yam ?_ _) | (with_reducible refine yan ?_ _) | (with_reducible refine yaq ?_))); (case side2 => exact HC0_0.out); rintro e w36 ⟨rfl, hb⟩; refine ⟨_, rfl, ?_⟩; replace b1 := yaa (yak (upB b1.out) hb); replace b2 := yaa (yak (upB b2.out) hb); replace HB := yaa (yau (by repeat (with_reducible first | exact HB.out | apply yaj | apply yae | apply yai | refine yal ?_ (Aside0.out ‹_›))) hb); (try clear hb); obtain ⟨v2, v3, v4, v5, v6, v7, v8, v9⟩ := cc8_ b2.out; obtain ⟨w0, w1, w2, w3, w4, w7, w8⟩ := cf7_ b2.out; have x0 := blk_frozen b2.out 7) | ((with_reducible refine gc_ 53 rfl ?_); refine gl_ (some 17) rfl Try.func53 #[.agg #[.int .i64 a1_0, .int .i64 a1_1, .int .i64 a1_2, .int .i64 a1_3, .slice A1_4 l1_4.length c1_4, .slice A1_5 l1_5.length c1_5, .slice A1_6 l1_6.length c1_6, .slice A1_7 l1_7.length c1_7], .int .i64 f9] ?_; (with_reducible refine (laws_szTenState.calls k a1_0 a1_1 a1_2 a1_3 _ _ l1_4 _ _ l1_5 _ _ l1_6 _ _ l1_7 f9 i3 _ ?side1 ?side2 ?side3 ?side4 ?side5 ?side6 ?side7 ?side8 A10.out).mono ?_); (case side1 => repeat (first | exact (yas HR1_4.out HB.out) | (with_reducible refine yam ?_ _) | (with_reducible refine yan ?_ _) | (with_reducible refine yaq ?_))); (case side2 => exact HC1_4.out); (case side3 => repeat (first | exact (yas HR1_5.out HB.out) | (with_reducible refine yam ?_ _) | (with_reducible refine yan ?_ _) | (with_reducible refine yaq ?_))); (case side4 => exact HC1_5.out); (case side5 => repeat (first | exact (yas HR1_6.out HB.out) | (with_reducible refine yam ?_ _) | (with_reducible refine yan ?_ _) | (with_reducible refine yaq ?_))); (case side6 => exact HC1_6.out); (case side7 => repeat (first | exact (yas HR1_7.out HB.out) | (with_reducible refine yam ?_ _) | (with_reducible refine yan ?_ _) | (with_reducible refine yaq ?_))); (case side8 => exact HC1_7.out); rintro e w38 ⟨rfl, hb⟩; refine ⟨_, rfl, ?_⟩; replace b1 := yaa (yak (upB b1.out) hb); replace b2 := yaa (yak (upB b2.out) hb); replace HB := yaa (yau (by repeat (with_reducible first | exact HB.out | apply yaj | apply yae | apply yai | refine yal ?_ (Aside0.out ‹_›))) hb); (try clear hb)))
      replace b1 := yaa (blk_drew b1.out); replace b2 := yaa (blk_drew b2.out); replace HB := yaa (yai HB.out)
      refine start_ (n := 6) (S := fun w' => w'.cell? ⟨c8, 0, none⟩ = some (.slice A0_0 l0_0.length c0_0) ∧ w'.cell? ⟨c8, 1, none⟩ = some (.int .i64 a0_1) ∧ w'.cell? ⟨c8, 2, none⟩ = some (.int .i64 a0_2) ∧ w'.cell? ⟨c8, 3, none⟩ = some (.int .i64 a0_3) ∧ w'.cell? ⟨c8, 4, none⟩ = some (.int .i64 a0_4) ∧ w'.cell? ⟨c8, 5, none⟩ = some (.int .i64 a0_5) ∧ w'.cell? ⟨c8, 6, none⟩ = some (.int .i64 a0_6) ∧ w'.cell? ⟨c2, 0, none⟩ = some (.int .i64 a1_0) ∧ w'.cell? ⟨c2, 1, none⟩ = some (.int .i64 a1_1) ∧ w'.cell? ⟨c2, 2, none⟩ = some (.int .i64 a1_2) ∧ w'.cell? ⟨c2, 3, none⟩ = some (.int .i64 a1_3) ∧ w'.cell? ⟨c2, 4, none⟩ = some (.slice A1_4 l1_4.length c1_4) ∧ w'.cell? ⟨c2, 5, none⟩ = some (.slice A1_5 l1_5.length c1_5) ∧ w'.cell? ⟨c2, 6, none⟩ = some (.slice A1_6 l1_6.length c1_6) ∧ w'.cell? ⟨c2, 7, none⟩ = some (.slice A1_7 l1_7.length c1_7)) (ds := []) #[false, false, false, false, false, false] (by kernel_rfl) rfl rfl ⟨(yab b1.out 0).trans rfl, (yab b1.out 1).trans rfl, (yab b1.out 2).trans rfl, (yab b1.out 3).trans rfl, (yab b1.out 4).trans rfl, (yab b1.out 5).trans rfl, (yab b1.out 6).trans rfl, (yab b2.out 0).trans rfl, (yab b2.out 1).trans rfl, (yab b2.out 2).trans rfl, (yab b2.out 3).trans rfl, (yab b2.out 4).trans rfl, (yab b2.out 5).trans rfl, (yab b2.out 6).trans rfl, (yab b2.out 7).trans rfl⟩ (fun hHeld => ?_)
      generalize w38.drew = w39 at b1 b2 HB hHeld ⊢
      refine take_ (i := 0) (N := some 20) (v := ?_) (a' := ?_) #[true, false, false, false, false, false] rfl rfl (by kernel_rfl) (fun _ _ _ h => h) (Or.inl ⟨by rfl, ?_⟩) hHeld ?_ ?_
      rotate_left
      ·
       rintro w' ⟨s0, s1, s2, s3, s4, s5, s6, s7, s8, s9, s10, s11, s12, s13, s14⟩
       go_simp
       with_reducible rfl
      rotate_left
      ·
       simp only [Act.put, List.setIfInBounds_toArray, List.set_cons_zero, List.set_cons_succ, i64_w, i32_w]
       rfl
      refine take_ (i := 2) (N := some 22) (v := ?_) (a' := ?_) #[true, false, true, false, false, false] rfl rfl (by kernel_rfl) (fun _ _ _ h => h) (Or.inl ⟨by rfl, ?_⟩) hHeld ?_ ?_
      rotate_left
      ·
       rintro w' ⟨s0, s1, s2, s3, s4, s5, s6, s7, s8, s9, s10, s11, s12, s13, s14⟩
       go_simp
       with_reducible rfl
      rotate_left
      ·
       simp only [Act.put, List.setIfInBounds_toArray, List.set_cons_zero, List.set_cons_succ, i64_w, i32_w]
       rfl
      refine one_ (i := 1) (N := some 21) #[true, true, true, false, false, false] rfl rfl (by kernel_rfl) (by decide) (fun K hK => ?_)
      refine goes_ Try.func18 (by kernel_rfl) rfl #[.agg #[.slice A0_0 l0_0.length c0_0, .int .i64 a0_1, .int .i64 a0_2, .int .i64 a0_3, .int .i64 a0_4, .int .i64 a0_5, .int .i64 a0_6]] (by rfl) rfl rfl (by (try simp only [List.map_toArray, List.map_cons, List.map_nil]); first | done | rfl | (simp only [List.length_drop, List.length_take]; rfl)) ?_
      with_reducible refine (laws_toTenCfg.calls k _ _ l0_0 a0_1 a0_2 a0_3 a0_4 a0_5 a0_6 i4 k8 k9 l0 l1 l2 l3 _ ?side1 ?side2 A19.out).mono ?_
      (case side1 => repeat (first | exact (yas HR0_0.out HB.out) | (with_reducible refine yam ?_ _) | (with_reducible refine yan ?_ _) | (with_reducible refine yaq ?_)))
      (case side2 => exact HC0_0.out)
      rintro e w40 ⟨J5, rfl, ho0, hb⟩; refine ⟨_, rfl, ?_⟩
      have n0_ := yaa (Kd.R_lower ho0 (yat (by repeat (with_reducible first | exact HB.out | apply yaj | apply yae | apply yai | refine yal ?_ (Aside0.out ‹_›)))))
      have n1_ := yaa (yak (upB b1.out) hb); have n2_ := yaa (yak (upB b2.out) hb)
      have n3_ := yaa (yau (by repeat (with_reducible first | exact HB.out | apply yaj | apply yae | apply yai | refine yal ?_ (Aside0.out ‹_›))) hb)
      clear b1; clear b2; clear HB; have b6 := n0_; have b1 := n1_; have b2 := n2_; have HB := n3_; clear n0_ n1_ n2_ n3_; (try clear hb); (try clear hb2); (try clear hk); (try clear hi); (try clear ho0)
      refine hK.out _ _ ⟨(yab b1.out 0).trans rfl, (yab b1.out 1).trans rfl, (yab b1.out 2).trans rfl, (yab b1.out 3).trans rfl, (yab b1.out 4).trans rfl, (yab b1.out 5).trans rfl, (yab b1.out 6).trans rfl, (yab b2.out 0).trans rfl, (yab b2.out 1).trans rfl, (yab b2.out 2).trans rfl, (yab b2.out 3).trans rfl, (yab b2.out 4).trans rfl, (yab b2.out 5).trans rfl, (yab b2.out 6).trans rfl, (yab b2.out 7).trans rfl⟩ (fun hHeld => ?_)
      clear hK K
      refine norm_ (a' := ?_) ?_ ?_
      rotate_left
      ·
       show Act.put _ (some 21) _ = _
       simp only [Act.put, List.setIfInBounds_toArray, List.set_cons_zero, List.set_cons_succ, i64_w, i32_w]
       rfl
      refine one_ (i := 3) (N := some 23) #[true, true, true, true, false, false] rfl rfl (by kernel_rfl) (by decide) (fun K hK => ?_)
      refine goes_ Try.func55 (by kernel_rfl) rfl #[.agg #[.int .i64 a1_0, .int .i64 a1_1, .int .i64 a1_2, .int .i64 a1_3, .slice A1_4 l1_4.length c1_4, .slice A1_5 l1_5.length c1_5, .slice A1_6 l1_6.length c1_6, .slice A1_7 l1_7.length c1_7]] (by rfl) rfl rfl (by (try simp only [List.map_toArray, List.map_cons, List.map_nil]); first | done | rfl | (simp only [List.length_drop, List.length_take]; rfl)) ?_
      with_reducible refine (laws_toTenState.calls k a1_0 a1_1 a1_2 a1_3 _ _ l1_4 _ _ l1_5 _ _ l1_6 _ _ l1_7 l4 l5 l6 l7 j6 j7 j8 j9 _ ?side1 ?side2 ?side3 ?side4 ?side5 ?side6 ?side7 ?side8 A20.out).mono ?_
      (case side1 => repeat (first | exact (yas HR1_4.out HB.out) | (with_reducible refine yam ?_ _) | (with_reducible refine yan ?_ _) | (with_reducible refine yaq ?_)))
      (case side2 => exact HC1_4.out)
      (case side3 => repeat (first | exact (yas HR1_5.out HB.out) | (with_reducible refine yam ?_ _) | (with_reducible refine yan ?_ _) | (with_reducible refine yaq ?_)))
      (case side4 => exact HC1_5.out)
      (case side5 => repeat (first | exact (yas HR1_6.out HB.out) | (with_reducible refine yam ?_ _) | (with_reducible refine yan ?_ _) | (with_reducible refine yaq ?_)))
      (case side6 => exact HC1_6.out)
      (case side7 => repeat (first | exact (yas HR1_7.out HB.out) | (with_reducible refine yam ?_ _) | (with_reducible refine yan ?_ _) | (with_reducible refine yaq ?_)))
      (case side8 => exact HC1_7.out)
      rintro e w41 ⟨J6, J7, J8, J9, rfl, ho0, ho1, ho2, ho3, hb⟩; refine ⟨_, rfl, ?_⟩; have n0_ := yaa (yap (upR b6.out) hb)
      have n1_ := yaa (Kd.S_lower ho0 (yat (by repeat (with_reducible first | exact HB.out | apply yaj | apply yae | apply yai | refine yal ?_ (Aside0.out ‹_›)))))
      have n2_ := yaa (Kd.S_lower (yax ho1 (Kd.R_lt (upR b6.out))) (yat (by repeat (with_reducible first | exact HB.out | apply yaj | apply yae | apply yai | refine yal ?_ (Aside0.out ‹_›)))))
      have n3_ := yaa (Kd.R_lower ho2 (yat (by repeat (with_reducible first | exact HB.out | apply yaj | apply yae | apply yai | refine yal ?_ (Aside0.out ‹_›)))))
      have n4_ := yaa (Kd.S_lower (yax ho3 (Kd.R_lt (upR b6.out))) (yat (by repeat (with_reducible first | exact HB.out | apply yaj | apply yae | apply yai | refine yal ?_ (Aside0.out ‹_›)))))
      have n5_ := yaa (yak (upB b1.out) hb); have n6_ := yaa (yak (upB b2.out) hb)
      have n7_ := yaa (yau (by repeat (with_reducible first | exact HB.out | apply yaj | apply yae | apply yai | refine yal ?_ (Aside0.out ‹_›))) hb)
      clear b6; clear b1; clear b2; clear HB; have b6 := n0_; have b7 := n1_; have b8 := n2_; have b9 := n3_; have c0 := n4_; have b1 := n5_; have b2 := n6_; have HB := n7_; clear n0_ n1_ n2_ n3_ n4_ n5_ n6_ n7_; (try clear hb); (try clear hb2); (try clear hk); (try clear hi); (try clear ho0); (try clear ho1); (try clear ho2); (try clear ho3); obtain ⟨k0, k1, n7⟩ := Kd.R_slice b6.out
      (first | subst n7 | (injection n7 with f1_ f2_ f3_; have f4_ := f1_.symm; have f5_ := f3_.symm; clear f1_ f2_ f3_; subst f4_; subst f5_))
      obtain ⟨n8, n9, o0⟩ := Kd.S_slice b7.out
      (first | subst o0 | (injection o0 with f1_ f2_ f3_; have f4_ := f1_.symm; have f5_ := f3_.symm; clear f1_ f2_ f3_; subst f4_; subst f5_))
      obtain ⟨o1, o2, o3⟩ := Kd.S_slice b8.out
      (first | subst o3 | (injection o3 with f1_ f2_ f3_; have f4_ := f1_.symm; have f5_ := f3_.symm; clear f1_ f2_ f3_; subst f4_; subst f5_))
      obtain ⟨o4, o5, o6⟩ := Kd.R_slice b9.out
      (first | subst o6 | (injection o6 with f1_ f2_ f3_; have f4_ := f1_.symm; have f5_ := f3_.symm; clear f1_ f2_ f3_; subst f4_; subst f5_))
      obtain ⟨o7, o8, o9⟩ := Kd.S_slice c0.out
      (first | subst o9 | (injection o9 with f1_ f2_ f3_; have f4_ := f1_.symm; have f5_ := f3_.symm; clear f1_ f2_ f3_; subst f4_; subst f5_))
      refine hK.out _ _ ⟨(yab b1.out 0).trans rfl, (yab b1.out 1).trans rfl, (yab b1.out 2).trans rfl, (yab b1.out 3).trans rfl, (yab b1.out 4).trans rfl, (yab b1.out 5).trans rfl, (yab b1.out 6).trans rfl, (yab b2.out 0).trans rfl, (yab b2.out 1).trans rfl, (yab b2.out 2).trans rfl, (yab b2.out 3).trans rfl, (yab b2.out 4).trans rfl, (yab b2.out 5).trans rfl, (yab b2.out 6).trans rfl, (yab b2.out 7).trans rfl⟩ (fun hHeld => ?_)
      clear hK K
      refine norm_ (a' := ?_) ?_ ?_
      rotate_left
      ·
       show Act.put _ (some 23) _ = _
       simp only [Act.put, List.setIfInBounds_toArray, List.set_cons_zero, List.set_cons_succ, i64_w, i32_w]
       rfl
      refine one_ (i := 4) (N := some 24) #[true, true, true, true, true, false] rfl rfl (by kernel_rfl) (by decide) (fun K hK => ?_)
      refine goes_ Try.func54 (by kernel_rfl) rfl #[.agg #[.slice k0 i4.length k1, .int .i64 k8, .int .i64 k9, .int .i64 l0, .int .i64 l1, .int .i64 l2, .int .i64 l3], .agg #[.int .i64 l4, .int .i64 l5, .int .i64 l6, .int .i64 l7, .slice n8 j6.length n9, .slice o1 j7.length o2, .slice o4 j8.length o5, .slice o7 j9.length o8]] (by rfl) rfl rfl (by (try simp only [List.map_toArray, List.map_cons, List.map_nil]); first | done | rfl | (simp only [List.length_drop, List.length_take]; rfl)) ?_
      with_reducible refine (spec_TenOk.calls k _ _ i4 k8 k9 l0 l1 l2 l3 l4 l5 l6 l7 _ _ j6 _ _ j7 _ _ j8 _ _ j9 g8 _ ?side1 ?side2 ?side3 ?side4 ?side5 ?side6 ?side7 ?side8 ?side9 ?side10 A21.out).mono ?_
      (case side1 => repeat (first | exact (yaw b6.out).2.2 | (with_reducible refine yam ?_ _) | (with_reducible refine yan ?_ _) | (with_reducible refine yaq ?_)))
      (case side2 => exact (yaw b6.out).2.1)
      (case side3 => repeat (first | exact (yar b7.out).2.2 | (with_reducible refine yam ?_ _) | (with_reducible refine yan ?_ _) | (with_reducible refine yaq ?_)))
      (case side4 => exact (yar b7.out).2.1)
      (case side5 => repeat (first | exact (yar b8.out).2.2 | (with_reducible refine yam ?_ _) | (with_reducible refine yan ?_ _) | (with_reducible refine yaq ?_)))
      (case side6 => exact (yar b8.out).2.1)
      (case side7 => repeat (first | exact (yaw b9.out).2.2 | (with_reducible refine yam ?_ _) | (with_reducible refine yan ?_ _) | (with_reducible refine yaq ?_)))
      (case side8 => exact (yaw b9.out).2.1)
      (case side9 => repeat (first | exact (yar c0.out).2.2 | (with_reducible refine yam ?_ _) | (with_reducible refine yan ?_ _) | (with_reducible refine yaq ?_)))
      (case side10 => exact (yar c0.out).2.1)
      rintro e w47 ⟨rfl, hb⟩; refine ⟨_, rfl, ?_⟩; have n0_ := yaa (yap (upR b6.out) hb)
      have n1_ := yaa (yao (by (with_reducible repeat (first | apply yag | apply yah | apply yaf)); exact b7.out) hb)
      have n2_ := yaa (yao (by (with_reducible repeat (first | apply yag | apply yah | apply yaf)); exact b8.out) hb)
      have n3_ := yaa (yap (upR b9.out) hb)
      have n4_ := yaa (yao (by (with_reducible repeat (first | apply yag | apply yah | apply yaf)); exact c0.out) hb)
      have n5_ := yaa (yak (upB b1.out) hb); have n6_ := yaa (yak (upB b2.out) hb)
      have n7_ := yaa (yau (by repeat (with_reducible first | exact HB.out | apply yaj | apply yae | apply yai | refine yal ?_ (Aside0.out ‹_›))) hb)
      clear b6; clear b7; clear b8; clear b9; clear c0; clear b1; clear b2; clear HB; have b6 := n0_; have b7 := n1_; have b8 := n2_; have b9 := n3_; have c0 := n4_; have b1 := n5_; have b2 := n6_; have HB := n7_; clear n0_ n1_ n2_ n3_ n4_ n5_ n6_ n7_; (try clear hb); (try clear hb2); (try clear hk); (try clear hi)
      refine hK.out _ _ ⟨(yab b1.out 0).trans rfl, (yab b1.out 1).trans rfl, (yab b1.out 2).trans rfl, (yab b1.out 3).trans rfl, (yab b1.out 4).trans rfl, (yab b1.out 5).trans rfl, (yab b1.out 6).trans rfl, (yab b2.out 0).trans rfl, (yab b2.out 1).trans rfl, (yab b2.out 2).trans rfl, (yab b2.out 3).trans rfl, (yab b2.out 4).trans rfl, (yab b2.out 5).trans rfl, (yab b2.out 6).trans rfl, (yab b2.out 7).trans rfl⟩ (fun hHeld => ?_)
      clear hK K
      refine norm_ (a' := ?_) ?_ ?_
      rotate_left
      ·
       show Act.put _ (some 24) _ = _
       simp only [Act.put, List.setIfInBounds_toArray, List.set_cons_zero, List.set_cons_succ, i64_w, i32_w]
       rfl
      refine pure_ (i := 5) (N := some 6) (v := ?_) (a' := ?_) #[true, true, true, true, true, true] rfl rfl (by kernel_rfl) (fun _ _ _ h => h) (Or.inl ⟨by rfl, ?_⟩) ?_ ?_
      rotate_left
      ·
       intro w'
       go_simp
       with_reducible rfl
      rotate_left
      ·
       simp only [Act.put, List.setIfInBounds_toArray, List.set_cons_zero, List.set_cons_succ, i64_w, i32_w]
       rfl
      refine done_ (by kernel_rfl) ?_
      obtain ⟨x1, x2, x3, x4, x5, x6, x7⟩ := cc7_ b1.out; obtain ⟨x8, x9, y0, y1, y2, y3, y4⟩ := cf7_ b1.out
      try go_wp2_with (first | ((with_reducible refine gc_ 18 rfl ?_); refine gl_ (some 26) rfl Try.func18 #[.agg #[.slice A0_0 l0_0.length c0_0, .int .i64 a0_1, .int .i64 a0_2, .int .i64 a0_3, .int .i64 a0_4, .int .i64 a0_5, .int .i64 a0_6]] ?_; (with_reducible refine (laws_toTenCfg.calls k _ _ l0_0 a0_1 a0_2 a0_3 a0_4 a0_5 a0_6 c9 d4 d7 e1 e4 e6 e9 _ ?side1 ?side2 A22.out).mono ?_); (case side1 => repeat (first | exact (yas HR0_0.out HB.out) | (with_reducible refine yam ?_ _) | (with_reducible refine yan ?_ _) | (with_reducible refine yaq ?_))); (case side2 => exact HC0_0.out); rintro e w49 ⟨K0, rfl, ho0, hb⟩; refine ⟨_, rfl, ?_⟩; replace b7 := yaa (yao (by (with_reducible repeat (first | apply yag | apply yah | apply yaf)); exact b7.out) hb); replace b8 := yaa (yay (by (with_reducible repeat (first | apply yag | apply yah | apply yaf)); exact b8.out) (Kd.R_base ho0) hb); replace b9 := yaa (yap (upR b9.out) hb); replace c0 := yaa (yay (by (with_reducible repeat (first | apply yag | apply yah | apply yaf)); exact c0.out) (Kd.R_base ho0) hb); have c1 := yaa (Kd.R_lower (Kd.R_new' ho0 (Kd.R_lt (upR b6.out))) (yat (by repeat (with_reducible first | exact HB.out | apply yaj | apply yae | apply yai | refine yal ?_ (Aside0.out ‹_›))))); replace b6 := yaa (Kd.R_elder' (upR b6.out) (Kd.R_base ho0) hb); replace b1 := yaa (yak (upB b1.out) hb); replace b2 := yaa (yak (upB b2.out) hb); replace HB := yaa (yau (by repeat (with_reducible first | exact HB.out | apply yaj | apply yae | apply yai | refine yal ?_ (Aside0.out ‹_›))) hb); (try clear hb ho0)) | ((with_reducible refine gd_ 7 rfl ?_); refine bx_ 7 rfl #[.slice none 0 0, .int .i64 0, .int .i64 0, .int .i64 0, .int .i64 0, .int .i64 0, .int .i64 0] 24 ?_; intro b3 hg w50 hbox hb; replace b6 := yaa (yap (upR b6.out) hb); replace b7 := yaa (yao (by (with_reducible repeat (first | apply yag | apply yah | apply yaf)); exact b7.out) hb); replace b8 := yaa (yao (by (with_reducible repeat (first | apply yag | apply yah | apply yaf)); exact b8.out) hb); replace b9 := yaa (yap (upR b9.out) hb); replace c0 := yaa (yao (by (with_reducible repeat (first | apply yag | apply yah | apply yaf)); exact c0.out) hb); replace c1 := yaa (yap (upR c1.out) hb); have b4 := yaa (hbox); have p0 := yaa ((by rw [hg]; exact (yat (by repeat (with_reducible first | exact HB.out | apply yaj | apply yae | apply yai | refine yal ?_ (Aside0.out ‹_›)))) : w.heap.size ≤ b3)); replace HB := yaa (yau (by repeat (with_reducible first | exact HB.out | apply yaj | apply yae | apply yai | refine yal ?_ (Aside0.out ‹_›))) hb); have I1 := p0; have g0 := yaa ((by rw [hg]; exact Nat.ne_of_lt (blk_lt (upB b1.out)) : c8 ≠ b3)); replace b1 := yaa (yak (upB b1.out) hb); have i5 := yaa g0.out.symm; have g1 := yaa ((by rw [hg]; exact Nat.ne_of_lt (blk_lt (upB b2.out)) : c2 ≠ b3)); replace b2 := yaa (yak (upB b2.out) hb); have i6 := yaa g1.out.symm; clear hb hbox hg; obtain ⟨d6, d3, G1⟩ := Kd.R_slice c1.out; subst G1; have I2 := i5.out; have I3 := g0.out; have I4 := i6.out; have I5 := g1.out; obtain ⟨y5, y6, y7, y8, y9, z0, z1⟩ := cc7_ b4.out; obtain ⟨z2, z3, z4, z5, z6, z7, z8⟩ := cf7_ b4.out; obtain ⟨z9, A0, A1, A2, A4, A5, A6, A7⟩ := cc8_ b2.out; obtain ⟨A8, A9, B0, B1, B2, B3, B4⟩ := cf7_ b2.out; have B5 := blk_frozen b2.out 7) | ((with_reducible refine gc_ 55 rfl ?_); refine gl_ (some 28) rfl Try.func55 #[.agg #[.int .i64 a1_0, .int .i64 a1_1, .int .i64 a1_2, .int .i64 a1_3, .slice A1_4 l1_4.length c1_4, .slice A1_5 l1_5.length c1_5, .slice A1_6 l1_6.length c1_6, .slice A1_7 l1_7.length c1_7]] ?_; (with_reducible refine (laws_toTenState.calls k a1_0 a1_1 a1_2 a1_3 _ _ l1_4 _ _ l1_5 _ _ l1_6 _ _ l1_7 d1 d2 d5 d8 d9 e2 e5 e7 _ ?side1 ?side2 ?side3 ?side4 ?side5 ?side6 ?side7 ?side8 A23.out).mono ?_); (case side1 => exact yas HR1_4.out (by repeat (with_reducible first | exact HB.out | apply yaj | apply yae | apply yai | refine yal ?_ (Aside0.out ‹_›)))); (case side2 => exact HC1_4.out); (case side3 => exact yas HR1_5.out (by repeat (with_reducible first | exact HB.out | apply yaj | apply yae | apply yai | refine yal ?_ (Aside0.out ‹_›)))); (case side4 => exact HC1_5.out); (case side5 => exact yas HR1_6.out (by repeat (with_reducible first | exact HB.out | apply yaj | apply yae | apply yai | refine yal ?_ (Aside0.out ‹_›)))); (case side6 => exact HC1_6.out); (case side7 => exact yas HR1_7.out (by repeat (with_reducible first | exact HB.out | apply yaj | apply yae | apply yai | refine yal ?_ (Aside0.out ‹_›)))); (case side8 => exact HC1_7.out); rintro e w56 ⟨K1, K2, K3, K4, rfl, ho0, ho1, ho2, ho3, hb⟩; refine ⟨_, rfl, ?_⟩; have c3 := yaa (Kd.S_lower (yax ho0 (Kd.S_lt (by (with_reducible repeat (first | apply yag | apply yah | apply yaf)); exact (Kd.S_mono (yac (p := ⟨b3, 6, none⟩) (yac (p := ⟨b3, 5, none⟩) (yac (p := ⟨b3, 4, none⟩) (yac (p := ⟨b3, 3, none⟩) (yac (p := ⟨b3, 2, none⟩) (yac (p := ⟨b3, 1, none⟩) (yac (p := ⟨b3, 0, none⟩) (yaz b7.out b4.out (by decide)) (fun _ hk => hk.2) (.slice d6 c9.length d3)) (fun _ hk => hk.2) (.int .i64 d4)) (fun _ hk => hk.2) (.int .i64 d7)) (fun _ hk => hk.2) (.int .i64 e1)) (fun _ hk => hk.2) (.int .i64 e4)) (fun _ hk => hk.2) (.int .i64 e6)) (fun _ hk => hk.2) (.int .i64 e9)) (fun _ h_ => h_.1))))) (yat (by repeat (with_reducible first | exact HB.out | apply yaj | apply yae | apply yai | refine yal ?_ (Aside0.out ‹_›))))); replace b7 := yaa (yay (by (with_reducible repeat (first | apply yag | apply yah | apply yaf)); exact (Kd.S_mono (yac (p := ⟨b3, 6, none⟩) (yac (p := ⟨b3, 5, none⟩) (yac (p := ⟨b3, 4, none⟩) (yac (p := ⟨b3, 3, none⟩) (yac (p := ⟨b3, 2, none⟩) (yac (p := ⟨b3, 1, none⟩) (yac (p := ⟨b3, 0, none⟩) (yaz b7.out b4.out (by decide)) (fun _ hk => hk.2) (.slice d6 c9.length d3)) (fun _ hk => hk.2) (.int .i64 d4)) (fun _ hk => hk.2) (.int .i64 d7)) (fun _ hk => hk.2) (.int .i64 e1)) (fun _ hk => hk.2) (.int .i64 e4)) (fun _ hk => hk.2) (.int .i64 e6)) (fun _ hk => hk.2) (.int .i64 e9)) (fun _ h_ => h_.1))) (Kd.S_base ho0) hb); have c5 := yaa (Kd.S_lower (yax (yax (yax ho1 (Kd.R_lt (by (with_reducible repeat (first | apply Kd.R_alloc | apply Kd.R_drewN | apply yav)); exact (Kd.R_mono (yad (p := ⟨b3, 6, none⟩) (yad (p := ⟨b3, 5, none⟩) (yad (p := ⟨b3, 4, none⟩) (yad (p := ⟨b3, 3, none⟩) (yad (p := ⟨b3, 2, none⟩) (yad (p := ⟨b3, 1, none⟩) (yad (p := ⟨b3, 0, none⟩) (Kd.R_types b6.out b4.out (by decide)) (fun _ hk => hk.2) (.slice d6 c9.length d3)) (fun _ hk => hk.2) (.int .i64 d4)) (fun _ hk => hk.2) (.int .i64 d7)) (fun _ hk => hk.2) (.int .i64 e1)) (fun _ hk => hk.2) (.int .i64 e4)) (fun _ hk => hk.2) (.int .i64 e6)) (fun _ hk => hk.2) (.int .i64 e9)) (fun _ h_ => h_.1))))) (Kd.S_lt (by (with_reducible repeat (first | apply yag | apply yah | apply yaf)); exact (Kd.S_mono (yac (p := ⟨b3, 6, none⟩) (yac (p := ⟨b3, 5, none⟩) (yac (p := ⟨b3, 4, none⟩) (yac (p := ⟨b3, 3, none⟩) (yac (p := ⟨b3, 2, none⟩) (yac (p := ⟨b3, 1, none⟩) (yac (p := ⟨b3, 0, none⟩) (yaz b8.out b4.out (by decide)) (fun _ hk => hk.2) (.slice d6 c9.length d3)) (fun _ hk => hk.2) (.int .i64 d4)) (fun _ hk => hk.2) (.int .i64 d7)) (fun _ hk => hk.2) (.int .i64 e1)) (fun _ hk => hk.2) (.int .i64 e4)) (fun _ hk => hk.2) (.int .i64 e6)) (fun _ hk => hk.2) (.int .i64 e9)) (fun _ h_ => h_.1))))) (Kd.R_lt (by (with_reducible repeat (first | apply Kd.R_alloc | apply Kd.R_drewN | apply yav)); exact (Kd.R_mono (yad (p := ⟨b3, 6, none⟩) (yad (p := ⟨b3, 5, none⟩) (yad (p := ⟨b3, 4, none⟩) (yad (p := ⟨b3, 3, none⟩) (yad (p := ⟨b3, 2, none⟩) (yad (p := ⟨b3, 1, none⟩) (yad (p := ⟨b3, 0, none⟩) (Kd.R_types c1.out b4.out (by decide)) (fun _ hk => hk.2) (.slice d6 c9.length d3)) (fun _ hk => hk.2) (.int .i64 d4)) (fun _ hk => hk.2) (.int .i64 d7)) (fun _ hk => hk.2) (.int .i64 e1)) (fun _ hk => hk.2) (.int .i64 e4)) (fun _ hk => hk.2) (.int .i64 e6)) (fun _ hk => hk.2) (.int .i64 e9)) (fun _ h_ => h_.1))))) (yat (by repeat (with_reducible first | exact HB.out | apply yaj | apply yae | apply yai | refine yal ?_ (Aside0.out ‹_›))))); replace b8 := yaa (yay (by (with_reducible repeat (first | apply yag | apply yah | apply yaf)); exact (Kd.S_mono (yac (p := ⟨b3, 6, none⟩) (yac (p := ⟨b3, 5, none⟩) (yac (p := ⟨b3, 4, none⟩) (yac (p := ⟨b3, 3, none⟩) (yac (p := ⟨b3, 2, none⟩) (yac (p := ⟨b3, 1, none⟩) (yac (p := ⟨b3, 0, none⟩) (yaz b8.out b4.out (by decide)) (fun _ hk => hk.2) (.slice d6 c9.length d3)) (fun _ hk => hk.2) (.int .i64 d4)) (fun _ hk => hk.2) (.int .i64 d7)) (fun _ hk => hk.2) (.int .i64 e1)) (fun _ hk => hk.2) (.int .i64 e4)) (fun _ hk => hk.2) (.int .i64 e6)) (fun _ hk => hk.2) (.int .i64 e9)) (fun _ h_ => h_.1))) (Kd.S_base ho1) hb); have c6 := yaa (Kd.R_lower (Kd.R_new' ho2 (Kd.R_lt (by (with_reducible repeat (first | apply Kd.R_alloc | apply Kd.R_drewN | apply yav)); exact (Kd.R_mono (yad (p := ⟨b3, 6, none⟩) (yad (p := ⟨b3, 5, none⟩) (yad (p := ⟨b3, 4, none⟩) (yad (p := ⟨b3, 3, none⟩) (yad (p := ⟨b3, 2, none⟩) (yad (p := ⟨b3, 1, none⟩) (yad (p := ⟨b3, 0, none⟩) (Kd.R_types b9.out b4.out (by decide)) (fun _ hk => hk.2) (.slice d6 c9.length d3)) (fun _ hk => hk.2) (.int .i64 d4)) (fun _ hk => hk.2) (.int .i64 d7)) (fun _ hk => hk.2) (.int .i64 e1)) (fun _ hk => hk.2) (.int .i64 e4)) (fun _ hk => hk.2) (.int .i64 e6)) (fun _ hk => hk.2) (.int .i64 e9)) (fun _ h_ => h_.1))))) (yat (by repeat (with_reducible first | exact HB.out | apply yaj | apply yae | apply yai | refine yal ?_ (Aside0.out ‹_›))))); replace b9 := yaa (Kd.R_elder' (by (with_reducible repeat (first | apply Kd.R_alloc | apply Kd.R_drewN | apply yav)); exact (Kd.R_mono (yad (p := ⟨b3, 6, none⟩) (yad (p := ⟨b3, 5, none⟩) (yad (p := ⟨b3, 4, none⟩) (yad (p := ⟨b3, 3, none⟩) (yad (p := ⟨b3, 2, none⟩) (yad (p := ⟨b3, 1, none⟩) (yad (p := ⟨b3, 0, none⟩) (Kd.R_types b9.out b4.out (by decide)) (fun _ hk => hk.2) (.slice d6 c9.length d3)) (fun _ hk => hk.2) (.int .i64 d4)) (fun _ hk => hk.2) (.int .i64 d7)) (fun _ hk => hk.2) (.int .i64 e1)) (fun _ hk => hk.2) (.int .i64 e4)) (fun _ hk => hk.2) (.int .i64 e6)) (fun _ hk => hk.2) (.int .i64 e9)) (fun _ h_ => h_.1))) (Kd.R_base ho2) hb); have c7 := yaa (Kd.S_lower (yax (yax (yax ho3 (Kd.R_lt (by (with_reducible repeat (first | apply Kd.R_alloc | apply Kd.R_drewN | apply yav)); exact (Kd.R_mono (yad (p := ⟨b3, 6, none⟩) (yad (p := ⟨b3, 5, none⟩) (yad (p := ⟨b3, 4, none⟩) (yad (p := ⟨b3, 3, none⟩) (yad (p := ⟨b3, 2, none⟩) (yad (p := ⟨b3, 1, none⟩) (yad (p := ⟨b3, 0, none⟩) (Kd.R_types b6.out b4.out (by decide)) (fun _ hk => hk.2) (.slice d6 c9.length d3)) (fun _ hk => hk.2) (.int .i64 d4)) (fun _ hk => hk.2) (.int .i64 d7)) (fun _ hk => hk.2) (.int .i64 e1)) (fun _ hk => hk.2) (.int .i64 e4)) (fun _ hk => hk.2) (.int .i64 e6)) (fun _ hk => hk.2) (.int .i64 e9)) (fun _ h_ => h_.1))))) (Kd.S_lt (by (with_reducible repeat (first | apply yag | apply yah | apply yaf)); exact (Kd.S_mono (yac (p := ⟨b3, 6, none⟩) (yac (p := ⟨b3, 5, none⟩) (yac (p := ⟨b3, 4, none⟩) (yac (p := ⟨b3, 3, none⟩) (yac (p := ⟨b3, 2, none⟩) (yac (p := ⟨b3, 1, none⟩) (yac (p := ⟨b3, 0, none⟩) (yaz c0.out b4.out (by decide)) (fun _ hk => hk.2) (.slice d6 c9.length d3)) (fun _ hk => hk.2) (.int .i64 d4)) (fun _ hk => hk.2) (.int .i64 d7)) (fun _ hk => hk.2) (.int .i64 e1)) (fun _ hk => hk.2) (.int .i64 e4)) (fun _ hk => hk.2) (.int .i64 e6)) (fun _ hk => hk.2) (.int .i64 e9)) (fun _ h_ => h_.1))))) (Kd.R_lt (by (with_reducible repeat (first | apply Kd.R_alloc | apply Kd.R_drewN | apply yav)); exact (Kd.R_mono (yad (p := ⟨b3, 6, none⟩) (yad (p := ⟨b3, 5, none⟩) (yad (p := ⟨b3, 4, none⟩) (yad (p := ⟨b3, 3, none⟩) (yad (p := ⟨b3, 2, none⟩) (yad (p := ⟨b3, 1, none⟩) (yad (p := ⟨b3, 0, none⟩) (Kd.R_types c1.out b4.out (by decide)) (fun _ hk => hk.2) (.slice d6 c9.length d3)) (fun _ hk => hk.2) (.int .i64 d4)) (fun _ hk => hk.2) (.int .i64 d7)) (fun _ hk => hk.2) (.int .i64 e1)) (fun _ hk => hk.2) (.int .i64 e4)) (fun _ hk => hk.2) (.int .i64 e6)) (fun _ hk => hk.2) (.int .i64 e9)) (fun _ h_ => h_.1))))) (yat (by repeat (with_reducible first | exact HB.out | apply yaj | apply yae | apply yai | refine yal ?_ (Aside0.out ‹_›))))); replace b6 := yaa (yap (by (with_reducible repeat (first | apply Kd.R_alloc | apply Kd.R_drewN | apply yav)); exact (Kd.R_mono (yad (p := ⟨b3, 6, none⟩) (yad (p := ⟨b3, 5, none⟩) (yad (p := ⟨b3, 4, none⟩) (yad (p := ⟨b3, 3, none⟩) (yad (p := ⟨b3, 2, none⟩) (yad (p := ⟨b3, 1, none⟩) (yad (p := ⟨b3, 0, none⟩) (Kd.R_types b6.out b4.out (by decide)) (fun _ hk => hk.2) (.slice d6 c9.length d3)) (fun _ hk => hk.2) (.int .i64 d4)) (fun _ hk => hk.2) (.int .i64 d7)) (fun _ hk => hk.2) (.int .i64 e1)) (fun _ hk => hk.2) (.int .i64 e4)) (fun _ hk => hk.2) (.int .i64 e6)) (fun _ hk => hk.2) (.int .i64 e9)) (fun _ h_ => h_.1))) hb); replace c0 := yaa (yay (by (with_reducible repeat (first | apply yag | apply yah | apply yaf)); exact (Kd.S_mono (yac (p := ⟨b3, 6, none⟩) (yac (p := ⟨b3, 5, none⟩) (yac (p := ⟨b3, 4, none⟩) (yac (p := ⟨b3, 3, none⟩) (yac (p := ⟨b3, 2, none⟩) (yac (p := ⟨b3, 1, none⟩) (yac (p := ⟨b3, 0, none⟩) (yaz c0.out b4.out (by decide)) (fun _ hk => hk.2) (.slice d6 c9.length d3)) (fun _ hk => hk.2) (.int .i64 d4)) (fun _ hk => hk.2) (.int .i64 d7)) (fun _ hk => hk.2) (.int .i64 e1)) (fun _ hk => hk.2) (.int .i64 e4)) (fun _ hk => hk.2) (.int .i64 e6)) (fun _ hk => hk.2) (.int .i64 e9)) (fun _ h_ => h_.1))) (Kd.S_base ho3) hb); replace c1 := yaa (yap (by (with_reducible repeat (first | apply Kd.R_alloc | apply Kd.R_drewN | apply yav)); exact (Kd.R_mono (yad (p := ⟨b3, 6, none⟩) (yad (p := ⟨b3, 5, none⟩) (yad (p := ⟨b3, 4, none⟩) (yad (p := ⟨b3, 3, none⟩) (yad (p := ⟨b3, 2, none⟩) (yad (p := ⟨b3, 1, none⟩) (yad (p := ⟨b3, 0, none⟩) (Kd.R_types c1.out b4.out (by decide)) (fun _ hk => hk.2) (.slice d6 c9.length d3)) (fun _ hk => hk.2) (.int .i64 d4)) (fun _ hk => hk.2) (.int .i64 d7)) (fun _ hk => hk.2) (.int .i64 e1)) (fun _ hk => hk.2) (.int .i64 e4)) (fun _ hk => hk.2) (.int .i64 e6)) (fun _ hk => hk.2) (.int .i64 e9)) (fun _ h_ => h_.1))) hb); replace b1 := yaa (yak (g := c8) (o := .cells #[.slice A0_0 l0_0.length c0_0, .int .i64 a0_1, .int .i64 a0_2, .int .i64 a0_3, .int .i64 a0_4, .int .i64 a0_5, .int .i64 a0_6] 30 (0, 0)) (by repeat (with_reducible first | exact b1.out | refine oneB ?_ | refine blk_far ?_ g0.out _)) hb); replace b2 := yaa (yak (g := c2) (o := .cells #[.int .i64 a1_0, .int .i64 a1_1, .int .i64 a1_2, .int .i64 a1_3, .slice A1_4 l1_4.length c1_4, .slice A1_5 l1_5.length c1_5, .slice A1_6 l1_6.length c1_6, .slice A1_7 l1_7.length c1_7] 83 (0, 0)) (by repeat (with_reducible first | exact b2.out | refine oneB ?_ | refine blk_far ?_ g1.out _)) hb); replace b4 := yaa (yak (g := b3) (o := .cells #[.slice d6 c9.length d3, .int .i64 d4, .int .i64 d7, .int .i64 e1, .int .i64 e4, .int .i64 e6, .int .i64 e9] 24 (0, 0)) (by (repeat refine oneB ?_); refine blk_put (cs := #[.slice d6 c9.length d3, .int .i64 d4, .int .i64 d7, .int .i64 e1, .int .i64 e4, .int .i64 e6, .int .i64 0]) ?_ 6 _ rfl; refine blk_put (cs := #[.slice d6 c9.length d3, .int .i64 d4, .int .i64 d7, .int .i64 e1, .int .i64 e4, .int .i64 0, .int .i64 0]) ?_ 5 _ rfl; refine blk_put (cs := #[.slice d6 c9.length d3, .int .i64 d4, .int .i64 d7, .int .i64 e1, .int .i64 0, .int .i64 0, .int .i64 0]) ?_ 4 _ rfl; refine blk_put (cs := #[.slice d6 c9.length d3, .int .i64 d4, .int .i64 d7, .int .i64 0, .int .i64 0, .int .i64 0, .int .i64 0]) ?_ 3 _ rfl; refine blk_put (cs := #[.slice d6 c9.length d3, .int .i64 d4, .int .i64 0, .int .i64 0, .int .i64 0, .int .i64 0, .int .i64 0]) ?_ 2 _ rfl; refine blk_put (cs := #[.slice d6 c9.length d3, .int .i64 0, .int .i64 0, .int .i64 0, .int .i64 0, .int .i64 0, .int .i64 0]) ?_ 1 _ rfl; refine blk_put (cs := #[.slice none 0 0, .int .i64 0, .int .i64 0, .int .i64 0, .int .i64 0, .int .i64 0, .int .i64 0]) ?_ 0 _ rfl; exact upB b4.out) hb); replace HB := yaa (yau (by repeat (with_reducible first | exact HB.out | apply yaj | apply yae | apply yai | refine yal ?_ (Aside0.out ‹_›))) hb); (try clear hb ho0 ho1 ho2 ho3)) | ((with_reducible refine gd_ 8 rfl ?_); refine bx_ 8 rfl #[.int .i64 0, .int .i64 0, .int .i64 0, .int .i64 0, .slice none 0 0, .slice none 0 0, .slice none 0 0, .slice none 0 0] 63 ?_; intro b0 hg w57 hbox hb; replace b6 := yaa (yap (upR b6.out) hb); replace b7 := yaa (yao (by (with_reducible repeat (first | apply yag | apply yah | apply yaf)); exact b7.out) hb); replace b8 := yaa (yao (by (with_reducible repeat (first | apply yag | apply yah | apply yaf)); exact b8.out) hb); replace b9 := yaa (yap (upR b9.out) hb); replace c0 := yaa (yao (by (with_reducible repeat (first | apply yag | apply yah | apply yaf)); exact c0.out) hb); replace c1 := yaa (yap (upR c1.out) hb); replace c3 := yaa (yao (by (with_reducible repeat (first | apply yag | apply yah | apply yaf)); exact c3.out) hb); replace c5 := yaa (yao (by (with_reducible repeat (first | apply yag | apply yah | apply yaf)); exact c5.out) hb); replace c6 := yaa (yap (upR c6.out) hb); replace c7 := yaa (yao (by (with_reducible repeat (first | apply yag | apply yah | apply yaf)); exact c7.out) hb); have b5 := yaa (hbox); have p1 := yaa ((by rw [hg]; exact (yat (by repeat (with_reducible first | exact HB.out | apply yaj | apply yae | apply yai | refine yal ?_ (Aside0.out ‹_›)))) : w.heap.size ≤ b0)); replace HB := yaa (yau (by repeat (with_reducible first | exact HB.out | apply yaj | apply yae | apply yai | refine yal ?_ (Aside0.out ‹_›))) hb); have I6 := p1; have g2 := yaa ((by rw [hg]; exact Nat.ne_of_lt (blk_lt (upB b1.out)) : c8 ≠ b0)); replace b1 := yaa (yak (upB b1.out) hb); have i7 := yaa g2.out.symm; have g3 := yaa ((by rw [hg]; exact Nat.ne_of_lt (blk_lt (upB b2.out)) : c2 ≠ b0)); replace b2 := yaa (yak (upB b2.out) hb); have i8 := yaa g3.out.symm; have g4 := yaa ((by rw [hg]; exact Nat.ne_of_lt (blk_lt (upB b4.out)) : b3 ≠ b0)); replace b4 := yaa (yak (upB b4.out) hb); have i9 := yaa g4.out.symm; clear hb hbox hg; have I7 := i7.out; have I8 := g2.out; have I9 := i8.out; have J0 := g3.out; have J1 := i9.out; have J2 := g4.out; obtain ⟨B6, B7, B8, B9, C0, C1, C2, C3⟩ := cc8_ b5.out; obtain ⟨C4, C5, C6, C7, C8, C9, D0, D1⟩ := cf8_ b5.out; obtain ⟨f0, e8, G2⟩ := Kd.S_slice c3.out; subst G2; obtain ⟨f3, f1, G3⟩ := Kd.S_slice c5.out; subst G3; obtain ⟨f6, f4, G4⟩ := Kd.R_slice c6.out; subst G4; obtain ⟨f8, f7, G5⟩ := Kd.S_slice c7.out; subst G5; obtain ⟨D2, D3, D4, D5, D6, D7, D8⟩ := cc7_ b4.out; obtain ⟨D9, E0, E1, E2, E3, E4⟩ := cf6_ b4.out; have E5 := blk_frozen b4.out 6) | ((with_reducible refine gc_ 39 rfl ?_); refine gl_ (some 31) rfl Try.func39 #[.agg #[.slice d6 c9.length d3, .int .i64 d4, .int .i64 d7, .int .i64 e1, .int .i64 e4, .int .i64 e6, .int .i64 e9], .agg #[.int .i64 d1, .int .i64 d2, .int .i64 d5, .int .i64 d8, .slice f0 d9.length e8, .slice f3 e2.length f1, .slice f6 e5.length f4, .slice f8 e7.length f7]] ?_; (with_reducible refine (impl_TenOk.calls k _ _ c9 d4 d7 e1 e4 e6 e9 d1 d2 d5 d8 _ _ d9 _ _ e2 _ _ e5 _ _ e7 g9 _ ?side1 ?side2 ?side3 ?side4 ?side5 ?side6 ?side7 ?side8 ?side9 ?side10 A24.out).mono ?_); (case side1 => refine (yaw (e := 5) (base := w.heap.size) (ok := fun k_ => (True ∧ some k_ ≠ (.slice k0 i4.length k1 : Value).ownBlock)) (n := c9.length) (c := d3) ?_).2.2; exact (by (with_reducible repeat (first | apply Kd.R_alloc | apply Kd.R_drewN | apply yav)); exact (Kd.R_mono (yad (p := ⟨b0, 7, none⟩) (yad (p := ⟨b0, 6, none⟩) (yad (p := ⟨b0, 5, none⟩) (yad (p := ⟨b0, 4, none⟩) (yad (p := ⟨b0, 3, none⟩) (yad (p := ⟨b0, 2, none⟩) (yad (p := ⟨b0, 1, none⟩) (yad (p := ⟨b0, 0, none⟩) (Kd.R_types c1.out b5.out (by decide)) (fun _ hk => hk.2) (.int .i64 d1)) (fun _ hk => hk.2) (.int .i64 d2)) (fun _ hk => hk.2) (.int .i64 d5)) (fun _ hk => hk.2) (.int .i64 d8)) (fun _ hk => hk.2) (.slice f0 d9.length e8)) (fun _ hk => hk.2) (.slice f3 e2.length f1)) (fun _ hk => hk.2) (.slice f6 e5.length f4)) (fun _ hk => hk.2) (.slice f8 e7.length f7)) (fun _ h_ => h_.1)))); (case side2 => exact (yaw c1.out).2.1); (case side3 => refine (yar (e := 124) (base := w.heap.size) (ok := fun k_ => (True ∧ some k_ ≠ (.slice n8 j6.length n9 : Value).ownBlock)) (n := d9.length) (c := e8) ?_).2.2; exact (by (with_reducible repeat (first | apply yag | apply yah | apply yaf)); exact (Kd.S_mono (yac (p := ⟨b0, 7, none⟩) (yac (p := ⟨b0, 6, none⟩) (yac (p := ⟨b0, 5, none⟩) (yac (p := ⟨b0, 4, none⟩) (yac (p := ⟨b0, 3, none⟩) (yac (p := ⟨b0, 2, none⟩) (yac (p := ⟨b0, 1, none⟩) (yac (p := ⟨b0, 0, none⟩) (yaz c3.out b5.out (by decide)) (fun _ hk => hk.2) (.int .i64 d1)) (fun _ hk => hk.2) (.int .i64 d2)) (fun _ hk => hk.2) (.int .i64 d5)) (fun _ hk => hk.2) (.int .i64 d8)) (fun _ hk => hk.2) (.slice f0 d9.length e8)) (fun _ hk => hk.2) (.slice f3 e2.length f1)) (fun _ hk => hk.2) (.slice f6 e5.length f4)) (fun _ hk => hk.2) (.slice f8 e7.length f7)) (fun _ h_ => h_.1)))); (case side4 => exact (yar c3.out).2.1); (case side5 => refine (yar (e := 156) (base := w.heap.size) (ok := fun k_ => (((True ∧ some k_ ≠ (.slice k0 i4.length k1 : Value).ownBlock) ∧ some k_ ≠ (.slice o1 j7.length o2 : Value).ownBlock) ∧ some k_ ≠ (.slice d6 c9.length d3 : Value).ownBlock)) (n := e2.length) (c := f1) ?_).2.2; exact (by (with_reducible repeat (first | apply yag | apply yah | apply yaf)); exact (Kd.S_mono (yac (p := ⟨b0, 7, none⟩) (yac (p := ⟨b0, 6, none⟩) (yac (p := ⟨b0, 5, none⟩) (yac (p := ⟨b0, 4, none⟩) (yac (p := ⟨b0, 3, none⟩) (yac (p := ⟨b0, 2, none⟩) (yac (p := ⟨b0, 1, none⟩) (yac (p := ⟨b0, 0, none⟩) (yaz c5.out b5.out (by decide)) (fun _ hk => hk.2) (.int .i64 d1)) (fun _ hk => hk.2) (.int .i64 d2)) (fun _ hk => hk.2) (.int .i64 d5)) (fun _ hk => hk.2) (.int .i64 d8)) (fun _ hk => hk.2) (.slice f0 d9.length e8)) (fun _ hk => hk.2) (.slice f3 e2.length f1)) (fun _ hk => hk.2) (.slice f6 e5.length f4)) (fun _ hk => hk.2) (.slice f8 e7.length f7)) (fun _ h_ => h_.1)))); (case side6 => exact (yar c5.out).2.1); (case side7 => refine (yaw (e := 9) (base := w.heap.size) (ok := fun k_ => (True ∧ some k_ ≠ (.slice o4 j8.length o5 : Value).ownBlock)) (n := e5.length) (c := f4) ?_).2.2; exact (by (with_reducible repeat (first | apply Kd.R_alloc | apply Kd.R_drewN | apply yav)); exact (Kd.R_mono (yad (p := ⟨b0, 7, none⟩) (yad (p := ⟨b0, 6, none⟩) (yad (p := ⟨b0, 5, none⟩) (yad (p := ⟨b0, 4, none⟩) (yad (p := ⟨b0, 3, none⟩) (yad (p := ⟨b0, 2, none⟩) (yad (p := ⟨b0, 1, none⟩) (yad (p := ⟨b0, 0, none⟩) (Kd.R_types c6.out b5.out (by decide)) (fun _ hk => hk.2) (.int .i64 d1)) (fun _ hk => hk.2) (.int .i64 d2)) (fun _ hk => hk.2) (.int .i64 d5)) (fun _ hk => hk.2) (.int .i64 d8)) (fun _ hk => hk.2) (.slice f0 d9.length e8)) (fun _ hk => hk.2) (.slice f3 e2.length f1)) (fun _ hk => hk.2) (.slice f6 e5.length f4)) (fun _ hk => hk.2) (.slice f8 e7.length f7)) (fun _ h_ => h_.1)))); (case side8 => exact (yaw c6.out).2.1); (case side9 => refine (yar (e := 158) (base := w.heap.size) (ok := fun k_ => (((True ∧ some k_ ≠ (.slice k0 i4.length k1 : Value).ownBlock) ∧ some k_ ≠ (.slice o7 j9.length o8 : Value).ownBlock) ∧ some k_ ≠ (.slice d6 c9.length d3 : Value).ownBlock)) (n := e7.length) (c := f7) ?_).2.2; exact (by (with_reducible repeat (first | apply yag | apply yah | apply yaf)); exact (Kd.S_mono (yac (p := ⟨b0, 7, none⟩) (yac (p := ⟨b0, 6, none⟩) (yac (p := ⟨b0, 5, none⟩) (yac (p := ⟨b0, 4, none⟩) (yac (p := ⟨b0, 3, none⟩) (yac (p := ⟨b0, 2, none⟩) (yac (p := ⟨b0, 1, none⟩) (yac (p := ⟨b0, 0, none⟩) (yaz c7.out b5.out (by decide)) (fun _ hk => hk.2) (.int .i64 d1)) (fun _ hk => hk.2) (.int .i64 d2)) (fun _ hk => hk.2) (.int .i64 d5)) (fun _ hk => hk.2) (.int .i64 d8)) (fun _ hk => hk.2) (.slice f0 d9.length e8)) (fun _ hk => hk.2) (.slice f3 e2.length f1)) (fun _ hk => hk.2) (.slice f6 e5.length f4)) (fun _ hk => hk.2) (.slice f8 e7.length f7)) (fun _ h_ => h_.1)))); (case side10 => exact (yar c7.out).2.1); rintro e w67 ⟨rfl, hb⟩; refine ⟨_, rfl, ?_⟩; replace b6 := yaa (yap (by (with_reducible repeat (first | apply Kd.R_alloc | apply Kd.R_drewN | apply yav)); exact (Kd.R_mono (yad (p := ⟨b0, 7, none⟩) (yad (p := ⟨b0, 6, none⟩) (yad (p := ⟨b0, 5, none⟩) (yad (p := ⟨b0, 4, none⟩) (yad (p := ⟨b0, 3, none⟩) (yad (p := ⟨b0, 2, none⟩) (yad (p := ⟨b0, 1, none⟩) (yad (p := ⟨b0, 0, none⟩) (Kd.R_types b6.out b5.out (by decide)) (fun _ hk => hk.2) (.int .i64 d1)) (fun _ hk => hk.2) (.int .i64 d2)) (fun _ hk => hk.2) (.int .i64 d5)) (fun _ hk => hk.2) (.int .i64 d8)) (fun _ hk => hk.2) (.slice f0 d9.length e8)) (fun _ hk => hk.2) (.slice f3 e2.length f1)) (fun _ hk => hk.2) (.slice f6 e5.length f4)) (fun _ hk => hk.2) (.slice f8 e7.length f7)) (fun _ h_ => h_.1))) hb); replace b7 := yaa (yao (by (with_reducible repeat (first | apply yag | apply yah | apply yaf)); exact (Kd.S_mono (yac (p := ⟨b0, 7, none⟩) (yac (p := ⟨b0, 6, none⟩) (yac (p := ⟨b0, 5, none⟩) (yac (p := ⟨b0, 4, none⟩) (yac (p := ⟨b0, 3, none⟩) (yac (p := ⟨b0, 2, none⟩) (yac (p := ⟨b0, 1, none⟩) (yac (p := ⟨b0, 0, none⟩) (yaz b7.out b5.out (by decide)) (fun _ hk => hk.2) (.int .i64 d1)) (fun _ hk => hk.2) (.int .i64 d2)) (fun _ hk => hk.2) (.int .i64 d5)) (fun _ hk => hk.2) (.int .i64 d8)) (fun _ hk => hk.2) (.slice f0 d9.length e8)) (fun _ hk => hk.2) (.slice f3 e2.length f1)) (fun _ hk => hk.2) (.slice f6 e5.length f4)) (fun _ hk => hk.2) (.slice f8 e7.length f7)) (fun _ h_ => h_.1))) hb); replace b8 := yaa (yao (by (with_reducible repeat (first | apply yag | apply yah | apply yaf)); exact (Kd.S_mono (yac (p := ⟨b0, 7, none⟩) (yac (p := ⟨b0, 6, none⟩) (yac (p := ⟨b0, 5, none⟩) (yac (p := ⟨b0, 4, none⟩) (yac (p := ⟨b0, 3, none⟩) (yac (p := ⟨b0, 2, none⟩) (yac (p := ⟨b0, 1, none⟩) (yac (p := ⟨b0, 0, none⟩) (yaz b8.out b5.out (by decide)) (fun _ hk => hk.2) (.int .i64 d1)) (fun _ hk => hk.2) (.int .i64 d2)) (fun _ hk => hk.2) (.int .i64 d5)) (fun _ hk => hk.2) (.int .i64 d8)) (fun _ hk => hk.2) (.slice f0 d9.length e8)) (fun _ hk => hk.2) (.slice f3 e2.length f1)) (fun _ hk => hk.2) (.slice f6 e5.length f4)) (fun _ hk => hk.2) (.slice f8 e7.length f7)) (fun _ h_ => h_.1))) hb); replace b9 := yaa (yap (by (with_reducible repeat (first | apply Kd.R_alloc | apply Kd.R_drewN | apply yav)); exact (Kd.R_mono (yad (p := ⟨b0, 7, none⟩) (yad (p := ⟨b0, 6, none⟩) (yad (p := ⟨b0, 5, none⟩) (yad (p := ⟨b0, 4, none⟩) (yad (p := ⟨b0, 3, none⟩) (yad (p := ⟨b0, 2, none⟩) (yad (p := ⟨b0, 1, none⟩) (yad (p := ⟨b0, 0, none⟩) (Kd.R_types b9.out b5.out (by decide)) (fun _ hk => hk.2) (.int .i64 d1)) (fun _ hk => hk.2) (.int .i64 d2)) (fun _ hk => hk.2) (.int .i64 d5)) (fun _ hk => hk.2) (.int .i64 d8)) (fun _ hk => hk.2) (.slice f0 d9.length e8)) (fun _ hk => hk.2) (.slice f3 e2.length f1)) (fun _ hk => hk.2) (.slice f6 e5.length f4)) (fun _ hk => hk.2) (.slice f8 e7.length f7)) (fun _ h_ => h_.1))) hb); replace c0 := yaa (yao (by (with_reducible repeat (first | apply yag | apply yah | apply yaf)); exact (Kd.S_mono (yac (p := ⟨b0, 7, none⟩) (yac (p := ⟨b0, 6, none⟩) (yac (p := ⟨b0, 5, none⟩) (yac (p := ⟨b0, 4, none⟩) (yac (p := ⟨b0, 3, none⟩) (yac (p := ⟨b0, 2, none⟩) (yac (p := ⟨b0, 1, none⟩) (yac (p := ⟨b0, 0, none⟩) (yaz c0.out b5.out (by decide)) (fun _ hk => hk.2) (.int .i64 d1)) (fun _ hk => hk.2) (.int .i64 d2)) (fun _ hk => hk.2) (.int .i64 d5)) (fun _ hk => hk.2) (.int .i64 d8)) (fun _ hk => hk.2) (.slice f0 d9.length e8)) (fun _ hk => hk.2) (.slice f3 e2.length f1)) (fun _ hk => hk.2) (.slice f6 e5.length f4)) (fun _ hk => hk.2) (.slice f8 e7.length f7)) (fun _ h_ => h_.1))) hb); replace c1 := yaa (yap (by (with_reducible repeat (first | apply Kd.R_alloc | apply Kd.R_drewN | apply yav)); exact (Kd.R_mono (yad (p := ⟨b0, 7, none⟩) (yad (p := ⟨b0, 6, none⟩) (yad (p := ⟨b0, 5, none⟩) (yad (p := ⟨b0, 4, none⟩) (yad (p := ⟨b0, 3, none⟩) (yad (p := ⟨b0, 2, none⟩) (yad (p := ⟨b0, 1, none⟩) (yad (p := ⟨b0, 0, none⟩) (Kd.R_types c1.out b5.out (by decide)) (fun _ hk => hk.2) (.int .i64 d1)) (fun _ hk => hk.2) (.int .i64 d2)) (fun _ hk => hk.2) (.int .i64 d5)) (fun _ hk => hk.2) (.int .i64 d8)) (fun _ hk => hk.2) (.slice f0 d9.length e8)) (fun _ hk => hk.2) (.slice f3 e2.length f1)) (fun _ hk => hk.2) (.slice f6 e5.length f4)) (fun _ hk => hk.2) (.slice f8 e7.length f7)) (fun _ h_ => h_.1))) hb); replace c3 := yaa (yao (by (with_reducible repeat (first | apply yag | apply yah | apply yaf)); exact (Kd.S_mono (yac (p := ⟨b0, 7, none⟩) (yac (p := ⟨b0, 6, none⟩) (yac (p := ⟨b0, 5, none⟩) (yac (p := ⟨b0, 4, none⟩) (yac (p := ⟨b0, 3, none⟩) (yac (p := ⟨b0, 2, none⟩) (yac (p := ⟨b0, 1, none⟩) (yac (p := ⟨b0, 0, none⟩) (yaz c3.out b5.out (by decide)) (fun _ hk => hk.2) (.int .i64 d1)) (fun _ hk => hk.2) (.int .i64 d2)) (fun _ hk => hk.2) (.int .i64 d5)) (fun _ hk => hk.2) (.int .i64 d8)) (fun _ hk => hk.2) (.slice f0 d9.length e8)) (fun _ hk => hk.2) (.slice f3 e2.length f1)) (fun _ hk => hk.2) (.slice f6 e5.length f4)) (fun _ hk => hk.2) (.slice f8 e7.length f7)) (fun _ h_ => h_.1))) hb); replace c5 := yaa (yao (by (with_reducible repeat (first | apply yag | apply yah | apply yaf)); exact (Kd.S_mono (yac (p := ⟨b0, 7, none⟩) (yac (p := ⟨b0, 6, none⟩) (yac (p := ⟨b0, 5, none⟩) (yac (p := ⟨b0, 4, none⟩) (yac (p := ⟨b0, 3, none⟩) (yac (p := ⟨b0, 2, none⟩) (yac (p := ⟨b0, 1, none⟩) (yac (p := ⟨b0, 0, none⟩) (yaz c5.out b5.out (by decide)) (fun _ hk => hk.2) (.int .i64 d1)) (fun _ hk => hk.2) (.int .i64 d2)) (fun _ hk => hk.2) (.int .i64 d5)) (fun _ hk => hk.2) (.int .i64 d8)) (fun _ hk => hk.2) (.slice f0 d9.length e8)) (fun _ hk => hk.2) (.slice f3 e2.length f1)) (fun _ hk => hk.2) (.slice f6 e5.length f4)) (fun _ hk => hk.2) (.slice f8 e7.length f7)) (fun _ h_ => h_.1))) hb); replace c6 := yaa (yap (by (with_reducible repeat (first | apply Kd.R_alloc | apply Kd.R_drewN | apply yav)); exact (Kd.R_mono (yad (p := ⟨b0, 7, none⟩) (yad (p := ⟨b0, 6, none⟩) (yad (p := ⟨b0, 5, none⟩) (yad (p := ⟨b0, 4, none⟩) (yad (p := ⟨b0, 3, none⟩) (yad (p := ⟨b0, 2, none⟩) (yad (p := ⟨b0, 1, none⟩) (yad (p := ⟨b0, 0, none⟩) (Kd.R_types c6.out b5.out (by decide)) (fun _ hk => hk.2) (.int .i64 d1)) (fun _ hk => hk.2) (.int .i64 d2)) (fun _ hk => hk.2) (.int .i64 d5)) (fun _ hk => hk.2) (.int .i64 d8)) (fun _ hk => hk.2) (.slice f0 d9.length e8)) (fun _ hk => hk.2) (.slice f3 e2.length f1)) (fun _ hk => hk.2) (.slice f6 e5.length f4)) (fun _ hk => hk.2) (.slice f8 e7.length f7)) (fun _ h_ => h_.1))) hb); replace c7 := yaa (yao (by (with_reducible repeat (first | apply yag | apply yah | apply yaf)); exact (Kd.S_mono (yac (p := ⟨b0, 7, none⟩) (yac (p := ⟨b0, 6, none⟩) (yac (p := ⟨b0, 5, none⟩) (yac (p := ⟨b0, 4, none⟩) (yac (p := ⟨b0, 3, none⟩) (yac (p := ⟨b0, 2, none⟩) (yac (p := ⟨b0, 1, none⟩) (yac (p := ⟨b0, 0, none⟩) (yaz c7.out b5.out (by decide)) (fun _ hk => hk.2) (.int .i64 d1)) (fun _ hk => hk.2) (.int .i64 d2)) (fun _ hk => hk.2) (.int .i64 d5)) (fun _ hk => hk.2) (.int .i64 d8)) (fun _ hk => hk.2) (.slice f0 d9.length e8)) (fun _ hk => hk.2) (.slice f3 e2.length f1)) (fun _ hk => hk.2) (.slice f6 e5.length f4)) (fun _ hk => hk.2) (.slice f8 e7.length f7)) (fun _ h_ => h_.1))) hb); replace b1 := yaa (yak (g := c8) (o := .cells #[.slice A0_0 l0_0.length c0_0, .int .i64 a0_1, .int .i64 a0_2, .int .i64 a0_3, .int .i64 a0_4, .int .i64 a0_5, .int .i64 a0_6] 30 (0, 0)) (by repeat (with_reducible first | exact b1.out | refine oneB ?_ | refine blk_far ?_ g2.out _)) hb); replace b2 := yaa (yak (g := c2) (o := .cells #[.int .i64 a1_0, .int .i64 a1_1, .int .i64 a1_2, .int .i64 a1_3, .slice A1_4 l1_4.length c1_4, .slice A1_5 l1_5.length c1_5, .slice A1_6 l1_6.length c1_6, .slice A1_7 l1_7.length c1_7] 83 (0, 0)) (by repeat (with_reducible first | exact b2.out | refine oneB ?_ | refine blk_far ?_ g3.out _)) hb); replace b4 := yaa (yak (g := b3) (o := .cells #[.slice d6 c9.length d3, .int .i64 d4, .int .i64 d7, .int .i64 e1, .int .i64 e4, .int .i64 e6, .int .i64 e9] 24 (0, 0)) (by repeat (with_reducible first | exact b4.out | refine oneB ?_ | refine blk_far ?_ g4.out _)) hb); replace b5 := yaa (yak (g := b0) (o := .cells #[.int .i64 d1, .int .i64 d2, .int .i64 d5, .int .i64 d8, .slice f0 d9.length e8, .slice f3 e2.length f1, .slice f6 e5.length f4, .slice f8 e7.length f7] 63 (0, 0)) (by (repeat refine oneB ?_); refine blk_put (cs := #[.int .i64 d1, .int .i64 d2, .int .i64 d5, .int .i64 d8, .slice f0 d9.length e8, .slice f3 e2.length f1, .slice f6 e5.length f4, .slice none 0 0]) ?_ 7 _ rfl; refine blk_put (cs := #[.int .i64 d1, .int .i64 d2, .int .i64 d5, .int .i64 d8, .slice f0 d9.length e8, .slice f3 e2.length f1, .slice none 0 0, .slice none 0 0]) ?_ 6 _ rfl; refine blk_put (cs := #[.int .i64 d1, .int .i64 d2, .int .i64 d5, .int .i64 d8, .slice f0 d9.length e8, .slice none 0 0, .slice none 0 0, .slice none 0 0]) ?_ 5 _ rfl; refine blk_put (cs := #[.int .i64 d1, .int .i64 d2, .int .i64 d5, .int .i64 d8, .slice none 0 0, .slice none 0 0, .slice none 0 0, .slice none 0 0]) ?_ 4 _ rfl; refine blk_put (cs := #[.int .i64 d1, .int .i64 d2, .int .i64 d5, .int .i64 0, .slice none 0 0, .slice none 0 0, .slice none 0 0, .slice none 0 0]) ?_ 3 _ rfl; refine blk_put (cs := #[.int .i64 d1, .int .i64 d2, .int .i64 0, .int .i64 0, .slice none 0 0, .slice none 0 0, .slice none 0 0, .slice none 0 0]) ?_ 2 _ rfl; refine blk_put (cs := #[.int .i64 d1, .int .i64 0, .int .i64 0, .int .i64 0, .slice none 0 0, .slice none 0 0, .slice none 0 0, .slice none 0 0]) ?_ 1 _ rfl; refine blk_put (cs := #[.int .i64 0, .int .i64 0, .int .i64 0, .int .i64 0, .slice none 0 0, .slice none 0 0, .slice none 0 0, .slice none 0 0]) ?_ 0 _ rfl; exact upB b5.out) hb); replace HB := yaa (yau (by repeat (with_reducible first | exact HB.out | apply yaj | apply yae | apply yai | refine yal ?_ (Aside0.out ‹_›))) hb); (try clear hb)))
      replace b6 := yaa (yav b6.out); replace b7 := yaa (yaf b7.out); replace b8 := yaa (yaf b8.out); replace b9 := yaa (yav b9.out); replace c0 := yaa (yaf c0.out); replace c1 := yaa (yav c1.out); replace c3 := yaa (yaf c3.out); replace c5 := yaa (yaf c5.out); replace c6 := yaa (yav c6.out); replace c7 := yaa (yaf c7.out); replace b1 := yaa (blk_drew b1.out); replace b2 := yaa (blk_drew b2.out); replace b4 := yaa (blk_drew b4.out); replace b5 := yaa (blk_drew b5.out); replace HB := yaa (yai HB.out)
      refine start_ (n := 5) (S := fun w' => w'.cell? ⟨b3, 0, none⟩ = some (.slice d6 c9.length d3) ∧ w'.cell? ⟨b3, 1, none⟩ = some (.int .i64 d4) ∧ w'.cell? ⟨b3, 2, none⟩ = some (.int .i64 d7) ∧ w'.cell? ⟨b3, 3, none⟩ = some (.int .i64 e1) ∧ w'.cell? ⟨b3, 4, none⟩ = some (.int .i64 e4) ∧ w'.cell? ⟨b3, 5, none⟩ = some (.int .i64 e6) ∧ w'.cell? ⟨b3, 6, none⟩ = some (.int .i64 e9) ∧ w'.cell? ⟨c8, 0, none⟩ = some (.slice A0_0 l0_0.length c0_0) ∧ w'.cell? ⟨c8, 1, none⟩ = some (.int .i64 a0_1) ∧ w'.cell? ⟨c8, 2, none⟩ = some (.int .i64 a0_2) ∧ w'.cell? ⟨c8, 3, none⟩ = some (.int .i64 a0_3) ∧ w'.cell? ⟨c8, 4, none⟩ = some (.int .i64 a0_4) ∧ w'.cell? ⟨c8, 5, none⟩ = some (.int .i64 a0_5) ∧ w'.cell? ⟨c8, 6, none⟩ = some (.int .i64 a0_6)) (ds := []) #[false, false, false, false, false] (by kernel_rfl) rfl rfl ⟨(yab b4.out 0).trans rfl, (yab b4.out 1).trans rfl, (yab b4.out 2).trans rfl, (yab b4.out 3).trans rfl, (yab b4.out 4).trans rfl, (yab b4.out 5).trans rfl, (yab b4.out 6).trans rfl, (yab b1.out 0).trans rfl, (yab b1.out 1).trans rfl, (yab b1.out 2).trans rfl, (yab b1.out 3).trans rfl, (yab b1.out 4).trans rfl, (yab b1.out 5).trans rfl, (yab b1.out 6).trans rfl⟩ (fun hHeld => ?_)
      generalize w67.drew = w68 at b6 b7 b8 b9 c0 c1 c3 c5 c6 c7 b1 b2 b4 b5 HB hHeld ⊢
      refine take_ (i := 0) (N := some 35) (v := ?_) (a' := ?_) #[true, false, false, false, false] rfl rfl (by kernel_rfl) (fun _ _ _ h => h) (Or.inl ⟨by rfl, ?_⟩) hHeld ?_ ?_
      rotate_left
      ·
       rintro w' ⟨s0, s1, s2, s3, s4, s5, s6, s7, s8, s9, s10, s11, s12, s13⟩
       go_simp
       with_reducible rfl
      rotate_left
      ·
       simp only [Act.put, List.setIfInBounds_toArray, List.set_cons_zero, List.set_cons_succ, i64_w, i32_w]
       rfl
      refine take_ (i := 1) (N := some 36) (v := ?_) (a' := ?_) #[true, true, false, false, false] rfl rfl (by kernel_rfl) (fun _ _ _ h => h) (Or.inl ⟨by rfl, ?_⟩) hHeld ?_ ?_
      rotate_left
      ·
       rintro w' ⟨s0, s1, s2, s3, s4, s5, s6, s7, s8, s9, s10, s11, s12, s13⟩
       go_simp
       with_reducible rfl
      rotate_left
      ·
       simp only [Act.put, List.setIfInBounds_toArray, List.set_cons_zero, List.set_cons_succ, i64_w, i32_w]
       rfl
      refine one_ (i := 2) (N := some 37) #[true, true, true, false, false] rfl rfl (by kernel_rfl) (by decide) (fun K hK => ?_)
      refine goes_ Try.func18 (by kernel_rfl) rfl #[.agg #[.slice A0_0 l0_0.length c0_0, .int .i64 a0_1, .int .i64 a0_2, .int .i64 a0_3, .int .i64 a0_4, .int .i64 a0_5, .int .i64 a0_6]] (by rfl) rfl rfl (by (try simp only [List.map_toArray, List.map_cons, List.map_nil]); first | done | rfl | (simp only [List.length_drop, List.length_take]; rfl)) ?_
      with_reducible refine (laws_toTenCfg.calls k _ _ l0_0 a0_1 a0_2 a0_3 a0_4 a0_5 a0_6 l8 l9 m0 m1 m2 m3 m4 _ ?side1 ?side2 A26.out).mono ?_
      (case side1 => repeat (first | exact (yas HR0_0.out HB.out) | (with_reducible refine yam ?_ _) | (with_reducible refine yan ?_ _) | (with_reducible refine yaq ?_)))
      (case side2 => exact HC0_0.out)
      rintro e w69 ⟨K6, rfl, ho0, hb⟩; refine ⟨_, rfl, ?_⟩; have n0_ := yaa (Kd.R_elder' (upR b6.out) (Kd.R_base ho0) hb)
      have n1_ := yaa (yao (by (with_reducible repeat (first | apply yag | apply yah | apply yaf)); exact b7.out) hb)
      have n2_ := yaa (yay (by (with_reducible repeat (first | apply yag | apply yah | apply yaf)); exact b8.out) (Kd.R_base ho0) hb)
      have n3_ := yaa (yap (upR b9.out) hb)
      have n4_ := yaa (yay (by (with_reducible repeat (first | apply yag | apply yah | apply yaf)); exact c0.out) (Kd.R_base ho0) hb)
      have n5_ := yaa (Kd.R_elder' (upR c1.out) (Kd.R_base ho0) hb)
      have n6_ := yaa (yao (by (with_reducible repeat (first | apply yag | apply yah | apply yaf)); exact c3.out) hb)
      have n7_ := yaa (yay (by (with_reducible repeat (first | apply yag | apply yah | apply yaf)); exact c5.out) (Kd.R_base ho0) hb)
      have n8_ := yaa (yap (upR c6.out) hb)
      have n9_ := yaa (yay (by (with_reducible repeat (first | apply yag | apply yah | apply yaf)); exact c7.out) (Kd.R_base ho0) hb)
      have h1 := yaa (Kd.R_lower (Kd.R_new' (Kd.R_new' ho0 (Kd.R_lt (upR b6.out))) (Kd.R_lt (upR c1.out))) (yat (by repeat (with_reducible first | exact HB.out | apply yaj | apply yae | apply yai | refine yal ?_ (Aside0.out ‹_›)))))
      have h2 := yaa (yak (upB b1.out) hb); have h3 := yaa (yak (upB b2.out) hb); have h4 := yaa (yak (upB b4.out) hb); have h5 := yaa (yak (upB b5.out) hb)
      have h6 := yaa (yau (by repeat (with_reducible first | exact HB.out | apply yaj | apply yae | apply yai | refine yal ?_ (Aside0.out ‹_›))) hb)
      clear b6; clear b7; clear b8; clear b9; clear c0; clear c1; clear c3; clear c5; clear c6; clear c7; clear b1; clear b2; clear b4; clear b5; clear HB; have b6 := n0_; have b7 := n1_; have b8 := n2_; have b9 := n3_; have c0 := n4_; have c1 := n5_; have c3 := n6_; have c5 := n7_; have c6 := n8_; have c7 := n9_; have e0 := h1; have b1 := h2; have b2 := h3; have b4 := h4; have b5 := h5; have HB := h6; clear n0_ n1_ n2_ n3_ n4_ n5_ n6_ n7_ n8_ n9_ h1 h2 h3 h4 h5 h6; (try clear hb); (try clear hb2); (try clear hk); (try clear hi); (try clear ho0); obtain ⟨G6, G7, p2⟩ := Kd.R_slice e0.out
      (first | subst p2 | (injection p2 with f1_ f2_ f3_; have f4_ := f1_.symm; have f5_ := f3_.symm; clear f1_ f2_ f3_; subst f4_; subst f5_))
      refine hK.out _ _ ⟨(yab b4.out 0).trans rfl, (yab b4.out 1).trans rfl, (yab b4.out 2).trans rfl, (yab b4.out 3).trans rfl, (yab b4.out 4).trans rfl, (yab b4.out 5).trans rfl, (yab b4.out 6).trans rfl, (yab b1.out 0).trans rfl, (yab b1.out 1).trans rfl, (yab b1.out 2).trans rfl, (yab b1.out 3).trans rfl, (yab b1.out 4).trans rfl, (yab b1.out 5).trans rfl, (yab b1.out 6).trans rfl⟩ (fun hHeld => ?_)
      clear hK K
      refine norm_ (a' := ?_) ?_ ?_
      rotate_left
      ·
       show Act.put _ (some 37) _ = _
       simp only [Act.put, List.setIfInBounds_toArray, List.set_cons_zero, List.set_cons_succ, i64_w, i32_w]
       rfl
      refine one_ (i := 3) (N := some 38) #[true, true, true, true, false] rfl rfl (by kernel_rfl) (by decide) (fun K hK => ?_)
      refine goes_ Try.func19 (by kernel_rfl) rfl #[.agg #[.slice d6 c9.length d3, .int .i64 d4, .int .i64 d7, .int .i64 e1, .int .i64 e4, .int .i64 e6, .int .i64 e9], .agg #[.slice G6 l8.length G7, .int .i64 l9, .int .i64 m0, .int .i64 m1, .int .i64 m2, .int .i64 m3, .int .i64 m4]] (by rfl) rfl rfl (by (try simp only [List.map_toArray, List.map_cons, List.map_nil]); first | done | rfl | (simp only [List.length_drop, List.length_take]; rfl)) ?_
      with_reducible refine (laws_eqTenCfg.calls k _ _ c9 d4 d7 e1 e4 e6 e9 _ _ l8 l9 m0 m1 m2 m3 m4 true _ ?side1 ?side2 ?side3 ?side4 A27.out).mono ?_
      (case side1 => repeat (first | exact (yaw c1.out).2.2 | (with_reducible refine yam ?_ _) | (with_reducible refine yan ?_ _) | (with_reducible refine yaq ?_)))
      (case side2 => exact (yaw c1.out).2.1)
      (case side3 => repeat (first | exact (yaw e0.out).2.2 | (with_reducible refine yam ?_ _) | (with_reducible refine yan ?_ _) | (with_reducible refine yaq ?_)))
      (case side4 => exact (yaw e0.out).2.1)
      rintro e w71 ⟨rfl, hb⟩; refine ⟨_, rfl, ?_⟩; have n0_ := yaa (yap (upR b6.out) hb)
      have n1_ := yaa (yao (by (with_reducible repeat (first | apply yag | apply yah | apply yaf)); exact b7.out) hb)
      have n2_ := yaa (yao (by (with_reducible repeat (first | apply yag | apply yah | apply yaf)); exact b8.out) hb)
      have n3_ := yaa (yap (upR b9.out) hb)
      have n4_ := yaa (yao (by (with_reducible repeat (first | apply yag | apply yah | apply yaf)); exact c0.out) hb)
      have n5_ := yaa (yap (upR c1.out) hb)
      have n6_ := yaa (yao (by (with_reducible repeat (first | apply yag | apply yah | apply yaf)); exact c3.out) hb)
      have n7_ := yaa (yao (by (with_reducible repeat (first | apply yag | apply yah | apply yaf)); exact c5.out) hb)
      have n8_ := yaa (yap (upR c6.out) hb)
      have n9_ := yaa (yao (by (with_reducible repeat (first | apply yag | apply yah | apply yaf)); exact c7.out) hb)
      have h1 := yaa (yap (upR e0.out) hb); have h2 := yaa (yak (upB b1.out) hb); have h3 := yaa (yak (upB b2.out) hb); have h4 := yaa (yak (upB b4.out) hb); have h5 := yaa (yak (upB b5.out) hb)
      have h6 := yaa (yau (by repeat (with_reducible first | exact HB.out | apply yaj | apply yae | apply yai | refine yal ?_ (Aside0.out ‹_›))) hb)
      clear b6; clear b7; clear b8; clear b9; clear c0; clear c1; clear c3; clear c5; clear c6; clear c7; clear e0; clear b1; clear b2; clear b4; clear b5; clear HB; have b6 := n0_; have b7 := n1_; have b8 := n2_; have b9 := n3_; have c0 := n4_; have c1 := n5_; have c3 := n6_; have c5 := n7_; have c6 := n8_; have c7 := n9_; have e0 := h1; have b1 := h2; have b2 := h3; have b4 := h4; have b5 := h5; have HB := h6; clear n0_ n1_ n2_ n3_ n4_ n5_ n6_ n7_ n8_ n9_ h1 h2 h3 h4 h5 h6; (try clear hb); (try clear hb2); (try clear hk); (try clear hi)
      refine hK.out _ _ ⟨(yab b4.out 0).trans rfl, (yab b4.out 1).trans rfl, (yab b4.out 2).trans rfl, (yab b4.out 3).trans rfl, (yab b4.out 4).trans rfl, (yab b4.out 5).trans rfl, (yab b4.out 6).trans rfl, (yab b1.out 0).trans rfl, (yab b1.out 1).trans rfl, (yab b1.out 2).trans rfl, (yab b1.out 3).trans rfl, (yab b1.out 4).trans rfl, (yab b1.out 5).trans rfl, (yab b1.out 6).trans rfl⟩ (fun hHeld => ?_)
      clear hK K
      refine norm_ (a' := ?_) ?_ ?_
      rotate_left
      ·
       show Act.put _ (some 38) _ = _
       simp only [Act.put, List.setIfInBounds_toArray, List.set_cons_zero, List.set_cons_succ, i64_w, i32_w]
       rfl
      refine pure_ (i := 4) (N := some 39) (v := ?_) (a' := ?_) #[true, true, true, true, true] rfl rfl (by kernel_rfl) (fun _ _ _ h => h) (Or.inl ⟨by rfl, ?_⟩) ?_ ?_
      rotate_left
      ·
       intro w'
       go_simp
       with_reducible rfl
      rotate_left
      ·
       simp only [Act.put, List.setIfInBounds_toArray, List.set_cons_zero, List.set_cons_succ, i64_w, i32_w]
       rfl
      refine done_ (by kernel_rfl) ?_
      try go_wp2
      replace b6 := yaa (yav b6.out); replace b7 := yaa (yaf b7.out); replace b8 := yaa (yaf b8.out); replace b9 := yaa (yav b9.out); replace c0 := yaa (yaf c0.out); replace c1 := yaa (yav c1.out); replace c3 := yaa (yaf c3.out); replace c5 := yaa (yaf c5.out); replace c6 := yaa (yav c6.out); replace c7 := yaa (yaf c7.out); replace e0 := yaa (yav e0.out); replace b1 := yaa (blk_drew b1.out); replace b2 := yaa (blk_drew b2.out); replace b4 := yaa (blk_drew b4.out); replace b5 := yaa (blk_drew b5.out); replace HB := yaa (yai HB.out)
      refine start_ (n := 5) (S := fun w' => w'.cell? ⟨b0, 0, none⟩ = some (.int .i64 d1) ∧ w'.cell? ⟨b0, 1, none⟩ = some (.int .i64 d2) ∧ w'.cell? ⟨b0, 2, none⟩ = some (.int .i64 d5) ∧ w'.cell? ⟨b0, 3, none⟩ = some (.int .i64 d8) ∧ w'.cell? ⟨b0, 4, none⟩ = some (.slice f0 d9.length e8) ∧ w'.cell? ⟨b0, 5, none⟩ = some (.slice f3 e2.length f1) ∧ w'.cell? ⟨b0, 6, none⟩ = some (.slice f6 e5.length f4) ∧ w'.cell? ⟨b0, 7, none⟩ = some (.slice f8 e7.length f7) ∧ w'.cell? ⟨c2, 0, none⟩ = some (.int .i64 a1_0) ∧ w'.cell? ⟨c2, 1, none⟩ = some (.int .i64 a1_1) ∧ w'.cell? ⟨c2, 2, none⟩ = some (.int .i64 a1_2) ∧ w'.cell? ⟨c2, 3, none⟩ = some (.int .i64 a1_3) ∧ w'.cell? ⟨c2, 4, none⟩ = some (.slice A1_4 l1_4.length c1_4) ∧ w'.cell? ⟨c2, 5, none⟩ = some (.slice A1_5 l1_5.length c1_5) ∧ w'.cell? ⟨c2, 6, none⟩ = some (.slice A1_6 l1_6.length c1_6) ∧ w'.cell? ⟨c2, 7, none⟩ = some (.slice A1_7 l1_7.length c1_7)) (ds := []) #[false, false, false, false, false] (by kernel_rfl) rfl rfl ⟨(yab b5.out 0).trans rfl, (yab b5.out 1).trans rfl, (yab b5.out 2).trans rfl, (yab b5.out 3).trans rfl, (yab b5.out 4).trans rfl, (yab b5.out 5).trans rfl, (yab b5.out 6).trans rfl, (yab b5.out 7).trans rfl, (yab b2.out 0).trans rfl, (yab b2.out 1).trans rfl, (yab b2.out 2).trans rfl, (yab b2.out 3).trans rfl, (yab b2.out 4).trans rfl, (yab b2.out 5).trans rfl, (yab b2.out 6).trans rfl, (yab b2.out 7).trans rfl⟩ (fun hHeld => ?_)
      generalize w71.drew = w72 at b6 b7 b8 b9 c0 c1 c3 c5 c6 c7 e0 b1 b2 b4 b5 HB hHeld ⊢
      refine take_ (i := 0) (N := some 40) (v := ?_) (a' := ?_) #[true, false, false, false, false] rfl rfl (by kernel_rfl) (fun _ _ _ h => h) (Or.inl ⟨by rfl, ?_⟩) hHeld ?_ ?_
      rotate_left
      ·
       rintro w' ⟨s0, s1, s2, s3, s4, s5, s6, s7, s8, s9, s10, s11, s12, s13, s14, s15⟩
       go_simp
       with_reducible rfl
      rotate_left
      ·
       simp only [Act.put, List.setIfInBounds_toArray, List.set_cons_zero, List.set_cons_succ, i64_w, i32_w]
       rfl
      refine take_ (i := 1) (N := some 41) (v := ?_) (a' := ?_) #[true, true, false, false, false] rfl rfl (by kernel_rfl) (fun _ _ _ h => h) (Or.inl ⟨by rfl, ?_⟩) hHeld ?_ ?_
      rotate_left
      ·
       rintro w' ⟨s0, s1, s2, s3, s4, s5, s6, s7, s8, s9, s10, s11, s12, s13, s14, s15⟩
       go_simp
       with_reducible rfl
      rotate_left
      ·
       simp only [Act.put, List.setIfInBounds_toArray, List.set_cons_zero, List.set_cons_succ, i64_w, i32_w]
       rfl
      refine one_ (i := 2) (N := some 42) #[true, true, true, false, false] rfl rfl (by kernel_rfl) (by decide) (fun K hK => ?_)
      refine goes_ Try.func55 (by kernel_rfl) rfl #[.agg #[.int .i64 a1_0, .int .i64 a1_1, .int .i64 a1_2, .int .i64 a1_3, .slice A1_4 l1_4.length c1_4, .slice A1_5 l1_5.length c1_5, .slice A1_6 l1_6.length c1_6, .slice A1_7 l1_7.length c1_7]] (by rfl) rfl rfl (by (try simp only [List.map_toArray, List.map_cons, List.map_nil]); first | done | rfl | (simp only [List.length_drop, List.length_take]; rfl)) ?_
      with_reducible refine (laws_toTenState.calls k a1_0 a1_1 a1_2 a1_3 _ _ l1_4 _ _ l1_5 _ _ l1_6 _ _ l1_7 m5 m6 m7 m8 m9 n0 n1 n2 _ ?side1 ?side2 ?side3 ?side4 ?side5 ?side6 ?side7 ?side8 A29.out).mono ?_
      (case side1 => repeat (first | exact (yas HR1_4.out HB.out) | (with_reducible refine yam ?_ _) | (with_reducible refine yan ?_ _) | (with_reducible refine yaq ?_)))
      (case side2 => exact HC1_4.out)
      (case side3 => repeat (first | exact (yas HR1_5.out HB.out) | (with_reducible refine yam ?_ _) | (with_reducible refine yan ?_ _) | (with_reducible refine yaq ?_)))
      (case side4 => exact HC1_5.out)
      (case side5 => repeat (first | exact (yas HR1_6.out HB.out) | (with_reducible refine yam ?_ _) | (with_reducible refine yan ?_ _) | (with_reducible refine yaq ?_)))
      (case side6 => exact HC1_6.out)
      (case side7 => repeat (first | exact (yas HR1_7.out HB.out) | (with_reducible refine yam ?_ _) | (with_reducible refine yan ?_ _) | (with_reducible refine yaq ?_)))
      (case side8 => exact HC1_7.out)
      rintro e w73 ⟨K7, K8, K9, L0, rfl, ho0, ho1, ho2, ho3, hb⟩; refine ⟨_, rfl, ?_⟩; have n0_ := yaa (yap (upR b6.out) hb)
      have n1_ := yaa (yay (by (with_reducible repeat (first | apply yag | apply yah | apply yaf)); exact b7.out) (Kd.S_base ho0) hb)
      have n2_ := yaa (yay (by (with_reducible repeat (first | apply yag | apply yah | apply yaf)); exact b8.out) (Kd.S_base ho1) hb)
      have n3_ := yaa (Kd.R_elder' (upR b9.out) (Kd.R_base ho2) hb)
      have n4_ := yaa (yay (by (with_reducible repeat (first | apply yag | apply yah | apply yaf)); exact c0.out) (Kd.S_base ho3) hb)
      have n5_ := yaa (yap (upR c1.out) hb)
      have n6_ := yaa (yay (by (with_reducible repeat (first | apply yag | apply yah | apply yaf)); exact c3.out) (Kd.S_base ho0) hb)
      have n7_ := yaa (yay (by (with_reducible repeat (first | apply yag | apply yah | apply yaf)); exact c5.out) (Kd.S_base ho1) hb)
      have n8_ := yaa (Kd.R_elder' (upR c6.out) (Kd.R_base ho2) hb)
      have n9_ := yaa (yay (by (with_reducible repeat (first | apply yag | apply yah | apply yaf)); exact c7.out) (Kd.S_base ho3) hb)
      have h1 := yaa (yap (upR e0.out) hb)
      have h2 := yaa (Kd.S_lower (yax (yax ho0 (Kd.S_lt (by (with_reducible repeat (first | apply yag | apply yah | apply yaf)); exact b7.out))) (Kd.S_lt (by (with_reducible repeat (first | apply yag | apply yah | apply yaf)); exact c3.out))) (yat (by repeat (with_reducible first | exact HB.out | apply yaj | apply yae | apply yai | refine yal ?_ (Aside0.out ‹_›)))))
      have h3 := yaa (Kd.S_lower (yax (yax (yax (yax (yax ho1 (Kd.R_lt (upR b6.out))) (Kd.S_lt (by (with_reducible repeat (first | apply yag | apply yah | apply yaf)); exact b8.out))) (Kd.R_lt (upR c1.out))) (Kd.S_lt (by (with_reducible repeat (first | apply yag | apply yah | apply yaf)); exact c5.out))) (Kd.R_lt (upR e0.out))) (yat (by repeat (with_reducible first | exact HB.out | apply yaj | apply yae | apply yai | refine yal ?_ (Aside0.out ‹_›)))))
      have h4 := yaa (Kd.R_lower (Kd.R_new' (Kd.R_new' ho2 (Kd.R_lt (upR b9.out))) (Kd.R_lt (upR c6.out))) (yat (by repeat (with_reducible first | exact HB.out | apply yaj | apply yae | apply yai | refine yal ?_ (Aside0.out ‹_›)))))
      have h5 := yaa (Kd.S_lower (yax (yax (yax (yax (yax ho3 (Kd.R_lt (upR b6.out))) (Kd.S_lt (by (with_reducible repeat (first | apply yag | apply yah | apply yaf)); exact c0.out))) (Kd.R_lt (upR c1.out))) (Kd.S_lt (by (with_reducible repeat (first | apply yag | apply yah | apply yaf)); exact c7.out))) (Kd.R_lt (upR e0.out))) (yat (by repeat (with_reducible first | exact HB.out | apply yaj | apply yae | apply yai | refine yal ?_ (Aside0.out ‹_›)))))
      have h6 := yaa (yak (upB b1.out) hb); have j1 := yaa (yak (upB b2.out) hb); have j2 := yaa (yak (upB b4.out) hb); have j3 := yaa (yak (upB b5.out) hb)
      have j4 := yaa (yau (by repeat (with_reducible first | exact HB.out | apply yaj | apply yae | apply yai | refine yal ?_ (Aside0.out ‹_›))) hb)
      clear b6; clear b7; clear b8; clear b9; clear c0; clear c1; clear c3; clear c5; clear c6; clear c7; clear e0; clear b1; clear b2; clear b4; clear b5; clear HB; have b6 := n0_; have b7 := n1_; have b8 := n2_; have b9 := n3_; have c0 := n4_; have c1 := n5_; have c3 := n6_; have c5 := n7_; have c6 := n8_; have c7 := n9_; have e0 := h1; have h7 := h2; have h8 := h3; have h9 := h4; have i0 := h5; have b1 := h6; have b2 := j1; have b4 := j2; have b5 := j3; have HB := j4; clear n0_ n1_ n2_ n3_ n4_ n5_ n6_ n7_ n8_ n9_ h1 h2 h3 h4 h5 h6 j1 j2 j3 j4; (try clear hb); (try clear hb2); (try clear hk); (try clear hi); (try clear ho0); (try clear ho1); (try clear ho2); (try clear ho3); obtain ⟨G8, G9, p3⟩ := Kd.S_slice h7.out
      (first | subst p3 | (injection p3 with f1_ f2_ f3_; have f4_ := f1_.symm; have f5_ := f3_.symm; clear f1_ f2_ f3_; subst f4_; subst f5_))
      obtain ⟨H0, H1, p4⟩ := Kd.S_slice h8.out
      (first | subst p4 | (injection p4 with f1_ f2_ f3_; have f4_ := f1_.symm; have f5_ := f3_.symm; clear f1_ f2_ f3_; subst f4_; subst f5_))
      obtain ⟨H2, H3, p5⟩ := Kd.R_slice h9.out
      (first | subst p5 | (injection p5 with f1_ f2_ f3_; have f4_ := f1_.symm; have f5_ := f3_.symm; clear f1_ f2_ f3_; subst f4_; subst f5_))
      obtain ⟨H4, H5, p6⟩ := Kd.S_slice i0.out
      (first | subst p6 | (injection p6 with f1_ f2_ f3_; have f4_ := f1_.symm; have f5_ := f3_.symm; clear f1_ f2_ f3_; subst f4_; subst f5_))
      refine hK.out _ _ ⟨(yab b5.out 0).trans rfl, (yab b5.out 1).trans rfl, (yab b5.out 2).trans rfl, (yab b5.out 3).trans rfl, (yab b5.out 4).trans rfl, (yab b5.out 5).trans rfl, (yab b5.out 6).trans rfl, (yab b5.out 7).trans rfl, (yab b2.out 0).trans rfl, (yab b2.out 1).trans rfl, (yab b2.out 2).trans rfl, (yab b2.out 3).trans rfl, (yab b2.out 4).trans rfl, (yab b2.out 5).trans rfl, (yab b2.out 6).trans rfl, (yab b2.out 7).trans rfl⟩ (fun hHeld => ?_)
      clear hK K
      refine norm_ (a' := ?_) ?_ ?_
      rotate_left
      ·
       show Act.put _ (some 42) _ = _
       simp only [Act.put, List.setIfInBounds_toArray, List.set_cons_zero, List.set_cons_succ, i64_w, i32_w]
       rfl
      refine one_ (i := 3) (N := some 43) #[true, true, true, true, false] rfl rfl (by kernel_rfl) (by decide) (fun K hK => ?_)
      refine goes_ Try.func40 (by kernel_rfl) rfl #[.agg #[.int .i64 d1, .int .i64 d2, .int .i64 d5, .int .i64 d8, .slice f0 d9.length e8, .slice f3 e2.length f1, .slice f6 e5.length f4, .slice f8 e7.length f7], .agg #[.int .i64 m5, .int .i64 m6, .int .i64 m7, .int .i64 m8, .slice G8 m9.length G9, .slice H0 n0.length H1, .slice H2 n1.length H3, .slice H4 n2.length H5]] (by rfl) rfl rfl (by (try simp only [List.map_toArray, List.map_cons, List.map_nil]); first | done | rfl | (simp only [List.length_drop, List.length_take]; rfl)) ?_
      with_reducible refine (laws_eqTenState.calls k d1 d2 d5 d8 _ _ d9 _ _ e2 _ _ e5 _ _ e7 m5 m6 m7 m8 _ _ m9 _ _ n0 _ _ n1 _ _ n2 true _ ?side1 ?side2 ?side3 ?side4 ?side5 ?side6 ?side7 ?side8 ?side9 ?side10 ?side11 ?side12 ?side13 ?side14 ?side15 ?side16 A30.out).mono ?_
      (case side1 => repeat (first | exact (yar c3.out).2.2 | (with_reducible refine yam ?_ _) | (with_reducible refine yan ?_ _) | (with_reducible refine yaq ?_)))
      (case side2 => exact (yar c3.out).2.1)
      (case side3 => repeat (first | exact (yar c5.out).2.2 | (with_reducible refine yam ?_ _) | (with_reducible refine yan ?_ _) | (with_reducible refine yaq ?_)))
      (case side4 => exact (yar c5.out).2.1)
      (case side5 => repeat (first | exact (yaw c6.out).2.2 | (with_reducible refine yam ?_ _) | (with_reducible refine yan ?_ _) | (with_reducible refine yaq ?_)))
      (case side6 => exact (yaw c6.out).2.1)
      (case side7 => repeat (first | exact (yar c7.out).2.2 | (with_reducible refine yam ?_ _) | (with_reducible refine yan ?_ _) | (with_reducible refine yaq ?_)))
      (case side8 => exact (yar c7.out).2.1)
      (case side9 => repeat (first | exact (yar h7.out).2.2 | (with_reducible refine yam ?_ _) | (with_reducible refine yan ?_ _) | (with_reducible refine yaq ?_)))
      (case side10 => exact (yar h7.out).2.1)
      (case side11 => repeat (first | exact (yar h8.out).2.2 | (with_reducible refine yam ?_ _) | (with_reducible refine yan ?_ _) | (with_reducible refine yaq ?_)))
      (case side12 => exact (yar h8.out).2.1)
      (case side13 => repeat (first | exact (yaw h9.out).2.2 | (with_reducible refine yam ?_ _) | (with_reducible refine yan ?_ _) | (with_reducible refine yaq ?_)))
      (case side14 => exact (yaw h9.out).2.1)
      (case side15 => repeat (first | exact (yar i0.out).2.2 | (with_reducible refine yam ?_ _) | (with_reducible refine yan ?_ _) | (with_reducible refine yaq ?_)))
      (case side16 => exact (yar i0.out).2.1)
      rintro e w78 ⟨rfl, hb⟩; refine ⟨_, rfl, ?_⟩; have n0_ := yaa (yap (upR b6.out) hb)
      have n1_ := yaa (yao (by (with_reducible repeat (first | apply yag | apply yah | apply yaf)); exact b7.out) hb)
      have n2_ := yaa (yao (by (with_reducible repeat (first | apply yag | apply yah | apply yaf)); exact b8.out) hb)
      have n3_ := yaa (yap (upR b9.out) hb)
      have n4_ := yaa (yao (by (with_reducible repeat (first | apply yag | apply yah | apply yaf)); exact c0.out) hb)
      have n5_ := yaa (yap (upR c1.out) hb)
      have n6_ := yaa (yao (by (with_reducible repeat (first | apply yag | apply yah | apply yaf)); exact c3.out) hb)
      have n7_ := yaa (yao (by (with_reducible repeat (first | apply yag | apply yah | apply yaf)); exact c5.out) hb)
      have n8_ := yaa (yap (upR c6.out) hb)
      have n9_ := yaa (yao (by (with_reducible repeat (first | apply yag | apply yah | apply yaf)); exact c7.out) hb)
      have h1 := yaa (yap (upR e0.out) hb)
      have h2 := yaa (yao (by (with_reducible repeat (first | apply yag | apply yah | apply yaf)); exact h7.out) hb)
      have h3 := yaa (yao (by (with_reducible repeat (first | apply yag | apply yah | apply yaf)); exact h8.out) hb)
      have h4 := yaa (yap (upR h9.out) hb)
      have h5 := yaa (yao (by (with_reducible repeat (first | apply yag | apply yah | apply yaf)); exact i0.out) hb)
      have h6 := yaa (yak (upB b1.out) hb); have j1 := yaa (yak (upB b2.out) hb); have j2 := yaa (yak (upB b4.out) hb); have j3 := yaa (yak (upB b5.out) hb)
      have j4 := yaa (yau (by repeat (with_reducible first | exact HB.out | apply yaj | apply yae | apply yai | refine yal ?_ (Aside0.out ‹_›))) hb)
      clear b6; clear b7; clear b8; clear b9; clear c0; clear c1; clear c3; clear c5; clear c6; clear c7; clear e0; clear h7; clear h8; clear h9; clear i0; clear b1; clear b2; clear b4; clear b5; clear HB; have b6 := n0_; have b7 := n1_; have b8 := n2_; have b9 := n3_; have c0 := n4_; have c1 := n5_; have c3 := n6_; have c5 := n7_; have c6 := n8_; have c7 := n9_; have e0 := h1; have h7 := h2; have h8 := h3; have h9 := h4; have i0 := h5; have b1 := h6; have b2 := j1; have b4 := j2; have b5 := j3; have HB := j4; clear n0_ n1_ n2_ n3_ n4_ n5_ n6_ n7_ n8_ n9_ h1 h2 h3 h4 h5 h6 j1 j2 j3 j4; (try clear hb); (try clear hb2); (try clear hk); (try clear hi)
      refine hK.out _ _ ⟨(yab b5.out 0).trans rfl, (yab b5.out 1).trans rfl, (yab b5.out 2).trans rfl, (yab b5.out 3).trans rfl, (yab b5.out 4).trans rfl, (yab b5.out 5).trans rfl, (yab b5.out 6).trans rfl, (yab b5.out 7).trans rfl, (yab b2.out 0).trans rfl, (yab b2.out 1).trans rfl, (yab b2.out 2).trans rfl, (yab b2.out 3).trans rfl, (yab b2.out 4).trans rfl, (yab b2.out 5).trans rfl, (yab b2.out 6).trans rfl, (yab b2.out 7).trans rfl⟩ (fun hHeld => ?_)
      clear hK K
      refine norm_ (a' := ?_) ?_ ?_
      rotate_left
      ·
       show Act.put _ (some 43) _ = _
       simp only [Act.put, List.setIfInBounds_toArray, List.set_cons_zero, List.set_cons_succ, i64_w, i32_w]
       rfl
      refine pure_ (i := 4) (N := some 44) (v := ?_) (a' := ?_) #[true, true, true, true, true] rfl rfl (by kernel_rfl) (fun _ _ _ h => h) (Or.inl ⟨by rfl, ?_⟩) ?_ ?_
      rotate_left
      ·
       intro w'
       go_simp
       with_reducible rfl
      rotate_left
      ·
       simp only [Act.put, List.setIfInBounds_toArray, List.set_cons_zero, List.set_cons_succ, i64_w, i32_w]
       rfl
      refine done_ (by kernel_rfl) ?_
      try go_wp2
      go_ret
      exact ⟨by first | rfl | (simp [*, errW_none, errW_some] <;> rfl), by repeat (with_reducible first | exact HB.out | apply yaj | apply yae | apply yai | refine yal ?_ (Aside0.out ‹_›))⟩
     ·
      replace c31 := Bool.eq_false_iff.mpr c31
      subst c31
      rw [if_neg (show ¬ (false = true) by decide)] at H
      rw [hrt] at H
      exact absurd H (by simp)
    ·
     replace c28 := Bool.eq_false_iff.mpr c28
     subst c28
     rw [if_neg (show ¬ (false = true) by decide)] at H
     rw [hrt] at H
     exact absurd H (by simp)
end
end Go.Proofs.Ytgpkkkmapgnhkaa.X
namespace Go.Proofs.Ytgpkkkmapgnhkaa.Opn
open Go.RowKit Go.Proofs.YtgpkkkmapgnhkaaW.PrintWords

/-- Every reading of type t is a reading of kind d, of a datum that is good. -/
def Opens (P : Program) (t : TypeId) {α : Type} (d : Kd α) (good : α → Prop) : Prop :=
  P.cellsOf t = d.sz ∧ ∀ (H : Type) (enc : TypeId × Value → H) (w : World) (n : Nat) (cs : List Value) (x : DataW H × List MemPlace),
    DataW.trod enc P w 0 (fun _ => true) true n t cs = some x → ∃ a : α, d.K w a cs ∧ good a

theorem opens_int {P : Program} {t : TypeId} {k : IntKind} (ht : P.underlying t = some (.int k)) (hc : P.cellsOf t = 1) :
    Opens P t (Kd.int k) (fun x => (Lit.int k x).wf = true) :=
  ⟨hc, fun H enc w n cs x h => by
    obtain ⟨m, rfl, _, hw⟩ := DataW.trod_int ht h
    exact ⟨m, rfl, hw⟩⟩

theorem opens_string {P : Program} {t : TypeId} (ht : P.underlying t = some .string) (hc : P.cellsOf t = 1) :
    Opens P t Kd.string (fun s => s.size ≤ maxLen) :=
  ⟨hc, fun H enc w n cs x h => by
    obtain ⟨m, rfl, _, hs⟩ := DataW.trod_string ht h
    exact ⟨m, rfl, hs⟩⟩

theorem list_of_get {α : Type} {n : Nat} {R : Nat → α → Prop} : (∀ i, i < n → ∃ a, R i a) → ∃ l : List α, l.length = n ∧ ∀ (i : Nat) (a : α), l[i]? = some a → R i a := by
  induction n with
  | zero => intro _; exact ⟨[], rfl, fun i a h => by simp at h⟩
  | succ n ih =>
    intro h
    obtain ⟨l, hl, hr⟩ := ih (fun i hi => h i (by omega))
    obtain ⟨a, ha⟩ := h n (by omega)
    refine ⟨l ++ [a], by simp [hl], fun i b hb => ?_⟩
    rcases Nat.lt_or_ge i n with hi | hi
    · rw [List.getElem?_append_left (by omega)] at hb
      exact hr i b hb
    · have : i = n := by
        have := (List.getElem?_eq_some_iff.1 hb).1
        simp at this
        omega
      subst this
      subst hl
      have : a = b := by simpa using hb
      subst this
      exact ha

theorem opens_slice {P : Program} {t e : TypeId} {α : Type} {d : Kd α} {good : α → Prop} (ht : P.underlying t = some (.slice e)) (hc : P.cellsOf t = 1) (he : Opens P e d good) :
    Opens P t (Kd.slice e d) (fun l => l.length ≤ maxLen ∧ ∀ a ∈ l, good a) :=
  ⟨hc, fun H enc w n cs x h => by
    rcases DataW.trod_slice ht h with ⟨rfl, _⟩ | ⟨a, len, cap, elems, rest, m, _, rfl, _, _, hlc, hcm, hel, hget, _, _⟩
    · exact ⟨[], ⟨none, 0, rfl, Nat.le_refl _, rfl, by simp, fun h => by simp at h⟩, by simp, by simp⟩
    · have each : ∀ i, i < len → ∃ y : α, good y ∧ ∃ c : List Value, c.length = d.sz ∧ d.K w y c ∧ ∀ j u, c[j]? = some u → w.cell? (a.add (i * d.sz + j)) = some u := by
        intro i hi
        have hg := hget i hi
        rw [List.getElem?_eq_getElem (by omega), he.1] at hg
        obtain ⟨c, hcs, htr⟩ := Option.bind_eq_some_iff.1 hg
        obtain ⟨_, hcl, hcell⟩ := World.cells?_some hcs
        obtain ⟨y, hK, hgood⟩ := he.2 H enc w m c _ htr
        refine ⟨y, hgood, c, hcl, hK, fun j u hu => ?_⟩
        have hj : j < d.sz := by
          have := (List.getElem?_eq_some_iff.1 hu).1
          omega
        rw [← Addr.add_add, hcell j hj, hu]
      obtain ⟨l, hl, hr⟩ := list_of_get each
      refine ⟨l, ⟨some a, cap, ?_, by omega, rfl, ?_, fun _ => ⟨a, rfl, fun j p hj => (hr j p hj).2⟩⟩, by omega, fun y hy => ?_⟩
      · rw [hl]
      · have : maxLen = 9223372036854775807 := rfl
        omega
      · obtain ⟨i, hi⟩ := List.getElem?_of_mem hy
        exact (hr i y hi).1⟩

/-- The fields from offset 'off' on. -/
def OpensF (P : Program) (fs : List Field) (off : Nat) {α : Type} (d : Kd α) (good : α → Prop) : Prop :=
  ∀ (H : Type) (enc : TypeId × Value → H) (w : World) (n : Nat) (cs : List Value), cs.length = off + d.sz →
    (∀ f ∈ fs, ∃ x, DataW.trod enc P w 0 (fun _ => true) true n f.type ((cs.drop f.offset).take (P.cellsOf f.type)) = some x) →
    ∃ a : α, d.K w a (cs.drop off) ∧ good a

theorem opensF_one {P : Program} {f : Field} {off : Nat} {α : Type} {d : Kd α} {good : α → Prop} (ho : f.offset = off) (h : Opens P f.type d good) : OpensF P [f] off d good := by
  intro H enc w n cs hl hx
  obtain ⟨x, hx⟩ := hx f (by simp)
  obtain ⟨a, hK, hg⟩ := h.2 H enc w n _ x hx
  rw [ho, h.1, List.take_of_length_le (by rw [List.length_drop]; omega)] at hK
  exact ⟨a, hK, hg⟩

theorem opensF_cons {P : Program} {f : Field} {fs : List Field} {off : Nat} {α β : Type} {d : Kd α} {d2 : Kd β} {good : α → Prop} {good2 : β → Prop} (ho : f.offset = off) (h : Opens P f.type d good) (h2 : OpensF P fs (off + d.sz) d2 good2) :
    OpensF P (f :: fs) off (Kd.pair d d2) (fun x => good x.1 ∧ good2 x.2) := by
  intro H enc w n cs hl hx
  have hs : (Kd.pair d d2).sz = d.sz + d2.sz := rfl
  obtain ⟨x, hx0⟩ := hx f (by simp)
  obtain ⟨a, hK, hg⟩ := h.2 H enc w n _ x hx0
  obtain ⟨b, hK2, hg2⟩ := h2 H enc w n cs (by omega) (fun f' hf' => hx f' (by simp [hf']))
  rw [ho, h.1] at hK
  refine ⟨(a, b), ⟨_, _, ?_, hK, hK2⟩, hg, hg2⟩
  rw [← List.drop_drop, List.take_append_drop]

theorem opens_struct {P : Program} {t : TypeId} {fs : Array Field} {α : Type} {d : Kd α} {good : α → Prop} (ht : P.underlying t = some (.struct fs)) (hc : P.cellsOf t = d.sz) (h : OpensF P fs.toList 0 d good) : Opens P t d good :=
  ⟨hc, fun H enc w n cs x hx => by
    obtain ⟨xs, m, _, _, hl, hxl, hget⟩ := DataW.trod_struct ht hx
    have := h H enc w m cs (by omega) (fun f hf => by
      obtain ⟨i, hi⟩ := List.getElem?_of_mem hf
      have hi' : fs[i]? = some f := by simpa using hi
      have hlt : i < xs.length := by
        have := (List.getElem?_eq_some_iff.1 hi).1
        simp at this
        omega
      exact ⟨xs[i], by rw [hget i f hi', List.getElem?_eq_getElem hlt]⟩)
    simpa using this⟩

theorem opens_iso {P : Program} {t : TypeId} {α β : Type} {d : Kd α} {good : α → Prop} {f : β → α} (g : α → β) (hfg : ∀ a, f (g a) = a) (h : Opens P t d good) : Opens P t (Kd.iso d f) (fun x => good (f x)) :=
  ⟨h.1, fun H enc w n cs x hx => by
    obtain ⟨a, hK, hg⟩ := h.2 H enc w n cs x hx
    exact ⟨g a, by show d.K w (f (g a)) cs; rw [hfg]; exact hK, by show good (f (g a)); rw [hfg]; exact hg⟩⟩

theorem Opens.of_trod {P : Program} {t : TypeId} {α : Type} {d : Kd α} {good : α → Prop} (h : Opens P t d good) {H : Type} {enc : TypeId × Value → H} {w : World} {v : Value} {x : DataW H} {ps : List MemPlace}
    (ht : DataW.Trod enc P w 0 (fun _ => true) true t v x ps) : ∃ a : α, d.K w a v.cells.toList ∧ good a := by
  obtain ⟨n, hn⟩ := ht
  exact h.2 H enc w n _ _ hn

end Go.Proofs.Ytgpkkkmapgnhkaa.Opn
namespace Go.Proofs.Ytgpkkkmapgnhkaa.X
open Go.RowKit Go.Proofs.YtgpkkkmapgnhkaaW.PrintWords Go.Proofs.Ytgpkkkmapgnhkaa.Opn
set_option linter.unusedVariables false
def g148 (x : S148) : Prop := (Lit.int .i64 x.f0).wf = true ∧ (Lit.int .i64 x.f1).wf = true ∧ (Lit.int .i64 x.f2).wf = true ∧ (Lit.int .i64 x.f3).wf = true ∧ (Lit.int .i64 x.f4).wf = true
set_option maxRecDepth 100000 in
theorem op148 : Opens Try.prog 148 k148 g148 :=
  opens_iso (d := (Kd.pair (Kd.int .i64) (Kd.pair (Kd.int .i64) (Kd.pair (Kd.int .i64) (Kd.pair (Kd.int .i64) (Kd.int .i64)))))) (fun p => ⟨p.1, p.2.1, p.2.2.1, p.2.2.2.1, p.2.2.2.2⟩) (fun _ => rfl) (good := fun p => (Lit.int .i64 p.1).wf = true ∧ (Lit.int .i64 p.2.1).wf = true ∧ (Lit.int .i64 p.2.2.1).wf = true ∧ (Lit.int .i64 p.2.2.2.1).wf = true ∧ (Lit.int .i64 p.2.2.2.2).wf = true) (opens_struct Try.underlying148 (by kernel_rfl) (opensF_cons rfl (opens_int Try.underlying3 (by kernel_rfl)) (opensF_cons rfl (opens_int Try.underlying3 (by kernel_rfl)) (opensF_cons rfl (opens_int Try.underlying3 (by kernel_rfl)) (opensF_cons rfl (opens_int Try.underlying3 (by kernel_rfl)) (opensF_one rfl (opens_int Try.underlying3 (by kernel_rfl))))))))
def g165 (x : S165) : Prop := (Lit.int .i64 x.f0).wf = true ∧ x.f1.size ≤ maxLen ∧ (x.f2.length ≤ maxLen ∧ ∀ y ∈ x.f2, g148 y) ∧ (Lit.int .i64 x.f3).wf = true
set_option maxRecDepth 100000 in
theorem op165 : Opens Try.prog 165 k165 g165 :=
  opens_iso (d := (Kd.pair (Kd.int .i64) (Kd.pair Kd.string (Kd.pair (Kd.slice 148 k148) (Kd.int .i64))))) (fun p => ⟨p.1, p.2.1, p.2.2.1, p.2.2.2⟩) (fun _ => rfl) (good := fun p => (Lit.int .i64 p.1).wf = true ∧ p.2.1.size ≤ maxLen ∧ (p.2.2.1.length ≤ maxLen ∧ ∀ y ∈ p.2.2.1, g148 y) ∧ (Lit.int .i64 p.2.2.2).wf = true) (opens_struct Try.underlying165 (by kernel_rfl) (opensF_cons rfl (opens_int Try.underlying3 (by kernel_rfl)) (opensF_cons rfl (opens_string Try.underlying9 (by kernel_rfl)) (opensF_cons rfl (opens_slice Try.underlying35 (by kernel_rfl) op148) (opensF_one rfl (opens_int Try.underlying3 (by kernel_rfl)))))))
def g167 (x : S167) : Prop := x.f0.size ≤ maxLen ∧ (Lit.int .i64 x.f1).wf = true ∧ (x.f2.length ≤ maxLen ∧ ∀ y ∈ x.f2, (Lit.int .u8 y).wf = true)
set_option maxRecDepth 100000 in
theorem op167 : Opens Try.prog 167 k167 g167 :=
  opens_iso (d := (Kd.pair Kd.string (Kd.pair (Kd.int .i64) (Kd.slice 5 (Kd.int .u8))))) (fun p => ⟨p.1, p.2.1, p.2.2⟩) (fun _ => rfl) (good := fun p => p.1.size ≤ maxLen ∧ (Lit.int .i64 p.2.1).wf = true ∧ (p.2.2.length ≤ maxLen ∧ ∀ y ∈ p.2.2, (Lit.int .u8 y).wf = true)) (opens_struct Try.underlying167 (by kernel_rfl) (opensF_cons rfl (opens_string Try.underlying9 (by kernel_rfl)) (opensF_cons rfl (opens_int Try.underlying3 (by kernel_rfl)) (opensF_one rfl (opens_slice Try.underlying22 (by kernel_rfl) (opens_int Try.underlying5 (by kernel_rfl)))))))
def g169 (x : S169) : Prop := (Lit.int .i64 x.f0).wf = true ∧ (Lit.int .i64 x.f1).wf = true ∧ (x.f2.length ≤ maxLen ∧ ∀ y ∈ x.f2, (Lit.int .u8 y).wf = true)
set_option maxRecDepth 100000 in
theorem op169 : Opens Try.prog 169 k169 g169 :=
  opens_iso (d := (Kd.pair (Kd.int .i64) (Kd.pair (Kd.int .i64) (Kd.slice 5 (Kd.int .u8))))) (fun p => ⟨p.1, p.2.1, p.2.2⟩) (fun _ => rfl) (good := fun p => (Lit.int .i64 p.1).wf = true ∧ (Lit.int .i64 p.2.1).wf = true ∧ (p.2.2.length ≤ maxLen ∧ ∀ y ∈ p.2.2, (Lit.int .u8 y).wf = true)) (opens_struct Try.underlying169 (by kernel_rfl) (opensF_cons rfl (opens_int Try.underlying3 (by kernel_rfl)) (opensF_cons rfl (opens_int Try.underlying3 (by kernel_rfl)) (opensF_one rfl (opens_slice Try.underlying22 (by kernel_rfl) (opens_int Try.underlying5 (by kernel_rfl)))))))
end Go.Proofs.Ytgpkkkmapgnhkaa.X
namespace Go.Proofs.Ytgpkkkmapgnhkaa.X
open Go.RowKit Go.Proofs.YtgpkkkmapgnhkaaW.PrintWords Go.Proofs.YtgpkkkmapgnhkaaW.PrintLast Go.Proofs.YtgpkkkmapgnhkaaW.PrintMore
attribute [local go_sem] max2_int min2_int max_two min_two max_three min_three max_four min_four
set_option linter.unusedVariables false
set_option linter.unusedSimpArgs false

section
open Go.Proofs.YtgpkkkmapgnhkaaW.PrintWords.Aside0 renaming mk → yaa
end
section
open Go.Proofs.YtgpkkkmapgnhkaaW.PrintWords.Aside0 renaming mk → yaa
end
section
/-- A state of type 143 at block g of W; what its slices lead to came in by w0. -/
def IsS143 (w0 W : World) (g : Nat) (f0 : List Int) (f1 : Int) : Prop := ∃ A0 c0, W.heap[g]? = some (.cells #[.slice A0 f0.length c0, .int .i64 f1] 143 (0, 0)) ∧ w0.heap.size ≤ g ∧ Kd.C (Kd.int .u8) w0 A0 f0.length f0
theorem IsS143.grown {w0 W : World} {g : Nat} {f0 : List Int} {f1 : Int} {W1 : World} {row : Option Nat} (h : IsS143 w0 W g f0 f1) (hw : W.grownBy W1 row) (hne : some g ≠ row) : IsS143 w0 W1 g f0 f1 := by
  obtain ⟨A0, c0, hb, hg, hr0⟩ := h
  exact ⟨A0, c0, blk_grown hb hw hne, hg, hr0⟩
theorem IsS143.kept {w0 W : World} {g : Nat} {f0 : List Int} {f1 : Int} {W1 : World} {S : Nat → Prop} (h : IsS143 w0 W g f0 f1) (hk : Kept W W1 S) (hne : ¬ S g) : IsS143 w0 W1 g f0 f1 := by
  obtain ⟨A0, c0, hb, hg, hr0⟩ := h
  exact ⟨A0, c0, blk_kept hb hk hne, hg, hr0⟩
theorem IsS143.below {w0 W : World} {g : Nat} {f0 : List Int} {f1 : Int} {W1 : World} (h : IsS143 w0 W g f0 f1) (hw : Below W.heap.size W W1) : IsS143 w0 W1 g f0 f1 := h.grown (grown_of_below hw none) (by simp)
theorem IsS143.alloc {w0 W : World} {g : Nat} {f0 : List Int} {f1 : Int} (h : IsS143 w0 W g f0 f1) (o : Obj) : IsS143 w0 (W.alloc o) g f0 f1 := h.below (below_alloc (Below.refl _ _) o)
theorem IsS143.drewN {w0 W : World} {g : Nat} {f0 : List Int} {f1 : Int} (h : IsS143 w0 W g f0 f1) (m : Nat) : IsS143 w0 (W.drewN m) g f0 f1 := h
theorem IsS143.drew {w0 W : World} {g : Nat} {f0 : List Int} {f1 : Int} (h : IsS143 w0 W g f0 f1) : IsS143 w0 W.drew g f0 f1 := h
theorem IsS143.at_ {w0 W : World} {g : Nat} {f0 : List Int} {f1 : Int} {w' : World} {m : Nat} (hq : W.drewN m = w') (h : IsS143 w0 W g f0 f1) : IsS143 w0 w' g f0 f1 := by subst hq; exact IsS143.drewN h m
theorem IsS143.apart {w0 W : World} {g : Nat} {f0 : List Int} {f1 : Int} {α : Type} {d : Kd α} {e : Nat} {base : Nat} {ok : Nat → Prop} {v : Value} {xs : List α} (h : IsS143 w0 W g f0 f1) (ho : d.R e W base ok v xs) (ht : ∀ q, q ∈ e :: d.E → q ≠ 143) : d.R e W base (fun k => ok k ∧ k ≠ g) v xs := by
  obtain ⟨A0, c0, hb, hg, hr0⟩ := h
  exact Kd.R_types ho hb ht
theorem IsS143.own_ne {w0 W : World} {g : Nat} {f0 : List Int} {f1 : Int} {α : Type} {d : Kd α} {e : Nat} {base : Nat} {ok : Nat → Prop} {v : Value} {xs : List α} (h : IsS143 w0 W g f0 f1) (ho : d.R e W base ok v xs) (ht : e ≠ 143) : some g ≠ v.ownBlock := by
  obtain ⟨A0, c0, hb, hg, hr0⟩ := h
  exact Kd.R_ne ho hb ht
theorem IsS143.ge {w0 W : World} {g : Nat} {f0 : List Int} {f1 : Int} (h : IsS143 w0 W g f0 f1) : w0.heap.size ≤ g := by
  obtain ⟨A0, c0, hb, hg, hr0⟩ := h
  exact hg
theorem IsS143.far {w0 W : World} {g : Nat} {f0 : List Int} {f1 : Int} {p : Addr} (h : IsS143 w0 W g f0 f1) (hne : g ≠ p.block) (u : Value) : IsS143 w0 (W.setCell p u) g f0 f1 := by
  obtain ⟨A0, c0, hb, hg, hr0⟩ := h
  exact ⟨A0, c0, blk_far hb hne u, hg, hr0⟩
theorem IsS143.set_1 {w0 W : World} {g : Nat} {f0 : List Int} {f1 : Int} (h : IsS143 w0 W g f0 f1) (x : Int) : IsS143 w0 (W.setCell ⟨g, 1, none⟩ (.int .i64 x)) g f0 x := by
  obtain ⟨A0, c0, hb, hg, hr0⟩ := h
  exact ⟨A0, c0, by simpa using blk_set hb 1 (.int .i64 x), hg, hr0⟩
theorem IsS143.new (w0 W : World) (A0 : Option Addr) (c0 : Nat) (f0 : List Int) (f1 : Int) (hB : Below w0.heap.size w0 W) (hr0 : Kd.C (Kd.int .u8) w0 A0 f0.length f0) : IsS143 w0 (W.alloc (.cells #[.slice A0 f0.length c0, .int .i64 f1] 143)) W.heap.size f0 f1 := ⟨A0, c0, by simpa using heap_alloc_new W _, hB.size, hr0⟩
end
section

end
section

end
section
open Go.Proofs.YtgpkkkmapgnhkaaW.PrintWords.Aside0 renaming mk → yaa
open Go.Proofs.Ytgpkkkmapgnhkaa.X.IsS143 renaming alloc → yab, drewN → yac, set_1 → yad, drew → yae
open Go.Proofs.YtgpkkkmapgnhkaaW.PrintWords.KeepBut renaming set_ → yaf
open Go.Proofs.YtgpkkkmapgnhkaaW.PrintWords renaming pw_below_drewN → yag
end
section
open Go.Proofs.YtgpkkkmapgnhkaaW.PrintWords.Aside0 renaming mk → yaa
open Go.Proofs.Ytgpkkkmapgnhkaa.X.IsS143 renaming alloc → yab, drewN → yac, set_1 → yad, far → yae, drew → yaf, apart → yar, ge → yas, below → yba
open Go.Proofs.YtgpkkkmapgnhkaaW.PrintWords.KeepBut renaming set_ → yag, trans → yal, blk → yaq, of_below → yax
open Go.Proofs.YtgpkkkmapgnhkaaW.PrintWords renaming below_set → yah, pw_below_drewN → yai, keep_drewN → yaj, keep_alloc → yak, keep_drew → yam, keep_far → yan, below_alloc → yao, below_drew1 → yap, blk_put → yav, keep_size → yay, below_step → ybb, blk_below → ybd
open Go.Proofs.YtgpkkkmapgnhkaaW.PrintWords.Kd renaming R_far → yat, R_mono → yau, R_keep → yaw, R_types → ybc
open Go.Proofs.Ytgpkkkmapgnhkaa.X renaming IsS143 → yaz
end
section

end
section

end
section
open Go.Proofs.YtgpkkkmapgnhkaaW.PrintWords.Aside0 renaming mk → yaa
end
section

end
section
open Go.Proofs.Ytgpkkkmapgnhkaa.X renaming rd_T24 → yaa
open Go.Proofs.YtgpkkkmapgnhkaaW.PrintWords.Aside0 renaming mk → yab
end
section
open Go.Proofs.YtgpkkkmapgnhkaaW.PrintWords.Aside0 renaming mk → yaa
end
section
open Go.Proofs.YtgpkkkmapgnhkaaW.PrintWords.Aside0 renaming mk → yaa
end
section
open Go.Proofs.Ytgpkkkmapgnhkaa.X renaming rd_T63 → yaa
open Go.Proofs.YtgpkkkmapgnhkaaW.PrintWords.Aside0 renaming mk → yab
open Go.Proofs.YtgpkkkmapgnhkaaW.PrintWords.Kd renaming C_below → yac, C_alloc → yad, C_drewN → yae
end
end Go.Proofs.Ytgpkkkmapgnhkaa.X
