/- Lemmas and contracts for the law FnExactHouOk, part 5: of the program's functions, and over data alone. No condition. -/
import Derived.Test.YtgpkkkmapgnhkaaMFnExactHouOk2
import Derived.Test.YtgpkkkmapgnhkaaMFnExactHouOk3
import Derived.Test.YtgpkkkmapgnhkaaMFnExactHouOk4
namespace Go.Proofs.Ytgpkkkmapgnhkaa.X
open Go.RowKit Go.Proofs.YtgpkkkmapgnhkaaW.PrintWords Go.Proofs.YtgpkkkmapgnhkaaW.PrintLast Go.Proofs.YtgpkkkmapgnhkaaW.PrintMore
attribute [local go_sem] max2_int min2_int max_two min_two max_three min_three max_four min_four
set_option linter.unusedVariables false
set_option linter.unusedSimpArgs false
section
open Go.Proofs.YtgpkkkmapgnhkaaW.PrintWords.Aside0 renaming mk → yaa
open Go.Proofs.YtgpkkkmapgnhkaaW.PrintWords renaming pw_below_drewN → yab, below_alloc → yag, below_drew1 → yah, blk_below → yai, below_set → yaj
open Go.Proofs.YtgpkkkmapgnhkaaW.PrintWords.Kd renaming C_below → yac, C_alloc → yad, C_drewN → yae, C_drew → yaf
def spec_TenOk.j0 : Nat → Bool → List Int → Int → Int → Int → Int → Int → Int → Int → Int → Int → Int → List (S124) → List (S156) → List ByteArray → List (S158) → Option (Bool)
 | 0, _, _, _, _, _, _, _, _, _, _, _, _, _, _, _, _ => none
 | k + 1, x35, x102000, x102001, x102002, x102003, x102004, x102005, x102006, x103000, x103001, x103002, x103003, x103004, x103005, x103006, x103007 => if x35 = true then (some false) else ((spec_l8Jobs.f k x102000 x102001 x102002 x102003 x102004 x102005 x102006 x103000 x103001 x103002 x103003 x103004 x103005 x103006 x103007).bind fun t108 => (if t108 = true then ((spec_l8Files.f k x102000 x102001 x102002 x102003 x102004 x102005 x102006 x103000 x103001 x103002 x103003 x103004 x103005 x103006 x103007).bind fun t109 => (if t109 = true then ((spec_l8Outs.f k x103000 x103001 x103002 x103003 x103004 x103005 x103006 x103007).bind fun t110 => (some t110)) else (some false))) else (some false)))
def spec_TenOk.f (k : Nat) (l0_0 : List Int) (a0_1 : Int) (a0_2 : Int) (a0_3 : Int) (a0_4 : Int) (a0_5 : Int) (a0_6 : Int) (a1_0 : Int) (a1_1 : Int) (a1_2 : Int) (a1_3 : Int) (l1_4 : List (S124)) (l1_5 : List (S156)) (l1_6 : List ByteArray) (l1_7 : List (S158)) : Option (Bool) := (spec_CfgOk.f l0_0 a0_1 a0_2 a0_3 a0_4 a0_5 a0_6).bind fun t103 => (if t103 = true then ((spec_l1In.f a1_0 0 9999).bind fun t104 => (if t104 = true then ((spec_l1In.f a1_1 0 a0_1).bind fun t105 => (if t105 = true then ((spec_l1In.f a1_2 0 a1_0).bind fun t106 => (if t106 = true then ((spec_l1In.f a1_3 0 9999).bind fun t107 => (spec_TenOk.j0 k (!t107) l0_0 a0_1 a0_2 a0_3 a0_4 a0_5 a0_6 a1_0 a1_1 a1_2 a1_3 l1_4 l1_5 l1_6 l1_7)) else (spec_TenOk.j0 k true l0_0 a0_1 a0_2 a0_3 a0_4 a0_5 a0_6 a1_0 a1_1 a1_2 a1_3 l1_4 l1_5 l1_6 l1_7))) else (spec_TenOk.j0 k true l0_0 a0_1 a0_2 a0_3 a0_4 a0_5 a0_6 a1_0 a1_1 a1_2 a1_3 l1_4 l1_5 l1_6 l1_7))) else (spec_TenOk.j0 k true l0_0 a0_1 a0_2 a0_3 a0_4 a0_5 a0_6 a1_0 a1_1 a1_2 a1_3 l1_4 l1_5 l1_6 l1_7))) else (spec_TenOk.j0 k true l0_0 a0_1 a0_2 a0_3 a0_4 a0_5 a0_6 a1_0 a1_1 a1_2 a1_3 l1_4 l1_5 l1_6 l1_7))
set_option maxHeartbeats 8000000 in
set_option maxRecDepth 100000 in
theorem spec_TenOk.calls (k : Nat) (A0_0 : Option Addr) (c0_0 : Nat) (l0_0 : List Int) (a0_1 : Int) (a0_2 : Int) (a0_3 : Int) (a0_4 : Int) (a0_5 : Int) (a0_6 : Int) (a1_0 : Int) (a1_1 : Int) (a1_2 : Int) (a1_3 : Int) (A1_4 : Option Addr) (c1_4 : Nat) (l1_4 : List (S124)) (A1_5 : Option Addr) (c1_5 : Nat) (l1_5 : List (S156)) (A1_6 : Option Addr) (c1_6 : Nat) (l1_6 : List ByteArray) (A1_7 : Option Addr) (c1_7 : Nat) (l1_7 : List (S158)) (r : Bool) (w : World) (hr0_0 : Kd.C (Kd.int .u8) w A0_0 l0_0.length l0_0) (hc0_0 : l0_0.length ≤ c0_0) (hr1_4 : Kd.C k124 w A1_4 l1_4.length l1_4) (hc1_4 : l1_4.length ≤ c1_4) (hr1_5 : Kd.C k156 w A1_5 l1_5.length l1_5) (hc1_5 : l1_5.length ≤ c1_5) (hr1_6 : Kd.C Kd.string w A1_6 l1_6.length l1_6) (hc1_6 : l1_6.length ≤ c1_6) (hr1_7 : Kd.C k158 w A1_7 l1_7.length l1_7) (hc1_7 : l1_7.length ≤ c1_7) (h : spec_TenOk.f k l0_0 a0_1 a0_2 a0_3 a0_4 a0_5 a0_6 a1_0 a1_1 a1_2 a1_3 l1_4 l1_5 l1_6 l1_7 = some r) :
  Calls Try.prog 54 #[.agg #[.slice A0_0 l0_0.length c0_0, .int .i64 a0_1, .int .i64 a0_2, .int .i64 a0_3, .int .i64 a0_4, .int .i64 a0_5, .int .i64 a0_6], .agg #[.int .i64 a1_0, .int .i64 a1_1, .int .i64 a1_2, .int .i64 a1_3, .slice A1_4 l1_4.length c1_4, .slice A1_5 l1_5.length c1_5, .slice A1_6 l1_6.length c1_6, .slice A1_7 l1_7.length c1_7]] w fun e w' => e = .returned (.bool r) ∧ Below w.heap.size w w' := by
 have hu24 := Try.underlying24; have hu63 := Try.underlying63; have HR0_0 := yaa hr0_0; have HC0_0 := yaa hc0_0; clear hr0_0 hc0_0; have HR1_4 := yaa hr1_4; have HC1_4 := yaa hc1_4; clear hr1_4 hc1_4; have HR1_5 := yaa hr1_5; have HC1_5 := yaa hc1_5; clear hr1_5 hc1_5; have HR1_6 := yaa hr1_6; have HC1_6 := yaa hc1_6; clear hr1_6 hc1_6; have HR1_7 := yaa hr1_7; have HC1_7 := yaa hc1_7; clear hr1_7 hc1_7; have HB := yaa (Below.refl w.heap.size w); have H : ((spec_CfgOk.f l0_0 a0_1 a0_2 a0_3 a0_4 a0_5 a0_6).bind fun u5 => (if u5 = true then ((spec_l1In.f a1_0 0 9999).bind fun u6 => (if u6 = true then ((spec_l1In.f a1_1 0 a0_1).bind fun u7 => (if u7 = true then ((spec_l1In.f a1_2 0 a1_0).bind fun u9 => (if u9 = true then ((spec_l1In.f a1_3 0 9999).bind fun c0 => (spec_TenOk.j0 k (!c0) l0_0 a0_1 a0_2 a0_3 a0_4 a0_5 a0_6 a1_0 a1_1 a1_2 a1_3 l1_4 l1_5 l1_6 l1_7)) else (spec_TenOk.j0 k true l0_0 a0_1 a0_2 a0_3 a0_4 a0_5 a0_6 a1_0 a1_1 a1_2 a1_3 l1_4 l1_5 l1_6 l1_7))) else (spec_TenOk.j0 k true l0_0 a0_1 a0_2 a0_3 a0_4 a0_5 a0_6 a1_0 a1_1 a1_2 a1_3 l1_4 l1_5 l1_6 l1_7))) else (spec_TenOk.j0 k true l0_0 a0_1 a0_2 a0_3 a0_4 a0_5 a0_6 a1_0 a1_1 a1_2 a1_3 l1_4 l1_5 l1_6 l1_7))) else (spec_TenOk.j0 k true l0_0 a0_1 a0_2 a0_3 a0_4 a0_5 a0_6 a1_0 a1_1 a1_2 a1_3 l1_4 l1_5 l1_6 l1_7))) = some r := h; clear h; have HC3 := yaa H; clear H
 go_enter Try.func54, Try.ntmps54
 go_upto_region 1 with (first | ((with_reducible refine gd_ 2 rfl ?_); refine bx_ 2 rfl #[.slice A0_0 l0_0.length c0_0, .int .i64 a0_1, .int .i64 a0_2, .int .i64 a0_3, .int .i64 a0_4, .int .i64 a0_5, .int .i64 a0_6] 24 ?_; intro b8 hg w4 hbox hb; have b0 := yaa (hbox); have v0 := yaa ((by rw [hg]; exact (below_size (upH HB.out)) : w.heap.size ≤ b8)); replace HB := yaa (below_step (upH HB.out) hb); have N7 := v0; clear hb hbox hg) | ((with_reducible refine gd_ 3 rfl ?_); refine bx_ 3 rfl #[.int .i64 a1_0, .int .i64 a1_1, .int .i64 a1_2, .int .i64 a1_3, .slice A1_4 l1_4.length c1_4, .slice A1_5 l1_5.length c1_5, .slice A1_6 l1_6.length c1_6, .slice A1_7 l1_7.length c1_7] 63 ?_; intro b9 hg w5 hbox hb; have b1 := yaa (hbox); have v1 := yaa ((by rw [hg]; exact (below_size (by repeat (with_reducible first | exact HB.out | apply yag | apply yab | apply yah | refine yaj ?_ (Aside0.out ‹_›)))) : w.heap.size ≤ b9)); replace HB := yaa (below_step (by repeat (with_reducible first | exact HB.out | apply yag | apply yab | apply yah | refine yaj ?_ (Aside0.out ‹_›))) hb); have N8 := v1; have b2 := yaa ((by rw [hg]; exact Nat.ne_of_lt (blk_lt (upB b0.out)) : b8 ≠ b9)); replace b0 := yaa (yai (upB b0.out) hb); have b3 := yaa b2.out.symm; clear hb hbox hg))
 (try simp only [Act.put, List.setIfInBounds_toArray, List.set_cons_zero, List.set_cons_succ])
 go_cut [35] (fun v35 wc => ∃ (kq : Nat) (b7 : Bool), v35 = .bool b7 ∧ Aside0 (spec_TenOk.j0 kq b7 l0_0 a0_1 a0_2 a0_3 a0_4 a0_5 a0_6 a1_0 a1_1 a1_2 a1_3 l1_4 l1_5 l1_6 l1_7 = some r) ∧ Aside0 (kq ≤ k) ∧ Aside0 (wc.heap[b8]? = some (.cells #[(.slice A0_0 l0_0.length c0_0), .int .i64 a0_1, .int .i64 a0_2, .int .i64 a0_3, .int .i64 a0_4, .int .i64 a0_5, .int .i64 a0_6] 24 (0, 0))) ∧ Aside0 (wc.heap[b9]? = some (.cells #[.int .i64 a1_0, .int .i64 a1_1, .int .i64 a1_2, .int .i64 a1_3, (.slice A1_4 l1_4.length c1_4), (.slice A1_5 l1_5.length c1_5), (.slice A1_6 l1_6.length c1_6), (.slice A1_7 l1_7.length c1_7)] 63 (0, 0))) ∧ Aside0 (Below w.heap.size w wc))
 case first =>
  have H := HC3.out; clear HC3; obtain ⟨u5, A6, H⟩ := bindA H; (try dsimp only at H)
  by_cases c7 : u5 = true
  rotate_left
  ·
   replace c7 := Bool.eq_false_iff.mpr c7
   subst c7
   rw [if_neg (show ¬ (false = true) by decide)] at H
   have H' := yaa H; clear H; have O7 := b2.out; have O8 := b3.out; obtain ⟨t1, t2, t3, t4, t5, t6, t7⟩ := cc7_ b0.out; obtain ⟨t8, t9, u0, u1, u2, u3, u4⟩ := cf7_ b0.out
   go_wp2_with (first | ((with_reducible refine gc_ 15 rfl ?_); refine gl_ (some 6) rfl Try.func15 #[.agg #[.slice A0_0 l0_0.length c0_0, .int .i64 a0_1, .int .i64 a0_2, .int .i64 a0_3, .int .i64 a0_4, .int .i64 a0_5, .int .i64 a0_6]] ?_; (with_reducible refine (spec_CfgOk.calls _ _ l0_0 a0_1 a0_2 a0_3 a0_4 a0_5 a0_6 false _ ?side1 ?side2 A6.out).mono ?_); (case side1 => repeat (first | exact (yac HR0_0.out HB.out) | (with_reducible refine yad ?_ _) | (with_reducible refine yae ?_ _) | (with_reducible refine yaf ?_))); (case side2 => exact HC0_0.out); rintro e w36 ⟨rfl, hb⟩; refine ⟨_, rfl, ?_⟩; replace b0 := yaa (yai (upB b0.out) hb); replace b1 := yaa (yai (upB b1.out) hb); replace HB := yaa (below_step (by repeat (with_reducible first | exact HB.out | apply yag | apply yab | apply yah | refine yaj ?_ (Aside0.out ‹_›))) hb); (try clear hb)))
   go_meet
   case rel => exact ⟨_, (true), (by first | rfl | (simp; done) | (simp [*]; done)), H', ⟨by first | omega | exact Nat.le_refl _⟩, ⟨by exact upB b0.out⟩, ⟨by exact upB b1.out⟩, ⟨by repeat (with_reducible first | exact HB.out | apply yag | apply yab | apply yah | refine yaj ?_ (Aside0.out ‹_›))⟩⟩
  subst c7
  rw [if_pos rfl] at H
  obtain ⟨u6, A8, H⟩ := bindA H; (try dsimp only at H)
  by_cases c9 : u6 = true
  rotate_left
  ·
   replace c9 := Bool.eq_false_iff.mpr c9
   subst c9
   rw [if_neg (show ¬ (false = true) by decide)] at H
   have H' := yaa H; clear H; have O5 := b2.out; have O6 := b3.out; obtain ⟨q1, q2, q3, q4, q5, q6, q7⟩ := cc7_ b0.out; obtain ⟨q8, q9, r0, r1, r2, r3, r4⟩ := cf7_ b0.out
   go_wp2_with (first | ((with_reducible refine gc_ 15 rfl ?_); refine gl_ (some 6) rfl Try.func15 #[.agg #[.slice A0_0 l0_0.length c0_0, .int .i64 a0_1, .int .i64 a0_2, .int .i64 a0_3, .int .i64 a0_4, .int .i64 a0_5, .int .i64 a0_6]] ?_; (with_reducible refine (spec_CfgOk.calls _ _ l0_0 a0_1 a0_2 a0_3 a0_4 a0_5 a0_6 true _ ?side1 ?side2 A6.out).mono ?_); (case side1 => repeat (first | exact (yac HR0_0.out HB.out) | (with_reducible refine yad ?_ _) | (with_reducible refine yae ?_ _) | (with_reducible refine yaf ?_))); (case side2 => exact HC0_0.out); rintro e w32 ⟨rfl, hb⟩; refine ⟨_, rfl, ?_⟩; replace b0 := yaa (yai (upB b0.out) hb); replace b1 := yaa (yai (upB b1.out) hb); replace HB := yaa (below_step (by repeat (with_reducible first | exact HB.out | apply yag | apply yab | apply yah | refine yaj ?_ (Aside0.out ‹_›))) hb); (try clear hb); obtain ⟨r5, r6, r7, r8, r9, s0, s1, s2⟩ := cc8_ b1.out; obtain ⟨s3, s4, s5, s6, s7, s8, s9⟩ := cf7_ b1.out; have t0 := blk_frozen b1.out 7) | (go_at_call 63; (with_reducible refine (spec_l1In.calls a1_0 0 9999 false _ A8.out).mono ?_); rintro e w' ⟨rfl, ⟨nd, rfl⟩⟩))
   go_meet
   case rel => exact ⟨_, (true), (by first | rfl | (simp; done) | (simp [*]; done)), H', ⟨by first | omega | exact Nat.le_refl _⟩, ⟨by exact upB b0.out⟩, ⟨by exact upB b1.out⟩, ⟨by repeat (with_reducible first | exact HB.out | apply yag | apply yab | apply yah | refine yaj ?_ (Aside0.out ‹_›))⟩⟩
  subst c9
  rw [if_pos rfl] at H
  obtain ⟨u7, A10, H⟩ := bindA H; (try dsimp only at H)
  by_cases c11 : u7 = true
  ·
   subst c11
   rw [if_pos rfl] at H
   obtain ⟨u9, A12, H⟩ := bindA H; (try dsimp only at H)
   by_cases c13 : u9 = true
   ·
    subst c13
    rw [if_pos rfl] at H
    obtain ⟨c0, A14, H⟩ := bindA H; (try dsimp only at H); have H' := yaa H; clear H; have N9 := b2.out; have O0 := b3.out; obtain ⟨c4, c6, c8, d0, d1, d2, d3⟩ := cc7_ b0.out; obtain ⟨d4, d5, d6, d7, d8, d9, e0⟩ := cf7_ b0.out
    go_wp2_with (first | ((with_reducible refine gc_ 15 rfl ?_); refine gl_ (some 6) rfl Try.func15 #[.agg #[.slice A0_0 l0_0.length c0_0, .int .i64 a0_1, .int .i64 a0_2, .int .i64 a0_3, .int .i64 a0_4, .int .i64 a0_5, .int .i64 a0_6]] ?_; (with_reducible refine (spec_CfgOk.calls _ _ l0_0 a0_1 a0_2 a0_3 a0_4 a0_5 a0_6 true _ ?side1 ?side2 A6.out).mono ?_); (case side1 => repeat (first | exact (yac HR0_0.out HB.out) | (with_reducible refine yad ?_ _) | (with_reducible refine yae ?_ _) | (with_reducible refine yaf ?_))); (case side2 => exact HC0_0.out); rintro e w17 ⟨rfl, hb⟩; refine ⟨_, rfl, ?_⟩; replace b0 := yaa (yai (upB b0.out) hb); replace b1 := yaa (yai (upB b1.out) hb); replace HB := yaa (below_step (by repeat (with_reducible first | exact HB.out | apply yag | apply yab | apply yah | refine yaj ?_ (Aside0.out ‹_›))) hb); (try clear hb); obtain ⟨e1, e2, e3, e4, e5, e6, e7, e8⟩ := cc8_ b1.out; obtain ⟨e9, f0, f1, f2, f3, f4, f5⟩ := cf7_ b1.out; have f6 := blk_frozen b1.out 7) | (go_at_call 63; (with_reducible refine (spec_l1In.calls a1_0 0 9999 true _ A8.out).mono ?_); rintro e w' ⟨rfl, ⟨nd, rfl⟩⟩; obtain ⟨f7, f8, f9, g0, g1, g2, g3⟩ := cc7_ b0.out; obtain ⟨g4, g5, g6, g7, g8, g9⟩ := cf6_ b0.out; have h0 := blk_frozen b0.out 6) | (go_at_call 63; (with_reducible refine (spec_l1In.calls a1_1 0 a0_1 true _ A10.out).mono ?_); rintro e w' ⟨rfl, ⟨nd, rfl⟩⟩) | (go_at_call 63; (with_reducible refine (spec_l1In.calls a1_2 0 a1_0 true _ A12.out).mono ?_); rintro e w' ⟨rfl, ⟨nd, rfl⟩⟩) | (go_at_call 63; (with_reducible refine (spec_l1In.calls a1_3 0 9999 c0 _ A14.out).mono ?_); rintro e w' ⟨rfl, ⟨nd, rfl⟩⟩))
    go_meet
    case rel => exact ⟨_, (!c0), (by first | rfl | (simp; done) | (simp [*]; done)), H', ⟨by first | omega | exact Nat.le_refl _⟩, ⟨by exact upB b0.out⟩, ⟨by exact upB b1.out⟩, ⟨by repeat (with_reducible first | exact HB.out | apply yag | apply yab | apply yah | refine yaj ?_ (Aside0.out ‹_›))⟩⟩
   replace c13 := Bool.eq_false_iff.mpr c13
   subst c13
   rw [if_neg (show ¬ (false = true) by decide)] at H
   have H' := yaa H; clear H; have O1 := b2.out; have O2 := b3.out; obtain ⟨h1, h2, h3, h4, h5, h6, h7⟩ := cc7_ b0.out; obtain ⟨h8, h9, i0, i1, i2, i3, i4⟩ := cf7_ b0.out
   go_wp2_with (first | ((with_reducible refine gc_ 15 rfl ?_); refine gl_ (some 6) rfl Try.func15 #[.agg #[.slice A0_0 l0_0.length c0_0, .int .i64 a0_1, .int .i64 a0_2, .int .i64 a0_3, .int .i64 a0_4, .int .i64 a0_5, .int .i64 a0_6]] ?_; (with_reducible refine (spec_CfgOk.calls _ _ l0_0 a0_1 a0_2 a0_3 a0_4 a0_5 a0_6 true _ ?side1 ?side2 A6.out).mono ?_); (case side1 => repeat (first | exact (yac HR0_0.out HB.out) | (with_reducible refine yad ?_ _) | (with_reducible refine yae ?_ _) | (with_reducible refine yaf ?_))); (case side2 => exact HC0_0.out); rintro e w22 ⟨rfl, hb⟩; refine ⟨_, rfl, ?_⟩; replace b0 := yaa (yai (upB b0.out) hb); replace b1 := yaa (yai (upB b1.out) hb); replace HB := yaa (below_step (by repeat (with_reducible first | exact HB.out | apply yag | apply yab | apply yah | refine yaj ?_ (Aside0.out ‹_›))) hb); (try clear hb); obtain ⟨i5, i6, i7, i8, i9, j1, j2, j3⟩ := cc8_ b1.out; obtain ⟨j4, j5, j6, j7, j8, j9, k0⟩ := cf7_ b1.out; have k1 := blk_frozen b1.out 7) | (go_at_call 63; (with_reducible refine (spec_l1In.calls a1_0 0 9999 true _ A8.out).mono ?_); rintro e w' ⟨rfl, ⟨nd, rfl⟩⟩; obtain ⟨k2, k3, k4, k5, k6, k7, k8⟩ := cc7_ b0.out; obtain ⟨k9, l0, l1, l2, l3, l4⟩ := cf6_ b0.out; have l5 := blk_frozen b0.out 6) | (go_at_call 63; (with_reducible refine (spec_l1In.calls a1_1 0 a0_1 true _ A10.out).mono ?_); rintro e w' ⟨rfl, ⟨nd, rfl⟩⟩) | (go_at_call 63; (with_reducible refine (spec_l1In.calls a1_2 0 a1_0 false _ A12.out).mono ?_); rintro e w' ⟨rfl, ⟨nd, rfl⟩⟩))
   go_meet
   case rel => exact ⟨_, (true), (by first | rfl | (simp; done) | (simp [*]; done)), H', ⟨by first | omega | exact Nat.le_refl _⟩, ⟨by exact upB b0.out⟩, ⟨by exact upB b1.out⟩, ⟨by repeat (with_reducible first | exact HB.out | apply yag | apply yab | apply yah | refine yaj ?_ (Aside0.out ‹_›))⟩⟩
  replace c11 := Bool.eq_false_iff.mpr c11
  subst c11
  rw [if_neg (show ¬ (false = true) by decide)] at H
  have H' := yaa H; clear H; have O3 := b2.out; have O4 := b3.out; obtain ⟨l6, l7, l8, l9, m0, m1, m2⟩ := cc7_ b0.out; obtain ⟨m3, m4, m5, m6, m7, m8, m9⟩ := cf7_ b0.out
  go_wp2_with (first | ((with_reducible refine gc_ 15 rfl ?_); refine gl_ (some 6) rfl Try.func15 #[.agg #[.slice A0_0 l0_0.length c0_0, .int .i64 a0_1, .int .i64 a0_2, .int .i64 a0_3, .int .i64 a0_4, .int .i64 a0_5, .int .i64 a0_6]] ?_; (with_reducible refine (spec_CfgOk.calls _ _ l0_0 a0_1 a0_2 a0_3 a0_4 a0_5 a0_6 true _ ?side1 ?side2 A6.out).mono ?_); (case side1 => repeat (first | exact (yac HR0_0.out HB.out) | (with_reducible refine yad ?_ _) | (with_reducible refine yae ?_ _) | (with_reducible refine yaf ?_))); (case side2 => exact HC0_0.out); rintro e w27 ⟨rfl, hb⟩; refine ⟨_, rfl, ?_⟩; replace b0 := yaa (yai (upB b0.out) hb); replace b1 := yaa (yai (upB b1.out) hb); replace HB := yaa (below_step (by repeat (with_reducible first | exact HB.out | apply yag | apply yab | apply yah | refine yaj ?_ (Aside0.out ‹_›))) hb); (try clear hb); obtain ⟨n0, n1, n2, n3, n4, n5, n6, n7⟩ := cc8_ b1.out; obtain ⟨n8, n9, o0, o1, o2, o3, o4⟩ := cf7_ b1.out; have o5 := blk_frozen b1.out 7) | (go_at_call 63; (with_reducible refine (spec_l1In.calls a1_0 0 9999 true _ A8.out).mono ?_); rintro e w' ⟨rfl, ⟨nd, rfl⟩⟩; obtain ⟨o6, o7, o8, o9, p0, p1, p3⟩ := cc7_ b0.out; obtain ⟨p4, p5, p6, p7, p8, p9⟩ := cf6_ b0.out; have q0 := blk_frozen b0.out 6) | (go_at_call 63; (with_reducible refine (spec_l1In.calls a1_1 0 a0_1 false _ A10.out).mono ?_); rintro e w' ⟨rfl, ⟨nd, rfl⟩⟩))
  go_meet
  case rel => exact ⟨_, (true), (by first | rfl | (simp; done) | (simp [*]; done)), H', ⟨by first | omega | exact Nat.le_refl _⟩, ⟨by exact upB b0.out⟩, ⟨by exact upB b1.out⟩, ⟨by repeat (with_reducible first | exact HB.out | apply yag | apply yab | apply yah | refine yaj ?_ (Aside0.out ‹_›))⟩⟩
 case rest =>
  clear HC3; (try clear c1); (try clear c2); (try clear p2); (try clear c3); (try clear c5); (try clear c7); (try clear c9); (try clear c11); (try clear c13); (try clear c15); (try clear c20); (try clear c25); (try clear c30); (try clear c34); (try clear c4); (try clear c6); (try clear c8); (try clear d0); (try clear d1); (try clear d2); (try clear d3); (try clear e1); (try clear e2); (try clear e3); (try clear e4); (try clear e5); (try clear e6); (try clear e7); (try clear e8); (try clear f7); (try clear f8); (try clear f9); (try clear g0); (try clear g1); (try clear g2); (try clear g3); (try clear h1); (try clear h2); (try clear h3); (try clear h4); (try clear h5); (try clear h6); (try clear h7); (try clear i5); (try clear i6); (try clear i7); (try clear i8); (try clear i9); (try clear j1); (try clear j2); (try clear j3); (try clear k2); (try clear k3); (try clear k4); (try clear k5); (try clear k6); (try clear k7); (try clear k8); (try clear l6); (try clear l7); (try clear l8); (try clear l9); (try clear m0); (try clear m1); (try clear m2); (try clear n0); (try clear n1); (try clear n2); (try clear n3); (try clear n4); (try clear n5); (try clear n6); (try clear n7); (try clear o6); (try clear o7); (try clear o8); (try clear o9); (try clear p0); (try clear p1); (try clear p3); (try clear q1); (try clear q2); (try clear q3); (try clear q4); (try clear q5); (try clear q6); (try clear q7); (try clear r5); (try clear r6); (try clear r7); (try clear r8); (try clear r9); (try clear s0); (try clear s1); (try clear s2); (try clear t1); (try clear t2); (try clear t3); (try clear t4); (try clear t5); (try clear t6); (try clear t7); (try clear d4); (try clear d5); (try clear d6); (try clear d7); (try clear d8); (try clear d9); (try clear e0); (try clear e9); (try clear f0); (try clear f1); (try clear f2); (try clear f3); (try clear f4); (try clear f5); (try clear f6); (try clear g4); (try clear g5); (try clear g6); (try clear g7); (try clear g8); (try clear g9); (try clear h0); (try clear h8); (try clear h9); (try clear i0); (try clear i1); (try clear i2); (try clear i3); (try clear i4); (try clear j4); (try clear j5); (try clear j6); (try clear j7); (try clear j8); (try clear j9); (try clear k0); (try clear k1); (try clear k9); (try clear l0); (try clear l1); (try clear l2); (try clear l3); (try clear l4); (try clear l5); (try clear m3); (try clear m4); (try clear m5); (try clear m6); (try clear m7); (try clear m8); (try clear m9); (try clear n8); (try clear n9); (try clear o0); (try clear o1); (try clear o2); (try clear o3); (try clear o4); (try clear o5); (try clear p4); (try clear p5); (try clear p6); (try clear p7); (try clear p8); (try clear p9); (try clear q0); (try clear q8); (try clear q9); (try clear r0); (try clear r1); (try clear r2); (try clear r3); (try clear r4); (try clear s3); (try clear s4); (try clear s5); (try clear s6); (try clear s7); (try clear s8); (try clear s9); (try clear t0); (try clear t8); (try clear t9); (try clear u0); (try clear u1); (try clear u2); (try clear u3); (try clear u4); obtain ⟨kq, b7, rfl, HA, HJ2, b0, b1, HB⟩ := hcut
  cases kq with
  | zero => exact absurd HA.out (by simp [spec_TenOk.j0])
  | succ kj2 =>
   have H := HA.out; clear HA
   simp only [spec_TenOk.j0] at H
   by_cases c37 : b7 = true
   ·
    subst c37
    rw [if_pos rfl] at H
    obtain rfl := Option.some.inj H
    go_wp2
    go_ret
    exact ⟨by first | rfl | (simp [*, errW_none, errW_some] <;> rfl), by repeat (with_reducible first | exact HB.out | apply yag | apply yab | apply yah | refine yaj ?_ (Aside0.out ‹_›))⟩
   replace c37 := Bool.eq_false_iff.mpr c37
   subst c37
   rw [if_neg (show ¬ (false = true) by decide)] at H
   obtain ⟨N4, A38, H⟩ := bindA H; (try dsimp only at H)
   by_cases c39 : N4 = true
   ·
    subst c39
    rw [if_pos rfl] at H
    obtain ⟨N5, A40, H⟩ := bindA H; (try dsimp only at H)
    by_cases c41 : N5 = true
    ·
     subst c41
     rw [if_pos rfl] at H
     obtain ⟨N6, A42, H⟩ := bindA H; (try dsimp only at H); obtain rfl := Option.some.inj H; have O9 := b2.out; have P0 := b3.out; obtain ⟨v4, v5, v6, v7, v8, v9, w0⟩ := cc7_ b0.out; obtain ⟨w1, w2, w3, w6, w7, w8, w9⟩ := cf7_ b0.out; obtain ⟨x0, x1, x2, x3, x4, x5, x6, x7⟩ := cc8_ b1.out; obtain ⟨x8, x9, z0, z1, z2, z3, z4, z5⟩ := cf8_ b1.out
     go_wp2_with (first | ((with_reducible refine gc_ 108 rfl ?_); refine gl_ (some 38) rfl Try.func108 #[.agg #[.slice A0_0 l0_0.length c0_0, .int .i64 a0_1, .int .i64 a0_2, .int .i64 a0_3, .int .i64 a0_4, .int .i64 a0_5, .int .i64 a0_6], .agg #[.int .i64 a1_0, .int .i64 a1_1, .int .i64 a1_2, .int .i64 a1_3, .slice A1_4 l1_4.length c1_4, .slice A1_5 l1_5.length c1_5, .slice A1_6 l1_6.length c1_6, .slice A1_7 l1_7.length c1_7]] ?_; (with_reducible refine (spec_l8Jobs.calls kj2 _ _ l0_0 a0_1 a0_2 a0_3 a0_4 a0_5 a0_6 a1_0 a1_1 a1_2 a1_3 _ _ l1_4 _ _ l1_5 _ _ l1_6 _ _ l1_7 true _ ?side1 ?side2 ?side3 ?side4 ?side5 ?side6 ?side7 ?side8 ?side9 ?side10 A38.out).mono ?_); (case side1 => repeat (first | exact (yac HR0_0.out HB.out) | (with_reducible refine yad ?_ _) | (with_reducible refine yae ?_ _) | (with_reducible refine yaf ?_))); (case side2 => exact HC0_0.out); (case side3 => repeat (first | exact (yac HR1_4.out HB.out) | (with_reducible refine yad ?_ _) | (with_reducible refine yae ?_ _) | (with_reducible refine yaf ?_))); (case side4 => exact HC1_4.out); (case side5 => repeat (first | exact (yac HR1_5.out HB.out) | (with_reducible refine yad ?_ _) | (with_reducible refine yae ?_ _) | (with_reducible refine yaf ?_))); (case side6 => exact HC1_5.out); (case side7 => repeat (first | exact (yac HR1_6.out HB.out) | (with_reducible refine yad ?_ _) | (with_reducible refine yae ?_ _) | (with_reducible refine yaf ?_))); (case side8 => exact HC1_6.out); (case side9 => repeat (first | exact (yac HR1_7.out HB.out) | (with_reducible refine yad ?_ _) | (with_reducible refine yae ?_ _) | (with_reducible refine yaf ?_))); (case side10 => exact HC1_7.out); rintro e w46 ⟨rfl, hb⟩; refine ⟨_, rfl, ?_⟩; replace b0 := yaa (yai (upB b0.out) hb); replace b1 := yaa (yai (upB b1.out) hb); replace HB := yaa (below_step (by repeat (with_reducible first | exact HB.out | apply yag | apply yab | apply yah | refine yaj ?_ (Aside0.out ‹_›))) hb); (try clear hb); obtain ⟨z6, z7, z8, z9, A0, A1, A2⟩ := cc7_ b0.out; obtain ⟨A3, A4, A5, A7, A9, B0, B1⟩ := cf7_ b0.out; obtain ⟨B2, B3, B4, B5, B6, B7, B8, B9⟩ := cc8_ b1.out; obtain ⟨C0, C1, C2, C3, C4, C5, C6⟩ := cf7_ b1.out; have C7 := blk_frozen b1.out 7) | (go_at_call 109; (with_reducible refine (spec_l8Files.calls kj2 _ _ l0_0 a0_1 a0_2 a0_3 a0_4 a0_5 a0_6 a1_0 a1_1 a1_2 a1_3 _ _ l1_4 _ _ l1_5 _ _ l1_6 _ _ l1_7 true _ ?side1 ?side2 ?side3 ?side4 ?side5 ?side6 ?side7 ?side8 ?side9 ?side10 A40.out).mono ?_); (case side1 => repeat (first | exact (yac HR0_0.out HB.out) | (with_reducible refine yad ?_ _) | (with_reducible refine yae ?_ _) | (with_reducible refine yaf ?_))); (case side2 => exact HC0_0.out); (case side3 => repeat (first | exact (yac HR1_4.out HB.out) | (with_reducible refine yad ?_ _) | (with_reducible refine yae ?_ _) | (with_reducible refine yaf ?_))); (case side4 => exact HC1_4.out); (case side5 => repeat (first | exact (yac HR1_5.out HB.out) | (with_reducible refine yad ?_ _) | (with_reducible refine yae ?_ _) | (with_reducible refine yaf ?_))); (case side6 => exact HC1_5.out); (case side7 => repeat (first | exact (yac HR1_6.out HB.out) | (with_reducible refine yad ?_ _) | (with_reducible refine yae ?_ _) | (with_reducible refine yaf ?_))); (case side8 => exact HC1_6.out); (case side9 => repeat (first | exact (yac HR1_7.out HB.out) | (with_reducible refine yad ?_ _) | (with_reducible refine yae ?_ _) | (with_reducible refine yaf ?_))); (case side10 => exact HC1_7.out); rintro e w49 ⟨rfl, hb⟩; replace b0 := yaa (yai (upB b0.out) hb); replace b1 := yaa (yai (upB b1.out) hb); replace HB := yaa (below_step (by repeat (with_reducible first | exact HB.out | apply yag | apply yab | apply yah | refine yaj ?_ (Aside0.out ‹_›))) hb); (try clear hb); obtain ⟨C8, C9, D0, D1, D2, D3, D4, D5⟩ := cc8_ b1.out; obtain ⟨D6, D7, D8, D9, E0, E1, E2⟩ := cf7_ b1.out; have E3 := blk_frozen b1.out 7) | (go_at_call 110; (with_reducible refine (spec_l8Outs.calls kj2 a1_0 a1_1 a1_2 a1_3 _ _ l1_4 _ _ l1_5 _ _ l1_6 _ _ l1_7 N6 _ ?side1 ?side2 ?side3 ?side4 ?side5 ?side6 ?side7 ?side8 A42.out).mono ?_); (case side1 => repeat (first | exact (yac HR1_4.out HB.out) | (with_reducible refine yad ?_ _) | (with_reducible refine yae ?_ _) | (with_reducible refine yaf ?_))); (case side2 => exact HC1_4.out); (case side3 => repeat (first | exact (yac HR1_5.out HB.out) | (with_reducible refine yad ?_ _) | (with_reducible refine yae ?_ _) | (with_reducible refine yaf ?_))); (case side4 => exact HC1_5.out); (case side5 => repeat (first | exact (yac HR1_6.out HB.out) | (with_reducible refine yad ?_ _) | (with_reducible refine yae ?_ _) | (with_reducible refine yaf ?_))); (case side6 => exact HC1_6.out); (case side7 => repeat (first | exact (yac HR1_7.out HB.out) | (with_reducible refine yad ?_ _) | (with_reducible refine yae ?_ _) | (with_reducible refine yaf ?_))); (case side8 => exact HC1_7.out); rintro e w51 ⟨rfl, hb⟩; replace b0 := yaa (yai (upB b0.out) hb); replace b1 := yaa (yai (upB b1.out) hb); replace HB := yaa (below_step (by repeat (with_reducible first | exact HB.out | apply yag | apply yab | apply yah | refine yaj ?_ (Aside0.out ‹_›))) hb); (try clear hb)))
     go_ret
     exact ⟨by first | rfl | (simp [*, errW_none, errW_some] <;> rfl), by repeat (with_reducible first | exact HB.out | apply yag | apply yab | apply yah | refine yaj ?_ (Aside0.out ‹_›))⟩
    replace c41 := Bool.eq_false_iff.mpr c41
    subst c41
    rw [if_neg (show ¬ (false = true) by decide)] at H
    obtain rfl := Option.some.inj H; have P1 := b2.out; have P2 := b3.out; obtain ⟨E4, E5, E6, E7, E8, E9, F0⟩ := cc7_ b0.out; obtain ⟨F1, F2, F3, F4, F5, F6, F7⟩ := cf7_ b0.out; obtain ⟨F8, F9, G0, G1, G2, G3, G4, G5⟩ := cc8_ b1.out; obtain ⟨G6, G7, G8, G9, H0, H1, H2, H3⟩ := cf8_ b1.out
    go_wp2_with (first | ((with_reducible refine gc_ 108 rfl ?_); refine gl_ (some 38) rfl Try.func108 #[.agg #[.slice A0_0 l0_0.length c0_0, .int .i64 a0_1, .int .i64 a0_2, .int .i64 a0_3, .int .i64 a0_4, .int .i64 a0_5, .int .i64 a0_6], .agg #[.int .i64 a1_0, .int .i64 a1_1, .int .i64 a1_2, .int .i64 a1_3, .slice A1_4 l1_4.length c1_4, .slice A1_5 l1_5.length c1_5, .slice A1_6 l1_6.length c1_6, .slice A1_7 l1_7.length c1_7]] ?_; (with_reducible refine (spec_l8Jobs.calls kj2 _ _ l0_0 a0_1 a0_2 a0_3 a0_4 a0_5 a0_6 a1_0 a1_1 a1_2 a1_3 _ _ l1_4 _ _ l1_5 _ _ l1_6 _ _ l1_7 true _ ?side1 ?side2 ?side3 ?side4 ?side5 ?side6 ?side7 ?side8 ?side9 ?side10 A38.out).mono ?_); (case side1 => repeat (first | exact (yac HR0_0.out HB.out) | (with_reducible refine yad ?_ _) | (with_reducible refine yae ?_ _) | (with_reducible refine yaf ?_))); (case side2 => exact HC0_0.out); (case side3 => repeat (first | exact (yac HR1_4.out HB.out) | (with_reducible refine yad ?_ _) | (with_reducible refine yae ?_ _) | (with_reducible refine yaf ?_))); (case side4 => exact HC1_4.out); (case side5 => repeat (first | exact (yac HR1_5.out HB.out) | (with_reducible refine yad ?_ _) | (with_reducible refine yae ?_ _) | (with_reducible refine yaf ?_))); (case side6 => exact HC1_5.out); (case side7 => repeat (first | exact (yac HR1_6.out HB.out) | (with_reducible refine yad ?_ _) | (with_reducible refine yae ?_ _) | (with_reducible refine yaf ?_))); (case side8 => exact HC1_6.out); (case side9 => repeat (first | exact (yac HR1_7.out HB.out) | (with_reducible refine yad ?_ _) | (with_reducible refine yae ?_ _) | (with_reducible refine yaf ?_))); (case side10 => exact HC1_7.out); rintro e w55 ⟨rfl, hb⟩; refine ⟨_, rfl, ?_⟩; replace b0 := yaa (yai (upB b0.out) hb); replace b1 := yaa (yai (upB b1.out) hb); replace HB := yaa (below_step (by repeat (with_reducible first | exact HB.out | apply yag | apply yab | apply yah | refine yaj ?_ (Aside0.out ‹_›))) hb); (try clear hb); obtain ⟨H4, H5, H6, H7, H8, H9, I0⟩ := cc7_ b0.out; obtain ⟨I1, I2, I3, I4, I5, I6, I7⟩ := cf7_ b0.out; obtain ⟨I8, I9, J0, J1, J2, J3, J4, J5⟩ := cc8_ b1.out; obtain ⟨J6, J7, J8, J9, K0, K1, K2⟩ := cf7_ b1.out; have K3 := blk_frozen b1.out 7) | (go_at_call 109; (with_reducible refine (spec_l8Files.calls kj2 _ _ l0_0 a0_1 a0_2 a0_3 a0_4 a0_5 a0_6 a1_0 a1_1 a1_2 a1_3 _ _ l1_4 _ _ l1_5 _ _ l1_6 _ _ l1_7 false _ ?side1 ?side2 ?side3 ?side4 ?side5 ?side6 ?side7 ?side8 ?side9 ?side10 A40.out).mono ?_); (case side1 => repeat (first | exact (yac HR0_0.out HB.out) | (with_reducible refine yad ?_ _) | (with_reducible refine yae ?_ _) | (with_reducible refine yaf ?_))); (case side2 => exact HC0_0.out); (case side3 => repeat (first | exact (yac HR1_4.out HB.out) | (with_reducible refine yad ?_ _) | (with_reducible refine yae ?_ _) | (with_reducible refine yaf ?_))); (case side4 => exact HC1_4.out); (case side5 => repeat (first | exact (yac HR1_5.out HB.out) | (with_reducible refine yad ?_ _) | (with_reducible refine yae ?_ _) | (with_reducible refine yaf ?_))); (case side6 => exact HC1_5.out); (case side7 => repeat (first | exact (yac HR1_6.out HB.out) | (with_reducible refine yad ?_ _) | (with_reducible refine yae ?_ _) | (with_reducible refine yaf ?_))); (case side8 => exact HC1_6.out); (case side9 => repeat (first | exact (yac HR1_7.out HB.out) | (with_reducible refine yad ?_ _) | (with_reducible refine yae ?_ _) | (with_reducible refine yaf ?_))); (case side10 => exact HC1_7.out); rintro e w58 ⟨rfl, hb⟩; replace b0 := yaa (yai (upB b0.out) hb); replace b1 := yaa (yai (upB b1.out) hb); replace HB := yaa (below_step (by repeat (with_reducible first | exact HB.out | apply yag | apply yab | apply yah | refine yaj ?_ (Aside0.out ‹_›))) hb); (try clear hb)))
    go_ret
    exact ⟨by first | rfl | (simp [*, errW_none, errW_some] <;> rfl), by repeat (with_reducible first | exact HB.out | apply yag | apply yab | apply yah | refine yaj ?_ (Aside0.out ‹_›))⟩
   replace c39 := Bool.eq_false_iff.mpr c39
   subst c39
   rw [if_neg (show ¬ (false = true) by decide)] at H
   obtain rfl := Option.some.inj H; have P3 := b2.out; have P4 := b3.out; obtain ⟨K4, K5, K6, K7, K8, K9, L0⟩ := cc7_ b0.out; obtain ⟨L1, L2, L3, L4, L5, L6, L7⟩ := cf7_ b0.out; obtain ⟨L8, L9, M0, M1, M2, M3, M4, M5⟩ := cc8_ b1.out; obtain ⟨M6, M7, M8, M9, N0, N1, N2, N3⟩ := cf8_ b1.out
   go_wp2_with (first | ((with_reducible refine gc_ 108 rfl ?_); refine gl_ (some 38) rfl Try.func108 #[.agg #[.slice A0_0 l0_0.length c0_0, .int .i64 a0_1, .int .i64 a0_2, .int .i64 a0_3, .int .i64 a0_4, .int .i64 a0_5, .int .i64 a0_6], .agg #[.int .i64 a1_0, .int .i64 a1_1, .int .i64 a1_2, .int .i64 a1_3, .slice A1_4 l1_4.length c1_4, .slice A1_5 l1_5.length c1_5, .slice A1_6 l1_6.length c1_6, .slice A1_7 l1_7.length c1_7]] ?_; (with_reducible refine (spec_l8Jobs.calls kj2 _ _ l0_0 a0_1 a0_2 a0_3 a0_4 a0_5 a0_6 a1_0 a1_1 a1_2 a1_3 _ _ l1_4 _ _ l1_5 _ _ l1_6 _ _ l1_7 false _ ?side1 ?side2 ?side3 ?side4 ?side5 ?side6 ?side7 ?side8 ?side9 ?side10 A38.out).mono ?_); (case side1 => repeat (first | exact (yac HR0_0.out HB.out) | (with_reducible refine yad ?_ _) | (with_reducible refine yae ?_ _) | (with_reducible refine yaf ?_))); (case side2 => exact HC0_0.out); (case side3 => repeat (first | exact (yac HR1_4.out HB.out) | (with_reducible refine yad ?_ _) | (with_reducible refine yae ?_ _) | (with_reducible refine yaf ?_))); (case side4 => exact HC1_4.out); (case side5 => repeat (first | exact (yac HR1_5.out HB.out) | (with_reducible refine yad ?_ _) | (with_reducible refine yae ?_ _) | (with_reducible refine yaf ?_))); (case side6 => exact HC1_5.out); (case side7 => repeat (first | exact (yac HR1_6.out HB.out) | (with_reducible refine yad ?_ _) | (with_reducible refine yae ?_ _) | (with_reducible refine yaf ?_))); (case side8 => exact HC1_6.out); (case side9 => repeat (first | exact (yac HR1_7.out HB.out) | (with_reducible refine yad ?_ _) | (with_reducible refine yae ?_ _) | (with_reducible refine yaf ?_))); (case side10 => exact HC1_7.out); rintro e w62 ⟨rfl, hb⟩; refine ⟨_, rfl, ?_⟩; replace b0 := yaa (yai (upB b0.out) hb); replace b1 := yaa (yai (upB b1.out) hb); replace HB := yaa (below_step (by repeat (with_reducible first | exact HB.out | apply yag | apply yab | apply yah | refine yaj ?_ (Aside0.out ‹_›))) hb); (try clear hb)))
   go_ret
   exact ⟨by first | rfl | (simp [*, errW_none, errW_some] <;> rfl), by repeat (with_reducible first | exact HB.out | apply yag | apply yab | apply yah | refine yaj ?_ (Aside0.out ‹_›))⟩
end
section
open Go.Proofs.YtgpkkkmapgnhkaaW.PrintWords.Aside0 renaming mk → yaa
open Go.Proofs.Ytgpkkkmapgnhkaa.X renaming rd_T63 → yab, rd_T24 → yac
open Go.Proofs.YtgpkkkmapgnhkaaW.PrintWords.Kd renaming C_below → yad, C_alloc → yae, C_drewN → yaf
abbrev q57_0 : Array Bool := Array.replicate 22 false
abbrev q57_1 : Array Bool := bl_ 22 1
abbrev q57_2 : Array Bool := bl_ 22 3
abbrev q57_3 : Array Bool := bl_ 22 7
abbrev q57_4 : Array Bool := bl_ 22 23
abbrev q57_5 : Array Bool := bl_ 22 55
abbrev q57_6 : Array Bool := bl_ 22 119
abbrev q57_7 : Array Bool := bl_ 22 127
abbrev q57_8 : Array Bool := bl_ 22 255
abbrev q57_9 : Array Bool := bl_ 22 511
abbrev q57_10 : Array Bool := bl_ 22 1023
abbrev q57_11 : Array Bool := bl_ 22 2047
abbrev q57_12 : Array Bool := bl_ 22 4095
abbrev q57_13 : Array Bool := bl_ 22 8191
abbrev q57_14 : Array Bool := bl_ 22 16383
abbrev q57_15 : Array Bool := bl_ 22 32767
abbrev q57_16 : Array Bool := bl_ 22 98303
abbrev q57_17 : Array Bool := bl_ 22 229375
abbrev q57_18 : Array Bool := bl_ 22 491519
abbrev q57_19 : Array Bool := bl_ 22 524287
abbrev q57_20 : Array Bool := bl_ 22 1048575
abbrev q57_21 : Array Bool := bl_ 22 2097151
abbrev q57_22 : Array Bool := bl_ 22 4194303
abbrev q57_23 : Array Bool := bl_ 22 65535
abbrev q57_24 : Array Bool := bl_ 22 131071
abbrev q57_25 : Array Bool := bl_ 22 262143
mutual
def spec_HouOk.j0 : Nat → List (S24) → List (S63) → Bool → Option (Bool)
 | 0, _, _, _ => none
 | k + 1, x0, x1, x13 => if x13 = true then (some false) else (spec_HouOk.l0 k x0 x1 0)
def spec_HouOk.l0 : Nat → List (S24) → List (S63) → Int → Option (Bool)
 | 0, _, _, _ => none
 | k + 1, x0, x1, x5 => if x5 < 3 then (if 0 ≤ x5 then (if x5 < (x0.length : Int) then (if x5 < (x1.length : Int) then ((spec_TenOk.f k ((rd_T24 x0 x5).f0) ((rd_T24 x0 x5).f1) ((rd_T24 x0 x5).f2) ((rd_T24 x0 x5).f3) ((rd_T24 x0 x5).f4) ((rd_T24 x0 x5).f5) ((rd_T24 x0 x5).f6) ((rd_T63 x1 x5).f0) ((rd_T63 x1 x5).f1) ((rd_T63 x1 x5).f2) ((rd_T63 x1 x5).f3) ((rd_T63 x1 x5).f4) ((rd_T63 x1 x5).f5) ((rd_T63 x1 x5).f6) ((rd_T63 x1 x5).f7)).bind fun t103 => (if t103 = true then (if 0 < (x1.length : Int) then (if ((rd_T63 x1 x5).f0) = ((rd_T63 x1 0).f0) then (spec_HouOk.l0 k x0 x1 (wrap64 (x5 + 1))) else (some false)) else (none)) else (some false))) else (none)) else (none)) else (none)) else (some true)
end
def spec_HouOk.f (k : Nat) (l0 : List (S24)) (l1 : List (S63)) : Option (Bool) := if (l0.length : Int) = 3 then (spec_HouOk.j0 k l0 l1 ((l1.length : Int) != 3)) else (spec_HouOk.j0 k l0 l1 true)
def spec_HouOk.T6 : Bool × List (List Nat × List Nat) := (true, [([], []), ([], []), ([0, 1], [0, 1]), ([2], [2]), ([], []), ([], []), ([4, 5], [4, 5]), ([6], [6]), ([3, 7], [3, 7]), ([8], [8]), ([9, 8], [9]), ([10], [10]), ([10], [10]), ([11, 12, 10], [10, 11, 12]), ([13, 10], [10, 13]), ([14, 10], [10, 14]), ([10], [10]), ([16, 10], [10, 16]), ([17, 10], [10, 17]), ([18, 10], [10, 18]), ([15, 19, 10], [10, 15, 19]), ([10, 20], [10, 20])])
def spec_HouOk.B6 : List Nat := [0, 0, 3, 7, 0, 0, 48, 112, 255, 511, 1023, 2047, 2047, 8191, 16383, 32767, 2047, 67583, 198655, 460799, 1048575, 2097151]
theorem spec_HouOk.tab6 : rtab .any (opsOf Try.f57 6) = spec_HouOk.T6 := by kernel_rfl
theorem spec_HouOk.bits6 : waitsOk spec_HouOk.T6.2 spec_HouOk.B6 = true := by kernel_rfl
set_option maxHeartbeats 8000000 in
set_option maxRecDepth 100000 in
theorem spec_HouOk.calls (k : Nat) (A0 : Option Addr) (c0 : Nat) (l0 : List (S24)) (A1 : Option Addr) (c1 : Nat) (l1 : List (S63)) (r : Bool) (w : World) (hr0 : Kd.C k24 w A0 l0.length l0) (hc0 : l0.length ≤ c0) (hr1 : Kd.C k63 w A1 l1.length l1) (hc1 : l1.length ≤ c1) (h : spec_HouOk.f k l0 l1 = some r) :
  Calls Try.prog 57 #[.slice A0 l0.length c0, .slice A1 l1.length c1] w fun e w' => e = .returned (.bool r) ∧ Below w.heap.size w w' := by
 have hu24 := Try.underlying24; have hu63 := Try.underlying63; have HR0 := yaa hr0; have HC0 := yaa hc0; clear hr0 hc0; have HR1 := yaa hr1; have HC1 := yaa hc1; clear hr1 hc1; have HB := yaa (Below.refl w.heap.size w); have H : (if (l0.length : Int) = 3 then (spec_HouOk.j0 k l0 l1 ((l1.length : Int) != 3)) else (spec_HouOk.j0 k l0 l1 true)) = some r := h; clear h; have HC3 := yaa H; clear H
 go_enter Try.func57, Try.ntmps57
 go_upto_region 1 with (fail)
 go_cut [13] (fun v13 wc => ∃ (kq : Nat) (l2 : Bool), v13 = .bool l2 ∧ Aside0 (spec_HouOk.j0 kq l0 l1 l2 = some r) ∧ Aside0 (kq ≤ k) ∧ Aside0 (Below w.heap.size w wc))
 case first =>
  have H := HC3.out; clear HC3
  by_cases c4 : (l0.length : Int) = 3
  ·
   rw [if_pos c4] at H
   have j2 := beq_iff_eq.mpr c4; have l5 := bne_eq_false_iff_eq.mpr c4; clear c4
   (first | rw [j2] | (simp only [i64_w, i32_w]; rw [j2]) | skip)
   have H' := yaa H; clear H
   go_wp2
   go_meet
   case rel => exact ⟨_, (((l1.length : Int) != 3)), (by first | rfl | (simp; done) | (simp [*]; done)), H', ⟨by first | omega | exact Nat.le_refl _⟩, ⟨upH HB.out⟩⟩
  rw [if_neg c4] at H
  have j2 := beq_eq_false_iff_ne.mpr c4; have l5 := bne_iff_ne.mpr c4
  (first | rw [j2] | (simp only [i64_w, i32_w]; rw [j2]) | skip)
  have H' := yaa H; clear H
  go_wp2
  go_meet
  case rel => exact ⟨_, (true), (by first | rfl | (simp; done) | (simp [*]; done)), H', ⟨by first | omega | exact Nat.le_refl _⟩, ⟨upH HB.out⟩⟩
 case rest =>
  clear HC3; (try clear c1); (try clear p2); (try clear c4); (try clear j2); (try clear l5); obtain ⟨kq, l2, rfl, HA, HJ2, HB⟩ := hcut
  cases kq with
  | zero => exact absurd HA.out (by simp [spec_HouOk.j0])
  | succ kj2 =>
   have H := HA.out; clear HA
   simp only [spec_HouOk.j0] at H
   by_cases c5 : l2 = true
   ·
    subst c5
    rw [if_pos rfl] at H
    obtain rfl := Option.some.inj H
    go_wp2
    go_ret
    exact ⟨by first | rfl | (simp [*, errW_none, errW_some] <;> rfl), upH HB.out⟩
   replace c5 := Bool.eq_false_iff.mpr c5
   subst c5
   rw [if_neg (show ¬ (false = true) by decide)] at H
   have H' := yaa H; clear H
   go_wp2
   (try simp only [Act.put, List.setIfInBounds_toArray, List.set_cons_zero, List.set_cons_succ])
   go_loopg [5] kj2 (fun kq v5 w' => ∃ (a2 : Int), v5 = .int .i64 a2 ∧ Aside0 (spec_HouOk.l0 kq l0 l1 a2 = some r) ∧ Aside0 (kq ≤ kj2) ∧ Aside0 (Below w.heap.size w w'))
   case atStart => exact ⟨(0), (by first | rfl | (simp; done) | (simp [*]; done)), H', ⟨Nat.le_refl _⟩, ⟨upH HB.out⟩⟩
   case round =>
    clear H'; (try clear c1); (try clear p2); (try clear c4); (try clear j2); (try clear l5); (try clear c5); (try clear p2); obtain ⟨a2, rfl, HA, HK2, HB⟩ := hrel
    cases gk with
    | zero => exact absurd HA.out (by simp [spec_HouOk.l0])
    | succ k2 =>
     have H := HA.out; clear HA
     simp only [spec_HouOk.l0] at H
     by_cases c6 : a2 < 3
     rotate_left
     ·
      rw [if_neg c6] at H
      have m0 : decide (a2 < 3) = false := decide_eq_false c6; clear c6; obtain rfl := Option.some.inj H
      go_wp2
      go_ret
      exact ⟨by first | rfl | (simp [*, errW_none, errW_some] <;> rfl), upH HB.out⟩
     rw [if_pos c6] at H
     have m0 : decide (a2 < 3) = true := decide_eq_true c6; clear c6
     by_cases c7 : 0 ≤ a2
     rotate_left
     ·
      rw [if_neg c7] at H
      exact absurd H (by simp)
     rw [if_pos c7] at H
     replace c7 := decide_eq_true c7
     by_cases c8 : a2 < (l0.length : Int)
     rotate_left
     ·
      rw [if_neg c8] at H
      exact absurd H (by simp)
     rw [if_pos c8] at H
     replace c8 := decide_eq_true c8
     by_cases c9 : a2 < (l1.length : Int)
     rotate_left
     ·
      rw [if_neg c9] at H
      exact absurd H (by simp)
     rw [if_pos c9] at H
     replace c9 := decide_eq_true c9; obtain ⟨m1, A10, H⟩ := bindA H; (try dsimp only at H)
     by_cases c11 : m1 = true
     rotate_left
     ·
      replace c11 := Bool.eq_false_iff.mpr c11
      subst c11
      rw [if_neg (show ¬ (false = true) by decide)] at H
      obtain rfl := Option.some.inj H
      try go_wp2
      replace HB := yaa (below_drew1 HB.out); have p101 : 0 ≤ (a2 : Int) := of_decide_eq_true (by assumption); have q101 : a2 < (l0.length : Int) := of_decide_eq_true (by assumption); obtain ⟨ad101, h3, h4, l3, b1, b2, b3, b4, b5, b6, b7, hl101_0, hi101_0⟩ := at_T24 HR0.out a2 p101 q101; have f8 := b7; have f9 := b6; have g0 := b5; have g1 := b4; have g2 := b3; have g3 := b2; have g4 := b1
      cases l3
      replace b1 := (upc_ HB.out b1 :); replace b2 := (upc_ HB.out b2 :); replace b3 := (upc_ HB.out b3 :); replace b4 := (upc_ HB.out b4 :); replace b5 := (upc_ HB.out b5 :); replace b6 := (upc_ HB.out b6 :); replace b7 := (upc_ HB.out b7 :); have HR101_0 := yaa hi101_0; have HC101_0 := yaa hl101_0; clear hi101_0 hl101_0; replace p101 := eq_true p101; replace q101 := eq_true q101; have p102 : 0 ≤ (a2 : Int) := of_decide_eq_true (by assumption); have q102 : a2 < (l1.length : Int) := of_decide_eq_true (by assumption); obtain ⟨ad102, h5, h6, h7, h8, h9, i0, i1, i2, l4, b8, b9, c2, c3, d0, d1, d2, d3, hl102_4, hi102_4, hl102_5, hi102_5, hl102_6, hi102_6, hl102_7, hi102_7⟩ := at_T63 HR1.out a2 p102 q102; have g5 := d3; have g6 := d2; have g7 := d1; have g8 := d0; have g9 := c3; have h0 := c2; have h1 := b9; have h2 := b8
      cases l4
      replace b8 := (upc_ HB.out b8 :); replace b9 := (upc_ HB.out b9 :); replace c2 := (upc_ HB.out c2 :); replace c3 := (upc_ HB.out c3 :); replace d0 := (upc_ HB.out d0 :); replace d1 := (upc_ HB.out d1 :); replace d2 := (upc_ HB.out d2 :); replace d3 := (upc_ HB.out d3 :); have HR102_4 := yaa hi102_4; have HC102_4 := yaa hl102_4; clear hi102_4 hl102_4; have HR102_5 := yaa hi102_5; have HC102_5 := yaa hl102_5; clear hi102_5 hl102_5; have HR102_6 := yaa hi102_6; have HC102_6 := yaa hl102_6; clear hi102_6 hl102_6; have HR102_7 := yaa hi102_7; have HC102_7 := yaa hl102_7; clear hi102_7 hl102_7; replace p102 := eq_true p102; replace q102 := eq_true q102
      refine start_ (n := 22) (S := fun w' => w'.cell? (ad101.add ((a2).toNat * 7)) = some (.slice h3 ((yac l0 a2).f0).length h4) ∧ w'.cell? ⟨(ad101.add ((a2).toNat * 7)).block, (ad101.add ((a2).toNat * 7)).off + 1, none⟩ = some (.int .i64 ((yac l0 a2).f1)) ∧ w'.cell? ⟨(ad101.add ((a2).toNat * 7)).block, (ad101.add ((a2).toNat * 7)).off + 2, none⟩ = some (.int .i64 ((yac l0 a2).f2)) ∧ w'.cell? ⟨(ad101.add ((a2).toNat * 7)).block, (ad101.add ((a2).toNat * 7)).off + 3, none⟩ = some (.int .i64 ((yac l0 a2).f3)) ∧ w'.cell? ⟨(ad101.add ((a2).toNat * 7)).block, (ad101.add ((a2).toNat * 7)).off + 4, none⟩ = some (.int .i64 ((yac l0 a2).f4)) ∧ w'.cell? ⟨(ad101.add ((a2).toNat * 7)).block, (ad101.add ((a2).toNat * 7)).off + 5, none⟩ = some (.int .i64 ((yac l0 a2).f5)) ∧ w'.cell? ⟨(ad101.add ((a2).toNat * 7)).block, (ad101.add ((a2).toNat * 7)).off + 6, none⟩ = some (.int .i64 ((yac l0 a2).f6)) ∧ w'.cell? (ad102.add ((a2).toNat * 8)) = some (.int .i64 ((yab l1 a2).f0)) ∧ w'.cell? ⟨(ad102.add ((a2).toNat * 8)).block, (ad102.add ((a2).toNat * 8)).off + 1, none⟩ = some (.int .i64 ((yab l1 a2).f1)) ∧ w'.cell? ⟨(ad102.add ((a2).toNat * 8)).block, (ad102.add ((a2).toNat * 8)).off + 2, none⟩ = some (.int .i64 ((yab l1 a2).f2)) ∧ w'.cell? ⟨(ad102.add ((a2).toNat * 8)).block, (ad102.add ((a2).toNat * 8)).off + 3, none⟩ = some (.int .i64 ((yab l1 a2).f3)) ∧ w'.cell? ⟨(ad102.add ((a2).toNat * 8)).block, (ad102.add ((a2).toNat * 8)).off + 4, none⟩ = some (.slice h5 ((yab l1 a2).f4).length h6) ∧ w'.cell? ⟨(ad102.add ((a2).toNat * 8)).block, (ad102.add ((a2).toNat * 8)).off + 5, none⟩ = some (.slice h7 ((yab l1 a2).f5).length h8) ∧ w'.cell? ⟨(ad102.add ((a2).toNat * 8)).block, (ad102.add ((a2).toNat * 8)).off + 6, none⟩ = some (.slice h9 ((yab l1 a2).f6).length i0) ∧ w'.cell? ⟨(ad102.add ((a2).toNat * 8)).block, (ad102.add ((a2).toNat * 8)).off + 7, none⟩ = some (.slice i1 ((yab l1 a2).f7).length i2)) (ds := []) q57_0 (by kernel_rfl) rfl rfl ⟨(upc_ HB.out g4 :), (upc_ HB.out g3 :), (upc_ HB.out g2 :), (upc_ HB.out g1 :), (upc_ HB.out g0 :), (upc_ HB.out f9 :), (upc_ HB.out f8 :), (upc_ HB.out h2 :), (upc_ HB.out h1 :), (upc_ HB.out h0 :), (upc_ HB.out g9 :), (upc_ HB.out g8 :), (upc_ HB.out g7 :), (upc_ HB.out g6 :), (upc_ HB.out g5 :)⟩ (fun hHeld => ?_); refine with_tabW spec_HouOk.tab6 spec_HouOk.bits6 (fun HT_ HW_ => ?_)
      generalize wr.drew = w18 at HB HR101_0 HR102_4 HR102_5 HR102_6 HR102_7 b1 b2 b3 b4 b5 b6 b7 b8 b9 c2 c3 d0 d1 d2 d3 hHeld ⊢
      refine pz_ 0 18 q57_1 HT_ (by kernel_rfl) ?_
      refine pz_ 1 19 q57_2 HT_ (by kernel_rfl) ?_
      refine pz_ 2 20 q57_3 HT_ (by kernel_rfl) ?_
      refine pz_ 4 22 q57_4 HT_ (by kernel_rfl) ?_
      refine pz_ 5 23 q57_5 HT_ (by kernel_rfl) ?_
      refine pz_ 6 24 q57_6 HT_ (by kernel_rfl) ?_
      refine tz_ 3 21 q57_7 HT_ HW_ (by kernel_rfl) hHeld ?_
      refine tz_ 7 25 q57_8 HT_ HW_ (by kernel_rfl) hHeld ?_
      refine one_ (i := 8) (N := some 26) q57_9 rfl rfl (one_of HT_.out (by kernel_rfl)) (by decide) (fun K hK => ?_)
      refine goes_ Try.func54 (by kernel_rfl) rfl #[.agg #[.slice h3 ((yac l0 a2).f0).length h4, .int .i64 ((yac l0 a2).f1), .int .i64 ((yac l0 a2).f2), .int .i64 ((yac l0 a2).f3), .int .i64 ((yac l0 a2).f4), .int .i64 ((yac l0 a2).f5), .int .i64 ((yac l0 a2).f6)], .agg #[.int .i64 ((yab l1 a2).f0), .int .i64 ((yab l1 a2).f1), .int .i64 ((yab l1 a2).f2), .int .i64 ((yab l1 a2).f3), .slice h5 ((yab l1 a2).f4).length h6, .slice h7 ((yab l1 a2).f5).length h8, .slice h9 ((yab l1 a2).f6).length i0, .slice i1 ((yab l1 a2).f7).length i2]] (by rfl) rfl rfl (by (try simp only [List.map_toArray, List.map_cons, List.map_nil]); first | done | rfl | (simp only [List.length_drop, List.length_take]; rfl)) ?_
      with_reducible refine (spec_TenOk.calls k2 _ _ ((yac l0 a2).f0) ((yac l0 a2).f1) ((yac l0 a2).f2) ((yac l0 a2).f3) ((yac l0 a2).f4) ((yac l0 a2).f5) ((yac l0 a2).f6) ((yab l1 a2).f0) ((yab l1 a2).f1) ((yab l1 a2).f2) ((yab l1 a2).f3) _ _ ((yab l1 a2).f4) _ _ ((yab l1 a2).f5) _ _ ((yab l1 a2).f6) _ _ ((yab l1 a2).f7) false _ ?side1 ?side2 ?side3 ?side4 ?side5 ?side6 ?side7 ?side8 ?side9 ?side10 A10.out).mono ?_
      (case side1 => repeat (first | exact (yad HR101_0.out HB.out) | (with_reducible refine yae ?_ _) | (with_reducible refine yaf ?_ _) | (with_reducible refine Kd.C_drew ?_)))
      (case side2 => exact HC101_0.out)
      (case side3 => repeat (first | exact (yad HR102_4.out HB.out) | (with_reducible refine yae ?_ _) | (with_reducible refine yaf ?_ _) | (with_reducible refine Kd.C_drew ?_)))
      (case side4 => exact HC102_4.out)
      (case side5 => repeat (first | exact (yad HR102_5.out HB.out) | (with_reducible refine yae ?_ _) | (with_reducible refine yaf ?_ _) | (with_reducible refine Kd.C_drew ?_)))
      (case side6 => exact HC102_5.out)
      (case side7 => repeat (first | exact (yad HR102_6.out HB.out) | (with_reducible refine yae ?_ _) | (with_reducible refine yaf ?_ _) | (with_reducible refine Kd.C_drew ?_)))
      (case side8 => exact HC102_6.out)
      (case side9 => repeat (first | exact (yad HR102_7.out HB.out) | (with_reducible refine yae ?_ _) | (with_reducible refine yaf ?_ _) | (with_reducible refine Kd.C_drew ?_)))
      (case side10 => exact HC102_7.out)
      rintro e w19 ⟨rfl, hb⟩; refine ⟨_, rfl, ?_⟩; replace HB := yaa (below_step (upH HB.out) hb); (try clear hb); (try clear hb2); (try clear hk); (try clear hi)
      refine hK.out _ _ ⟨(upc_ HB.out g4 :), (upc_ HB.out g3 :), (upc_ HB.out g2 :), (upc_ HB.out g1 :), (upc_ HB.out g0 :), (upc_ HB.out f9 :), (upc_ HB.out f8 :), (upc_ HB.out h2 :), (upc_ HB.out h1 :), (upc_ HB.out h0 :), (upc_ HB.out g9 :), (upc_ HB.out g8 :), (upc_ HB.out g7 :), (upc_ HB.out g6 :), (upc_ HB.out g5 :)⟩ (fun hHeld => ?_)
      clear hK K
      refine norm_ (a' := ?_) ?_ ?_
      rotate_left
      ·
       show Act.put _ (some 26) _ = _
       simp only [Act.put, List.setIfInBounds_toArray, List.set_cons_zero, List.set_cons_succ, i64_w, i32_w]
       rfl
      refine pz_ 9 27 q57_10 HT_ (by kernel_rfl) ?_
      refine pz_ 10 28 q57_11 HT_ (by kernel_rfl) ?_
      refine pu_ 11 29 q57_12 HT_ (by kernel_rfl) ?_
      refine pu_ 12 30 q57_13 HT_ (by kernel_rfl) ?_
      refine pu_ 13 31 q57_14 HT_ (by kernel_rfl) ?_
      refine pu_ 14 32 q57_15 HT_ (by kernel_rfl) ?_
      refine pu_ 15 33 q57_23 HT_ (by kernel_rfl) ?_
      refine pu_ 16 34 q57_24 HT_ (by kernel_rfl) ?_
      refine pu_ 17 35 q57_25 HT_ (by kernel_rfl) ?_
      refine pu_ 18 36 q57_19 HT_ (by kernel_rfl) ?_
      refine pu_ 19 37 q57_20 HT_ (by kernel_rfl) ?_
      refine pu_ 20 38 q57_21 HT_ (by kernel_rfl) ?_
      refine pz_ 21 39 q57_22 HT_ (by kernel_rfl) ?_
      refine done_ (done_of HT_.out (by kernel_rfl)) ?_
      try go_wp2
      go_ret
      exact ⟨by first | rfl | (simp [*, errW_none, errW_some] <;> rfl), upH HB.out⟩
     subst c11
     rw [if_pos rfl] at H
     by_cases c12 : 0 < (l1.length : Int)
     rotate_left
     ·
      rw [if_neg c12] at H
      exact absurd H (by simp)
     rw [if_pos c12] at H
     have m2 : decide (0 < (l1.length : Int)) = true := decide_eq_true c12; have m3 : decide (0 < l1.length) = true := decide_eq_true (by omega); clear c12
     by_cases c13 : ((yab l1 a2).f0) = ((yab l1 0).f0)
     ·
      rw [if_pos c13] at H
      have l8 := beq_iff_eq.mpr c13; have l9 := bne_eq_false_iff_eq.mpr c13; clear c13; have H' := yaa H; clear H
      try go_wp2
      replace HB := yaa (below_drew1 HB.out); have p101 : 0 ≤ (a2 : Int) := of_decide_eq_true (by assumption); have q101 : a2 < (l0.length : Int) := of_decide_eq_true (by assumption); obtain ⟨ad101, h3, h4, l3, b1, b2, b3, b4, b5, b6, b7, hl101_0, hi101_0⟩ := at_T24 HR0.out a2 p101 q101; have f8 := b7; have f9 := b6; have g0 := b5; have g1 := b4; have g2 := b3; have g3 := b2; have g4 := b1
      cases l3
      replace b1 := (upc_ HB.out b1 :); replace b2 := (upc_ HB.out b2 :); replace b3 := (upc_ HB.out b3 :); replace b4 := (upc_ HB.out b4 :); replace b5 := (upc_ HB.out b5 :); replace b6 := (upc_ HB.out b6 :); replace b7 := (upc_ HB.out b7 :); have HR101_0 := yaa hi101_0; have HC101_0 := yaa hl101_0; clear hi101_0 hl101_0; replace p101 := eq_true p101; replace q101 := eq_true q101; have p102 : 0 ≤ (a2 : Int) := of_decide_eq_true (by assumption); have q102 : a2 < (l1.length : Int) := of_decide_eq_true (by assumption); obtain ⟨ad102, h5, h6, h7, h8, h9, i0, i1, i2, l4, b8, b9, c2, c3, d0, d1, d2, d3, hl102_4, hi102_4, hl102_5, hi102_5, hl102_6, hi102_6, hl102_7, hi102_7⟩ := at_T63 HR1.out a2 p102 q102; have g5 := d3; have g6 := d2; have g7 := d1; have g8 := d0; have g9 := c3; have h0 := c2; have h1 := b9; have h2 := b8
      cases l4
      replace b8 := (upc_ HB.out b8 :); replace b9 := (upc_ HB.out b9 :); replace c2 := (upc_ HB.out c2 :); replace c3 := (upc_ HB.out c3 :); replace d0 := (upc_ HB.out d0 :); replace d1 := (upc_ HB.out d1 :); replace d2 := (upc_ HB.out d2 :); replace d3 := (upc_ HB.out d3 :); have HR102_4 := yaa hi102_4; have HC102_4 := yaa hl102_4; clear hi102_4 hl102_4; have HR102_5 := yaa hi102_5; have HC102_5 := yaa hl102_5; clear hi102_5 hl102_5; have HR102_6 := yaa hi102_6; have HC102_6 := yaa hl102_6; clear hi102_6 hl102_6; have HR102_7 := yaa hi102_7; have HC102_7 := yaa hl102_7; clear hi102_7 hl102_7; replace p102 := eq_true p102; replace q102 := eq_true q102; have p104 : 0 ≤ (a2 : Int) := of_decide_eq_true (by assumption); have q104 : a2 < (l1.length : Int) := of_decide_eq_true (by assumption); obtain ⟨ad104, j3, j4, j5, j6, j7, j8, j9, k0, l6, e2, e3, e4, e5, e6, e7, e8, e9, hl104_4, hi104_4, hl104_5, hi104_5, hl104_6, hi104_6, hl104_7, hi104_7⟩ := at_T63 HR1.out a2 p104 q104; have i3 := e9; have i4 := e8; have i5 := e7; have i6 := e6; have i7 := e5; have i8 := e4; have i9 := e3; have j1 := e2; obtain rfl : ad102 = ad104 := (by injection l6); replace e2 := (upc_ HB.out e2 :); replace e3 := (upc_ HB.out e3 :); replace e4 := (upc_ HB.out e4 :); replace e5 := (upc_ HB.out e5 :); replace e6 := (upc_ HB.out e6 :); replace e7 := (upc_ HB.out e7 :); replace e8 := (upc_ HB.out e8 :); replace e9 := (upc_ HB.out e9 :); have HR104_4 := yaa hi104_4; have HC104_4 := yaa hl104_4; clear hi104_4 hl104_4; have HR104_5 := yaa hi104_5; have HC104_5 := yaa hl104_5; clear hi104_5 hl104_5; have HR104_6 := yaa hi104_6; have HC104_6 := yaa hl104_6; clear hi104_6 hl104_6; have HR104_7 := yaa hi104_7; have HC104_7 := yaa hl104_7; clear hi104_7 hl104_7; replace p104 := eq_true p104; replace q104 := eq_true q104; have p105 : 0 ≤ (0 : Int) := (by omega); have q105 : 0 < (l1.length : Int) := of_decide_eq_true (by assumption); obtain ⟨ad105, k1, k3, k4, k5, k6, k7, k8, k9, l7, a3, a4, a5, a6, a7, a8, a9, b0, hl105_4, hi105_4, hl105_5, hi105_5, hl105_6, hi105_6, hl105_7, hi105_7⟩ := at_T63 HR1.out 0 p105 q105; have d4 := b0
      (try rw [show ((0 : Int)).toNat = 0 from rfl] at d4)
      (try rw [show 0 * 8 = 0 from rfl] at d4)
      (try rw [Addr.add_zero'] at d4)
      have d5 := a9
      (try rw [show ((0 : Int)).toNat = 0 from rfl] at d5)
      (try rw [show 0 * 8 = 0 from rfl] at d5)
      (try rw [Addr.add_zero'] at d5)
      have d6 := a8
      (try rw [show ((0 : Int)).toNat = 0 from rfl] at d6)
      (try rw [show 0 * 8 = 0 from rfl] at d6)
      (try rw [Addr.add_zero'] at d6)
      have d7 := a7
      (try rw [show ((0 : Int)).toNat = 0 from rfl] at d7)
      (try rw [show 0 * 8 = 0 from rfl] at d7)
      (try rw [Addr.add_zero'] at d7)
      have d8 := a6
      (try rw [show ((0 : Int)).toNat = 0 from rfl] at d8)
      (try rw [show 0 * 8 = 0 from rfl] at d8)
      (try rw [Addr.add_zero'] at d8)
      have d9 := a5
      (try rw [show ((0 : Int)).toNat = 0 from rfl] at d9)
      (try rw [show 0 * 8 = 0 from rfl] at d9)
      (try rw [Addr.add_zero'] at d9)
      have e0 := a4
      (try rw [show ((0 : Int)).toNat = 0 from rfl] at e0)
      (try rw [show 0 * 8 = 0 from rfl] at e0)
      (try rw [Addr.add_zero'] at e0)
      have e1 := a3
      (try rw [show ((0 : Int)).toNat = 0 from rfl] at e1)
      (try rw [show 0 * 8 = 0 from rfl] at e1)
      (try rw [Addr.add_zero'] at e1)
      obtain rfl : ad102 = ad105 := (by injection l7); have qi105 : (0 < l1.length) = True := eq_true (by omega)
      (try rw [show ((0 : Int)).toNat = 0 from rfl] at a3)
      (try rw [show 0 * 8 = 0 from rfl] at a3)
      (try rw [Addr.add_zero'] at a3)
      (try rw [show ((0 : Int)).toNat = 0 from rfl] at a4)
      (try rw [show 0 * 8 = 0 from rfl] at a4)
      (try rw [Addr.add_zero'] at a4)
      (try rw [show ((0 : Int)).toNat = 0 from rfl] at a5)
      (try rw [show 0 * 8 = 0 from rfl] at a5)
      (try rw [Addr.add_zero'] at a5)
      (try rw [show ((0 : Int)).toNat = 0 from rfl] at a6)
      (try rw [show 0 * 8 = 0 from rfl] at a6)
      (try rw [Addr.add_zero'] at a6)
      (try rw [show ((0 : Int)).toNat = 0 from rfl] at a7)
      (try rw [show 0 * 8 = 0 from rfl] at a7)
      (try rw [Addr.add_zero'] at a7)
      (try rw [show ((0 : Int)).toNat = 0 from rfl] at a8)
      (try rw [show 0 * 8 = 0 from rfl] at a8)
      (try rw [Addr.add_zero'] at a8)
      (try rw [show ((0 : Int)).toNat = 0 from rfl] at a9)
      (try rw [show 0 * 8 = 0 from rfl] at a9)
      (try rw [Addr.add_zero'] at a9)
      (try rw [show ((0 : Int)).toNat = 0 from rfl] at b0)
      (try rw [show 0 * 8 = 0 from rfl] at b0)
      (try rw [Addr.add_zero'] at b0)
      replace a3 := (upc_ HB.out a3 :); replace a4 := (upc_ HB.out a4 :); replace a5 := (upc_ HB.out a5 :); replace a6 := (upc_ HB.out a6 :); replace a7 := (upc_ HB.out a7 :); replace a8 := (upc_ HB.out a8 :); replace a9 := (upc_ HB.out a9 :); replace b0 := (upc_ HB.out b0 :); have HR105_4 := yaa hi105_4; have HC105_4 := yaa hl105_4; clear hi105_4 hl105_4; have HR105_5 := yaa hi105_5; have HC105_5 := yaa hl105_5; clear hi105_5 hl105_5; have HR105_6 := yaa hi105_6; have HC105_6 := yaa hl105_6; clear hi105_6 hl105_6; have HR105_7 := yaa hi105_7; have HC105_7 := yaa hl105_7; clear hi105_7 hl105_7; replace p105 := eq_true p105; replace q105 := eq_true q105
      refine start_ (n := 22) (S := fun w' => w'.cell? (ad101.add ((a2).toNat * 7)) = some (.slice h3 ((yac l0 a2).f0).length h4) ∧ w'.cell? ⟨(ad101.add ((a2).toNat * 7)).block, (ad101.add ((a2).toNat * 7)).off + 1, none⟩ = some (.int .i64 ((yac l0 a2).f1)) ∧ w'.cell? ⟨(ad101.add ((a2).toNat * 7)).block, (ad101.add ((a2).toNat * 7)).off + 2, none⟩ = some (.int .i64 ((yac l0 a2).f2)) ∧ w'.cell? ⟨(ad101.add ((a2).toNat * 7)).block, (ad101.add ((a2).toNat * 7)).off + 3, none⟩ = some (.int .i64 ((yac l0 a2).f3)) ∧ w'.cell? ⟨(ad101.add ((a2).toNat * 7)).block, (ad101.add ((a2).toNat * 7)).off + 4, none⟩ = some (.int .i64 ((yac l0 a2).f4)) ∧ w'.cell? ⟨(ad101.add ((a2).toNat * 7)).block, (ad101.add ((a2).toNat * 7)).off + 5, none⟩ = some (.int .i64 ((yac l0 a2).f5)) ∧ w'.cell? ⟨(ad101.add ((a2).toNat * 7)).block, (ad101.add ((a2).toNat * 7)).off + 6, none⟩ = some (.int .i64 ((yac l0 a2).f6)) ∧ w'.cell? (ad102.add ((a2).toNat * 8)) = some (.int .i64 ((yab l1 a2).f0)) ∧ w'.cell? ⟨(ad102.add ((a2).toNat * 8)).block, (ad102.add ((a2).toNat * 8)).off + 1, none⟩ = some (.int .i64 ((yab l1 a2).f1)) ∧ w'.cell? ⟨(ad102.add ((a2).toNat * 8)).block, (ad102.add ((a2).toNat * 8)).off + 2, none⟩ = some (.int .i64 ((yab l1 a2).f2)) ∧ w'.cell? ⟨(ad102.add ((a2).toNat * 8)).block, (ad102.add ((a2).toNat * 8)).off + 3, none⟩ = some (.int .i64 ((yab l1 a2).f3)) ∧ w'.cell? ⟨(ad102.add ((a2).toNat * 8)).block, (ad102.add ((a2).toNat * 8)).off + 4, none⟩ = some (.slice h5 ((yab l1 a2).f4).length h6) ∧ w'.cell? ⟨(ad102.add ((a2).toNat * 8)).block, (ad102.add ((a2).toNat * 8)).off + 5, none⟩ = some (.slice h7 ((yab l1 a2).f5).length h8) ∧ w'.cell? ⟨(ad102.add ((a2).toNat * 8)).block, (ad102.add ((a2).toNat * 8)).off + 6, none⟩ = some (.slice h9 ((yab l1 a2).f6).length i0) ∧ w'.cell? ⟨(ad102.add ((a2).toNat * 8)).block, (ad102.add ((a2).toNat * 8)).off + 7, none⟩ = some (.slice i1 ((yab l1 a2).f7).length i2) ∧ w'.cell? (ad102.add ((a2).toNat * 8)) = some (.int .i64 ((yab l1 a2).f0)) ∧ w'.cell? ⟨(ad102.add ((a2).toNat * 8)).block, (ad102.add ((a2).toNat * 8)).off + 1, none⟩ = some (.int .i64 ((yab l1 a2).f1)) ∧ w'.cell? ⟨(ad102.add ((a2).toNat * 8)).block, (ad102.add ((a2).toNat * 8)).off + 2, none⟩ = some (.int .i64 ((yab l1 a2).f2)) ∧ w'.cell? ⟨(ad102.add ((a2).toNat * 8)).block, (ad102.add ((a2).toNat * 8)).off + 3, none⟩ = some (.int .i64 ((yab l1 a2).f3)) ∧ w'.cell? ⟨(ad102.add ((a2).toNat * 8)).block, (ad102.add ((a2).toNat * 8)).off + 4, none⟩ = some (.slice j3 ((yab l1 a2).f4).length j4) ∧ w'.cell? ⟨(ad102.add ((a2).toNat * 8)).block, (ad102.add ((a2).toNat * 8)).off + 5, none⟩ = some (.slice j5 ((yab l1 a2).f5).length j6) ∧ w'.cell? ⟨(ad102.add ((a2).toNat * 8)).block, (ad102.add ((a2).toNat * 8)).off + 6, none⟩ = some (.slice j7 ((yab l1 a2).f6).length j8) ∧ w'.cell? ⟨(ad102.add ((a2).toNat * 8)).block, (ad102.add ((a2).toNat * 8)).off + 7, none⟩ = some (.slice j9 ((yab l1 a2).f7).length k0) ∧ w'.cell? ad102 = some (.int .i64 ((yab l1 0).f0)) ∧ w'.cell? ⟨ad102.block, ad102.off + 1, none⟩ = some (.int .i64 ((yab l1 0).f1)) ∧ w'.cell? ⟨ad102.block, ad102.off + 2, none⟩ = some (.int .i64 ((yab l1 0).f2)) ∧ w'.cell? ⟨ad102.block, ad102.off + 3, none⟩ = some (.int .i64 ((yab l1 0).f3)) ∧ w'.cell? ⟨ad102.block, ad102.off + 4, none⟩ = some (.slice k1 ((yab l1 0).f4).length k3) ∧ w'.cell? ⟨ad102.block, ad102.off + 5, none⟩ = some (.slice k4 ((yab l1 0).f5).length k5) ∧ w'.cell? ⟨ad102.block, ad102.off + 6, none⟩ = some (.slice k6 ((yab l1 0).f6).length k7) ∧ w'.cell? ⟨ad102.block, ad102.off + 7, none⟩ = some (.slice k8 ((yab l1 0).f7).length k9)) (ds := []) q57_0 (by kernel_rfl) rfl rfl ⟨(upc_ HB.out g4 :), (upc_ HB.out g3 :), (upc_ HB.out g2 :), (upc_ HB.out g1 :), (upc_ HB.out g0 :), (upc_ HB.out f9 :), (upc_ HB.out f8 :), (upc_ HB.out h2 :), (upc_ HB.out h1 :), (upc_ HB.out h0 :), (upc_ HB.out g9 :), (upc_ HB.out g8 :), (upc_ HB.out g7 :), (upc_ HB.out g6 :), (upc_ HB.out g5 :), (upc_ HB.out j1 :), (upc_ HB.out i9 :), (upc_ HB.out i8 :), (upc_ HB.out i7 :), (upc_ HB.out i6 :), (upc_ HB.out i5 :), (upc_ HB.out i4 :), (upc_ HB.out i3 :), (upc_ HB.out e1 :), (upc_ HB.out e0 :), (upc_ HB.out d9 :), (upc_ HB.out d8 :), (upc_ HB.out d7 :), (upc_ HB.out d6 :), (upc_ HB.out d5 :), (upc_ HB.out d4 :)⟩ (fun hHeld => ?_); refine with_tabW spec_HouOk.tab6 spec_HouOk.bits6 (fun HT_ HW_ => ?_)
      generalize wr.drew = w14 at HB HR101_0 HR102_4 HR102_5 HR102_6 HR102_7 HR104_4 HR104_5 HR104_6 HR104_7 HR105_4 HR105_5 HR105_6 HR105_7 b1 b2 b3 b4 b5 b6 b7 b8 b9 c2 c3 d0 d1 d2 d3 e2 e3 e4 e5 e6 e7 e8 e9 a3 a4 a5 a6 a7 a8 a9 b0 hHeld ⊢
      refine pz_ 0 18 q57_1 HT_ (by kernel_rfl) ?_
      refine pz_ 1 19 q57_2 HT_ (by kernel_rfl) ?_
      refine pz_ 2 20 q57_3 HT_ (by kernel_rfl) ?_
      refine pz_ 4 22 q57_4 HT_ (by kernel_rfl) ?_
      refine pz_ 5 23 q57_5 HT_ (by kernel_rfl) ?_
      refine pz_ 6 24 q57_6 HT_ (by kernel_rfl) ?_
      refine tz_ 3 21 q57_7 HT_ HW_ (by kernel_rfl) hHeld ?_
      refine tz_ 7 25 q57_8 HT_ HW_ (by kernel_rfl) hHeld ?_
      refine one_ (i := 8) (N := some 26) q57_9 rfl rfl (one_of HT_.out (by kernel_rfl)) (by decide) (fun K hK => ?_)
      refine goes_ Try.func54 (by kernel_rfl) rfl #[.agg #[.slice h3 ((yac l0 a2).f0).length h4, .int .i64 ((yac l0 a2).f1), .int .i64 ((yac l0 a2).f2), .int .i64 ((yac l0 a2).f3), .int .i64 ((yac l0 a2).f4), .int .i64 ((yac l0 a2).f5), .int .i64 ((yac l0 a2).f6)], .agg #[.int .i64 ((yab l1 a2).f0), .int .i64 ((yab l1 a2).f1), .int .i64 ((yab l1 a2).f2), .int .i64 ((yab l1 a2).f3), .slice h5 ((yab l1 a2).f4).length h6, .slice h7 ((yab l1 a2).f5).length h8, .slice h9 ((yab l1 a2).f6).length i0, .slice i1 ((yab l1 a2).f7).length i2]] (by rfl) rfl rfl (by (try simp only [List.map_toArray, List.map_cons, List.map_nil]); first | done | rfl | (simp only [List.length_drop, List.length_take]; rfl)) ?_
      with_reducible refine (spec_TenOk.calls k2 _ _ ((yac l0 a2).f0) ((yac l0 a2).f1) ((yac l0 a2).f2) ((yac l0 a2).f3) ((yac l0 a2).f4) ((yac l0 a2).f5) ((yac l0 a2).f6) ((yab l1 a2).f0) ((yab l1 a2).f1) ((yab l1 a2).f2) ((yab l1 a2).f3) _ _ ((yab l1 a2).f4) _ _ ((yab l1 a2).f5) _ _ ((yab l1 a2).f6) _ _ ((yab l1 a2).f7) true _ ?side1 ?side2 ?side3 ?side4 ?side5 ?side6 ?side7 ?side8 ?side9 ?side10 A10.out).mono ?_
      (case side1 => repeat (first | exact (yad HR101_0.out HB.out) | (with_reducible refine yae ?_ _) | (with_reducible refine yaf ?_ _) | (with_reducible refine Kd.C_drew ?_)))
      (case side2 => exact HC101_0.out)
      (case side3 => repeat (first | exact (yad HR102_4.out HB.out) | (with_reducible refine yae ?_ _) | (with_reducible refine yaf ?_ _) | (with_reducible refine Kd.C_drew ?_)))
      (case side4 => exact HC102_4.out)
      (case side5 => repeat (first | exact (yad HR102_5.out HB.out) | (with_reducible refine yae ?_ _) | (with_reducible refine yaf ?_ _) | (with_reducible refine Kd.C_drew ?_)))
      (case side6 => exact HC102_5.out)
      (case side7 => repeat (first | exact (yad HR102_6.out HB.out) | (with_reducible refine yae ?_ _) | (with_reducible refine yaf ?_ _) | (with_reducible refine Kd.C_drew ?_)))
      (case side8 => exact HC102_6.out)
      (case side9 => repeat (first | exact (yad HR102_7.out HB.out) | (with_reducible refine yae ?_ _) | (with_reducible refine yaf ?_ _) | (with_reducible refine Kd.C_drew ?_)))
      (case side10 => exact HC102_7.out)
      rintro e w15 ⟨rfl, hb⟩; refine ⟨_, rfl, ?_⟩; replace HB := yaa (below_step (upH HB.out) hb); (try clear hb); (try clear hb2); (try clear hk); (try clear hi)
      refine hK.out _ _ ⟨(upc_ HB.out g4 :), (upc_ HB.out g3 :), (upc_ HB.out g2 :), (upc_ HB.out g1 :), (upc_ HB.out g0 :), (upc_ HB.out f9 :), (upc_ HB.out f8 :), (upc_ HB.out h2 :), (upc_ HB.out h1 :), (upc_ HB.out h0 :), (upc_ HB.out g9 :), (upc_ HB.out g8 :), (upc_ HB.out g7 :), (upc_ HB.out g6 :), (upc_ HB.out g5 :), (upc_ HB.out j1 :), (upc_ HB.out i9 :), (upc_ HB.out i8 :), (upc_ HB.out i7 :), (upc_ HB.out i6 :), (upc_ HB.out i5 :), (upc_ HB.out i4 :), (upc_ HB.out i3 :), (upc_ HB.out e1 :), (upc_ HB.out e0 :), (upc_ HB.out d9 :), (upc_ HB.out d8 :), (upc_ HB.out d7 :), (upc_ HB.out d6 :), (upc_ HB.out d5 :), (upc_ HB.out d4 :)⟩ (fun hHeld => ?_)
      clear hK K
      refine norm_ (a' := ?_) ?_ ?_
      rotate_left
      ·
       show Act.put _ (some 26) _ = _
       simp only [Act.put, List.setIfInBounds_toArray, List.set_cons_zero, List.set_cons_succ, i64_w, i32_w]
       rfl
      refine pz_ 9 27 q57_10 HT_ (by kernel_rfl) ?_
      refine pz_ 10 28 q57_11 HT_ (by kernel_rfl) ?_
      refine pz_ 11 29 q57_12 HT_ (by kernel_rfl) ?_
      refine pz_ 12 30 q57_13 HT_ (by kernel_rfl) ?_
      refine pz_ 13 31 q57_14 HT_ (by kernel_rfl) ?_
      refine pz_ 14 32 q57_15 HT_ (by kernel_rfl) ?_
      refine pz_ 16 34 q57_16 HT_ (by kernel_rfl) ?_
      refine pz_ 17 35 q57_17 HT_ (by kernel_rfl) ?_
      refine pz_ 18 36 q57_18 HT_ (by kernel_rfl) ?_
      refine tz_ 15 33 q57_19 HT_ HW_ (by kernel_rfl) hHeld ?_
      refine tz_ 19 37 q57_20 HT_ HW_ (by kernel_rfl) hHeld ?_
      refine pz_ 20 38 q57_21 HT_ (by kernel_rfl) ?_
      refine pz_ 21 39 q57_22 HT_ (by kernel_rfl) ?_
      refine done_ (done_of HT_.out (by kernel_rfl)) ?_
      try go_wp2
      go_roundg k2
      case measure => have := HJ2.out; have := HK2.out; omega
      case rel => exact ⟨(wrap64 (a2 + 1)), (by first | rfl | (simp; done) | (simp [*]; done)), H', ⟨by have := HJ2.out; have := HK2.out; omega⟩, ⟨upH HB.out⟩⟩
     rw [if_neg c13] at H
     have l8 := beq_eq_false_iff_ne.mpr c13; have l9 := bne_iff_ne.mpr c13; obtain rfl := Option.some.inj H
     try go_wp2
     replace HB := yaa (below_drew1 HB.out); have p101 : 0 ≤ (a2 : Int) := of_decide_eq_true (by assumption); have q101 : a2 < (l0.length : Int) := of_decide_eq_true (by assumption); obtain ⟨ad101, h3, h4, l3, b1, b2, b3, b4, b5, b6, b7, hl101_0, hi101_0⟩ := at_T24 HR0.out a2 p101 q101; have f8 := b7; have f9 := b6; have g0 := b5; have g1 := b4; have g2 := b3; have g3 := b2; have g4 := b1
     cases l3
     replace b1 := (upc_ HB.out b1 :); replace b2 := (upc_ HB.out b2 :); replace b3 := (upc_ HB.out b3 :); replace b4 := (upc_ HB.out b4 :); replace b5 := (upc_ HB.out b5 :); replace b6 := (upc_ HB.out b6 :); replace b7 := (upc_ HB.out b7 :); have HR101_0 := yaa hi101_0; have HC101_0 := yaa hl101_0; clear hi101_0 hl101_0; replace p101 := eq_true p101; replace q101 := eq_true q101; have p102 : 0 ≤ (a2 : Int) := of_decide_eq_true (by assumption); have q102 : a2 < (l1.length : Int) := of_decide_eq_true (by assumption); obtain ⟨ad102, h5, h6, h7, h8, h9, i0, i1, i2, l4, b8, b9, c2, c3, d0, d1, d2, d3, hl102_4, hi102_4, hl102_5, hi102_5, hl102_6, hi102_6, hl102_7, hi102_7⟩ := at_T63 HR1.out a2 p102 q102; have g5 := d3; have g6 := d2; have g7 := d1; have g8 := d0; have g9 := c3; have h0 := c2; have h1 := b9; have h2 := b8
     cases l4
     replace b8 := (upc_ HB.out b8 :); replace b9 := (upc_ HB.out b9 :); replace c2 := (upc_ HB.out c2 :); replace c3 := (upc_ HB.out c3 :); replace d0 := (upc_ HB.out d0 :); replace d1 := (upc_ HB.out d1 :); replace d2 := (upc_ HB.out d2 :); replace d3 := (upc_ HB.out d3 :); have HR102_4 := yaa hi102_4; have HC102_4 := yaa hl102_4; clear hi102_4 hl102_4; have HR102_5 := yaa hi102_5; have HC102_5 := yaa hl102_5; clear hi102_5 hl102_5; have HR102_6 := yaa hi102_6; have HC102_6 := yaa hl102_6; clear hi102_6 hl102_6; have HR102_7 := yaa hi102_7; have HC102_7 := yaa hl102_7; clear hi102_7 hl102_7; replace p102 := eq_true p102; replace q102 := eq_true q102; have p104 : 0 ≤ (a2 : Int) := of_decide_eq_true (by assumption); have q104 : a2 < (l1.length : Int) := of_decide_eq_true (by assumption); obtain ⟨ad104, j3, j4, j5, j6, j7, j8, j9, k0, l6, e2, e3, e4, e5, e6, e7, e8, e9, hl104_4, hi104_4, hl104_5, hi104_5, hl104_6, hi104_6, hl104_7, hi104_7⟩ := at_T63 HR1.out a2 p104 q104; have i3 := e9; have i4 := e8; have i5 := e7; have i6 := e6; have i7 := e5; have i8 := e4; have i9 := e3; have j1 := e2; obtain rfl : ad102 = ad104 := (by injection l6); replace e2 := (upc_ HB.out e2 :); replace e3 := (upc_ HB.out e3 :); replace e4 := (upc_ HB.out e4 :); replace e5 := (upc_ HB.out e5 :); replace e6 := (upc_ HB.out e6 :); replace e7 := (upc_ HB.out e7 :); replace e8 := (upc_ HB.out e8 :); replace e9 := (upc_ HB.out e9 :); have HR104_4 := yaa hi104_4; have HC104_4 := yaa hl104_4; clear hi104_4 hl104_4; have HR104_5 := yaa hi104_5; have HC104_5 := yaa hl104_5; clear hi104_5 hl104_5; have HR104_6 := yaa hi104_6; have HC104_6 := yaa hl104_6; clear hi104_6 hl104_6; have HR104_7 := yaa hi104_7; have HC104_7 := yaa hl104_7; clear hi104_7 hl104_7; replace p104 := eq_true p104; replace q104 := eq_true q104; have p105 : 0 ≤ (0 : Int) := (by omega); have q105 : 0 < (l1.length : Int) := of_decide_eq_true (by assumption); obtain ⟨ad105, k1, k3, k4, k5, k6, k7, k8, k9, l7, a3, a4, a5, a6, a7, a8, a9, b0, hl105_4, hi105_4, hl105_5, hi105_5, hl105_6, hi105_6, hl105_7, hi105_7⟩ := at_T63 HR1.out 0 p105 q105; have d4 := b0
     (try rw [show ((0 : Int)).toNat = 0 from rfl] at d4)
     (try rw [show 0 * 8 = 0 from rfl] at d4)
     (try rw [Addr.add_zero'] at d4)
     have d5 := a9
     (try rw [show ((0 : Int)).toNat = 0 from rfl] at d5)
     (try rw [show 0 * 8 = 0 from rfl] at d5)
     (try rw [Addr.add_zero'] at d5)
     have d6 := a8
     (try rw [show ((0 : Int)).toNat = 0 from rfl] at d6)
     (try rw [show 0 * 8 = 0 from rfl] at d6)
     (try rw [Addr.add_zero'] at d6)
     have d7 := a7
     (try rw [show ((0 : Int)).toNat = 0 from rfl] at d7)
     (try rw [show 0 * 8 = 0 from rfl] at d7)
     (try rw [Addr.add_zero'] at d7)
     have d8 := a6
     (try rw [show ((0 : Int)).toNat = 0 from rfl] at d8)
     (try rw [show 0 * 8 = 0 from rfl] at d8)
     (try rw [Addr.add_zero'] at d8)
     have d9 := a5
     (try rw [show ((0 : Int)).toNat = 0 from rfl] at d9)
     (try rw [show 0 * 8 = 0 from rfl] at d9)
     (try rw [Addr.add_zero'] at d9)
     have e0 := a4
     (try rw [show ((0 : Int)).toNat = 0 from rfl] at e0)
     (try rw [show 0 * 8 = 0 from rfl] at e0)
     (try rw [Addr.add_zero'] at e0)
     have e1 := a3
     (try rw [show ((0 : Int)).toNat = 0 from rfl] at e1)
     (try rw [show 0 * 8 = 0 from rfl] at e1)
     (try rw [Addr.add_zero'] at e1)
     obtain rfl : ad102 = ad105 := (by injection l7); have qi105 : (0 < l1.length) = True := eq_true (by omega)
     (try rw [show ((0 : Int)).toNat = 0 from rfl] at a3)
     (try rw [show 0 * 8 = 0 from rfl] at a3)
     (try rw [Addr.add_zero'] at a3)
     (try rw [show ((0 : Int)).toNat = 0 from rfl] at a4)
     (try rw [show 0 * 8 = 0 from rfl] at a4)
     (try rw [Addr.add_zero'] at a4)
     (try rw [show ((0 : Int)).toNat = 0 from rfl] at a5)
     (try rw [show 0 * 8 = 0 from rfl] at a5)
     (try rw [Addr.add_zero'] at a5)
     (try rw [show ((0 : Int)).toNat = 0 from rfl] at a6)
     (try rw [show 0 * 8 = 0 from rfl] at a6)
     (try rw [Addr.add_zero'] at a6)
     (try rw [show ((0 : Int)).toNat = 0 from rfl] at a7)
     (try rw [show 0 * 8 = 0 from rfl] at a7)
     (try rw [Addr.add_zero'] at a7)
     (try rw [show ((0 : Int)).toNat = 0 from rfl] at a8)
     (try rw [show 0 * 8 = 0 from rfl] at a8)
     (try rw [Addr.add_zero'] at a8)
     (try rw [show ((0 : Int)).toNat = 0 from rfl] at a9)
     (try rw [show 0 * 8 = 0 from rfl] at a9)
     (try rw [Addr.add_zero'] at a9)
     (try rw [show ((0 : Int)).toNat = 0 from rfl] at b0)
     (try rw [show 0 * 8 = 0 from rfl] at b0)
     (try rw [Addr.add_zero'] at b0)
     replace a3 := (upc_ HB.out a3 :); replace a4 := (upc_ HB.out a4 :); replace a5 := (upc_ HB.out a5 :); replace a6 := (upc_ HB.out a6 :); replace a7 := (upc_ HB.out a7 :); replace a8 := (upc_ HB.out a8 :); replace a9 := (upc_ HB.out a9 :); replace b0 := (upc_ HB.out b0 :); have HR105_4 := yaa hi105_4; have HC105_4 := yaa hl105_4; clear hi105_4 hl105_4; have HR105_5 := yaa hi105_5; have HC105_5 := yaa hl105_5; clear hi105_5 hl105_5; have HR105_6 := yaa hi105_6; have HC105_6 := yaa hl105_6; clear hi105_6 hl105_6; have HR105_7 := yaa hi105_7; have HC105_7 := yaa hl105_7; clear hi105_7 hl105_7; replace p105 := eq_true p105; replace q105 := eq_true q105
     refine start_ (n := 22) (S := fun w' => w'.cell? (ad101.add ((a2).toNat * 7)) = some (.slice h3 ((yac l0 a2).f0).length h4) ∧ w'.cell? ⟨(ad101.add ((a2).toNat * 7)).block, (ad101.add ((a2).toNat * 7)).off + 1, none⟩ = some (.int .i64 ((yac l0 a2).f1)) ∧ w'.cell? ⟨(ad101.add ((a2).toNat * 7)).block, (ad101.add ((a2).toNat * 7)).off + 2, none⟩ = some (.int .i64 ((yac l0 a2).f2)) ∧ w'.cell? ⟨(ad101.add ((a2).toNat * 7)).block, (ad101.add ((a2).toNat * 7)).off + 3, none⟩ = some (.int .i64 ((yac l0 a2).f3)) ∧ w'.cell? ⟨(ad101.add ((a2).toNat * 7)).block, (ad101.add ((a2).toNat * 7)).off + 4, none⟩ = some (.int .i64 ((yac l0 a2).f4)) ∧ w'.cell? ⟨(ad101.add ((a2).toNat * 7)).block, (ad101.add ((a2).toNat * 7)).off + 5, none⟩ = some (.int .i64 ((yac l0 a2).f5)) ∧ w'.cell? ⟨(ad101.add ((a2).toNat * 7)).block, (ad101.add ((a2).toNat * 7)).off + 6, none⟩ = some (.int .i64 ((yac l0 a2).f6)) ∧ w'.cell? (ad102.add ((a2).toNat * 8)) = some (.int .i64 ((yab l1 a2).f0)) ∧ w'.cell? ⟨(ad102.add ((a2).toNat * 8)).block, (ad102.add ((a2).toNat * 8)).off + 1, none⟩ = some (.int .i64 ((yab l1 a2).f1)) ∧ w'.cell? ⟨(ad102.add ((a2).toNat * 8)).block, (ad102.add ((a2).toNat * 8)).off + 2, none⟩ = some (.int .i64 ((yab l1 a2).f2)) ∧ w'.cell? ⟨(ad102.add ((a2).toNat * 8)).block, (ad102.add ((a2).toNat * 8)).off + 3, none⟩ = some (.int .i64 ((yab l1 a2).f3)) ∧ w'.cell? ⟨(ad102.add ((a2).toNat * 8)).block, (ad102.add ((a2).toNat * 8)).off + 4, none⟩ = some (.slice h5 ((yab l1 a2).f4).length h6) ∧ w'.cell? ⟨(ad102.add ((a2).toNat * 8)).block, (ad102.add ((a2).toNat * 8)).off + 5, none⟩ = some (.slice h7 ((yab l1 a2).f5).length h8) ∧ w'.cell? ⟨(ad102.add ((a2).toNat * 8)).block, (ad102.add ((a2).toNat * 8)).off + 6, none⟩ = some (.slice h9 ((yab l1 a2).f6).length i0) ∧ w'.cell? ⟨(ad102.add ((a2).toNat * 8)).block, (ad102.add ((a2).toNat * 8)).off + 7, none⟩ = some (.slice i1 ((yab l1 a2).f7).length i2) ∧ w'.cell? (ad102.add ((a2).toNat * 8)) = some (.int .i64 ((yab l1 a2).f0)) ∧ w'.cell? ⟨(ad102.add ((a2).toNat * 8)).block, (ad102.add ((a2).toNat * 8)).off + 1, none⟩ = some (.int .i64 ((yab l1 a2).f1)) ∧ w'.cell? ⟨(ad102.add ((a2).toNat * 8)).block, (ad102.add ((a2).toNat * 8)).off + 2, none⟩ = some (.int .i64 ((yab l1 a2).f2)) ∧ w'.cell? ⟨(ad102.add ((a2).toNat * 8)).block, (ad102.add ((a2).toNat * 8)).off + 3, none⟩ = some (.int .i64 ((yab l1 a2).f3)) ∧ w'.cell? ⟨(ad102.add ((a2).toNat * 8)).block, (ad102.add ((a2).toNat * 8)).off + 4, none⟩ = some (.slice j3 ((yab l1 a2).f4).length j4) ∧ w'.cell? ⟨(ad102.add ((a2).toNat * 8)).block, (ad102.add ((a2).toNat * 8)).off + 5, none⟩ = some (.slice j5 ((yab l1 a2).f5).length j6) ∧ w'.cell? ⟨(ad102.add ((a2).toNat * 8)).block, (ad102.add ((a2).toNat * 8)).off + 6, none⟩ = some (.slice j7 ((yab l1 a2).f6).length j8) ∧ w'.cell? ⟨(ad102.add ((a2).toNat * 8)).block, (ad102.add ((a2).toNat * 8)).off + 7, none⟩ = some (.slice j9 ((yab l1 a2).f7).length k0) ∧ w'.cell? ad102 = some (.int .i64 ((yab l1 0).f0)) ∧ w'.cell? ⟨ad102.block, ad102.off + 1, none⟩ = some (.int .i64 ((yab l1 0).f1)) ∧ w'.cell? ⟨ad102.block, ad102.off + 2, none⟩ = some (.int .i64 ((yab l1 0).f2)) ∧ w'.cell? ⟨ad102.block, ad102.off + 3, none⟩ = some (.int .i64 ((yab l1 0).f3)) ∧ w'.cell? ⟨ad102.block, ad102.off + 4, none⟩ = some (.slice k1 ((yab l1 0).f4).length k3) ∧ w'.cell? ⟨ad102.block, ad102.off + 5, none⟩ = some (.slice k4 ((yab l1 0).f5).length k5) ∧ w'.cell? ⟨ad102.block, ad102.off + 6, none⟩ = some (.slice k6 ((yab l1 0).f6).length k7) ∧ w'.cell? ⟨ad102.block, ad102.off + 7, none⟩ = some (.slice k8 ((yab l1 0).f7).length k9)) (ds := []) q57_0 (by kernel_rfl) rfl rfl ⟨(upc_ HB.out g4 :), (upc_ HB.out g3 :), (upc_ HB.out g2 :), (upc_ HB.out g1 :), (upc_ HB.out g0 :), (upc_ HB.out f9 :), (upc_ HB.out f8 :), (upc_ HB.out h2 :), (upc_ HB.out h1 :), (upc_ HB.out h0 :), (upc_ HB.out g9 :), (upc_ HB.out g8 :), (upc_ HB.out g7 :), (upc_ HB.out g6 :), (upc_ HB.out g5 :), (upc_ HB.out j1 :), (upc_ HB.out i9 :), (upc_ HB.out i8 :), (upc_ HB.out i7 :), (upc_ HB.out i6 :), (upc_ HB.out i5 :), (upc_ HB.out i4 :), (upc_ HB.out i3 :), (upc_ HB.out e1 :), (upc_ HB.out e0 :), (upc_ HB.out d9 :), (upc_ HB.out d8 :), (upc_ HB.out d7 :), (upc_ HB.out d6 :), (upc_ HB.out d5 :), (upc_ HB.out d4 :)⟩ (fun hHeld => ?_); refine with_tabW spec_HouOk.tab6 spec_HouOk.bits6 (fun HT_ HW_ => ?_)
     generalize wr.drew = w16 at HB HR101_0 HR102_4 HR102_5 HR102_6 HR102_7 HR104_4 HR104_5 HR104_6 HR104_7 HR105_4 HR105_5 HR105_6 HR105_7 b1 b2 b3 b4 b5 b6 b7 b8 b9 c2 c3 d0 d1 d2 d3 e2 e3 e4 e5 e6 e7 e8 e9 a3 a4 a5 a6 a7 a8 a9 b0 hHeld ⊢
     refine pz_ 0 18 q57_1 HT_ (by kernel_rfl) ?_
     refine pz_ 1 19 q57_2 HT_ (by kernel_rfl) ?_
     refine pz_ 2 20 q57_3 HT_ (by kernel_rfl) ?_
     refine pz_ 4 22 q57_4 HT_ (by kernel_rfl) ?_
     refine pz_ 5 23 q57_5 HT_ (by kernel_rfl) ?_
     refine pz_ 6 24 q57_6 HT_ (by kernel_rfl) ?_
     refine tz_ 3 21 q57_7 HT_ HW_ (by kernel_rfl) hHeld ?_
     refine tz_ 7 25 q57_8 HT_ HW_ (by kernel_rfl) hHeld ?_
     refine one_ (i := 8) (N := some 26) q57_9 rfl rfl (one_of HT_.out (by kernel_rfl)) (by decide) (fun K hK => ?_)
     refine goes_ Try.func54 (by kernel_rfl) rfl #[.agg #[.slice h3 ((yac l0 a2).f0).length h4, .int .i64 ((yac l0 a2).f1), .int .i64 ((yac l0 a2).f2), .int .i64 ((yac l0 a2).f3), .int .i64 ((yac l0 a2).f4), .int .i64 ((yac l0 a2).f5), .int .i64 ((yac l0 a2).f6)], .agg #[.int .i64 ((yab l1 a2).f0), .int .i64 ((yab l1 a2).f1), .int .i64 ((yab l1 a2).f2), .int .i64 ((yab l1 a2).f3), .slice h5 ((yab l1 a2).f4).length h6, .slice h7 ((yab l1 a2).f5).length h8, .slice h9 ((yab l1 a2).f6).length i0, .slice i1 ((yab l1 a2).f7).length i2]] (by rfl) rfl rfl (by (try simp only [List.map_toArray, List.map_cons, List.map_nil]); first | done | rfl | (simp only [List.length_drop, List.length_take]; rfl)) ?_
     with_reducible refine (spec_TenOk.calls k2 _ _ ((yac l0 a2).f0) ((yac l0 a2).f1) ((yac l0 a2).f2) ((yac l0 a2).f3) ((yac l0 a2).f4) ((yac l0 a2).f5) ((yac l0 a2).f6) ((yab l1 a2).f0) ((yab l1 a2).f1) ((yab l1 a2).f2) ((yab l1 a2).f3) _ _ ((yab l1 a2).f4) _ _ ((yab l1 a2).f5) _ _ ((yab l1 a2).f6) _ _ ((yab l1 a2).f7) true _ ?side1 ?side2 ?side3 ?side4 ?side5 ?side6 ?side7 ?side8 ?side9 ?side10 A10.out).mono ?_
     (case side1 => repeat (first | exact (yad HR101_0.out HB.out) | (with_reducible refine yae ?_ _) | (with_reducible refine yaf ?_ _) | (with_reducible refine Kd.C_drew ?_)))
     (case side2 => exact HC101_0.out)
     (case side3 => repeat (first | exact (yad HR102_4.out HB.out) | (with_reducible refine yae ?_ _) | (with_reducible refine yaf ?_ _) | (with_reducible refine Kd.C_drew ?_)))
     (case side4 => exact HC102_4.out)
     (case side5 => repeat (first | exact (yad HR102_5.out HB.out) | (with_reducible refine yae ?_ _) | (with_reducible refine yaf ?_ _) | (with_reducible refine Kd.C_drew ?_)))
     (case side6 => exact HC102_5.out)
     (case side7 => repeat (first | exact (yad HR102_6.out HB.out) | (with_reducible refine yae ?_ _) | (with_reducible refine yaf ?_ _) | (with_reducible refine Kd.C_drew ?_)))
     (case side8 => exact HC102_6.out)
     (case side9 => repeat (first | exact (yad HR102_7.out HB.out) | (with_reducible refine yae ?_ _) | (with_reducible refine yaf ?_ _) | (with_reducible refine Kd.C_drew ?_)))
     (case side10 => exact HC102_7.out)
     rintro e w17 ⟨rfl, hb⟩; refine ⟨_, rfl, ?_⟩; replace HB := yaa (below_step (upH HB.out) hb); (try clear hb); (try clear hb2); (try clear hk); (try clear hi)
     refine hK.out _ _ ⟨(upc_ HB.out g4 :), (upc_ HB.out g3 :), (upc_ HB.out g2 :), (upc_ HB.out g1 :), (upc_ HB.out g0 :), (upc_ HB.out f9 :), (upc_ HB.out f8 :), (upc_ HB.out h2 :), (upc_ HB.out h1 :), (upc_ HB.out h0 :), (upc_ HB.out g9 :), (upc_ HB.out g8 :), (upc_ HB.out g7 :), (upc_ HB.out g6 :), (upc_ HB.out g5 :), (upc_ HB.out j1 :), (upc_ HB.out i9 :), (upc_ HB.out i8 :), (upc_ HB.out i7 :), (upc_ HB.out i6 :), (upc_ HB.out i5 :), (upc_ HB.out i4 :), (upc_ HB.out i3 :), (upc_ HB.out e1 :), (upc_ HB.out e0 :), (upc_ HB.out d9 :), (upc_ HB.out d8 :), (upc_ HB.out d7 :), (upc_ HB.out d6 :), (upc_ HB.out d5 :), (upc_ HB.out d4 :)⟩ (fun hHeld => ?_)
     clear hK K
     refine norm_ (a' := ?_) ?_ ?_
     rotate_left
     ·
      show Act.put _ (some 26) _ = _
      simp only [Act.put, List.setIfInBounds_toArray, List.set_cons_zero, List.set_cons_succ, i64_w, i32_w]
      rfl
     refine pz_ 9 27 q57_10 HT_ (by kernel_rfl) ?_
     refine pz_ 10 28 q57_11 HT_ (by kernel_rfl) ?_
     refine pz_ 11 29 q57_12 HT_ (by kernel_rfl) ?_
     refine pz_ 12 30 q57_13 HT_ (by kernel_rfl) ?_
     refine pz_ 13 31 q57_14 HT_ (by kernel_rfl) ?_
     refine pz_ 14 32 q57_15 HT_ (by kernel_rfl) ?_
     refine pz_ 16 34 q57_16 HT_ (by kernel_rfl) ?_
     refine pz_ 17 35 q57_17 HT_ (by kernel_rfl) ?_
     refine pz_ 18 36 q57_18 HT_ (by kernel_rfl) ?_
     refine tz_ 15 33 q57_19 HT_ HW_ (by kernel_rfl) hHeld ?_
     refine tz_ 19 37 q57_20 HT_ HW_ (by kernel_rfl) hHeld ?_
     refine pz_ 20 38 q57_21 HT_ (by kernel_rfl) ?_
     refine pz_ 21 39 q57_22 HT_ (by kernel_rfl) ?_
     refine done_ (done_of HT_.out (by kernel_rfl)) ?_
     try go_wp2
     go_ret
     exact ⟨by first | rfl | (simp [*, errW_none, errW_some] <;> rfl), upH HB.out⟩
end
section
open Go.Proofs.YtgpkkkmapgnhkaaW.PrintWords.Aside0 renaming mk → yaa
def laws_toOpOp.f (a0_0 : Int) (a0_1 : Int) (a0_2 : Int) (a0_3 : Int) (a0_4 : Int) : Option (Int × Int × Int × Int × Int) := some (a0_0, a0_1, a0_2, a0_3, a0_4)
set_option maxHeartbeats 8000000 in
set_option maxRecDepth 100000 in
theorem laws_toOpOp.calls (a0_0 : Int) (a0_1 : Int) (a0_2 : Int) (a0_3 : Int) (a0_4 : Int) (r1 : Int) (r2 : Int) (r3 : Int) (r4 : Int) (r5 : Int) (w : World) (h : laws_toOpOp.f a0_0 a0_1 a0_2 a0_3 a0_4 = some (r1, r2, r3, r4, r5)) :
  Calls Try.prog 120 #[.agg #[.int .i64 a0_0, .int .i64 a0_1, .int .i64 a0_2, .int .i64 a0_3, .int .i64 a0_4]] w fun e w' => e = .returned (.agg #[.int .i64 r1, .int .i64 r2, .int .i64 r3, .int .i64 r4, .int .i64 r5]) ∧ Below w.heap.size w w' := by
 have hu148 := Try.underlying148; have hu146 := Try.underlying146; have HB := yaa (Below.refl w.heap.size w); have H : (some (a0_0, a0_1, a0_2, a0_3, a0_4)) = some (r1, r2, r3, r4, r5) := h; clear h
 simp only [Option.some.injEq, Prod.mk.injEq] at H
 obtain ⟨rfl, rfl, rfl, rfl, rfl⟩ := H
 go_enter Try.func120, Try.ntmps120
 go_wp2_with (first | ((with_reducible refine gd_ 1 rfl ?_); refine bx_ 1 rfl #[.int .i64 a0_0, .int .i64 a0_1, .int .i64 a0_2, .int .i64 a0_3, .int .i64 a0_4] 148 ?_; intro a9 hg w2 hbox hb; have a1 := yaa (hbox); have b2 := yaa ((by rw [hg]; exact (below_size (upH HB.out)) : w.heap.size ≤ a9)); replace HB := yaa (below_step (upH HB.out) hb); have e7 := b2; clear hb hbox hg) | ((with_reducible refine gd_ 2 rfl ?_); refine bx_ 2 rfl #[.int .i64 0, .int .i64 0, .int .i64 0, .int .i64 0, .int .i64 0] 146 ?_; intro a5 hg w3 hbox hb; have a2 := yaa (hbox); have b3 := yaa ((by rw [hg]; exact (below_size (by repeat (with_reducible first | exact HB.out | apply below_alloc | apply pw_below_drewN | apply below_drew1 | refine below_set ?_ (Aside0.out ‹_›)))) : w.heap.size ≤ a5)); replace HB := yaa (below_step (by repeat (with_reducible first | exact HB.out | apply below_alloc | apply pw_below_drewN | apply below_drew1 | refine below_set ?_ (Aside0.out ‹_›))) hb); have e8 := b3; have a3 := yaa ((by rw [hg]; exact Nat.ne_of_lt (blk_lt (upB a1.out)) : a9 ≠ a5)); replace a1 := yaa (blk_below (upB a1.out) hb); have a6 := yaa a3.out.symm; clear hb hbox hg) | ((with_reducible refine gd_ 3 rfl ?_); refine bx_ 3 rfl #[.int .i64 0, .int .i64 0, .int .i64 0, .int .i64 0, .int .i64 0] 146 ?_; intro b0 hg w4 hbox hb; have b1 := yaa (hbox); have b4 := yaa ((by rw [hg]; exact (below_size (by repeat (with_reducible first | exact HB.out | apply below_alloc | apply pw_below_drewN | apply below_drew1 | refine below_set ?_ (Aside0.out ‹_›)))) : w.heap.size ≤ b0)); replace HB := yaa (below_step (by repeat (with_reducible first | exact HB.out | apply below_alloc | apply pw_below_drewN | apply below_drew1 | refine below_set ?_ (Aside0.out ‹_›))) hb); have e9 := b4; have a4 := yaa ((by rw [hg]; exact Nat.ne_of_lt (blk_lt (upB a1.out)) : a9 ≠ b0)); replace a1 := yaa (blk_below (upB a1.out) hb); have a7 := yaa a4.out.symm; have a0 := yaa ((by rw [hg]; exact Nat.ne_of_lt (blk_lt (upB a2.out)) : a5 ≠ b0)); replace a2 := yaa (blk_below (upB a2.out) hb); have a8 := yaa a0.out.symm; clear hb hbox hg; have f0 := a3.out; have f1 := a6.out; have f2 := a4.out; have f3 := a7.out; obtain ⟨c6, c7, c8, c9, d0⟩ := cc5_ a1.out; obtain ⟨d1, d2, d3, d4, d5⟩ := cf5_ a1.out; have f4 := a8.out; have f5 := a0.out; obtain ⟨d7, d8, d9, e0, e1⟩ := cc5_ b1.out; obtain ⟨e2, e3, e4, e5, e6⟩ := cf5_ b1.out; obtain ⟨b6, b7, b8, b9, c0⟩ := cc5_ a2.out; obtain ⟨c1, c2, c3, c4⟩ := cf4_ a2.out; have c5 := blk_frozen a2.out 4))
 refine bodyPost_ret (results_cell_row rfl _ _ a5 146 #[.int .i64 a0_0, .int .i64 a0_1, .int .i64 a0_2, .int .i64 a0_3, .int .i64 a0_4] (0, 0) _ rfl (by (repeat refine oneB ?_); refine blk_put (cs := #[.int .i64 a0_0, .int .i64 a0_1, .int .i64 a0_2, .int .i64 a0_3, .int .i64 0]) ?_ 4 _ rfl; refine blk_put (cs := #[.int .i64 a0_0, .int .i64 a0_1, .int .i64 a0_2, .int .i64 0, .int .i64 0]) ?_ 3 _ rfl; refine blk_put (cs := #[.int .i64 a0_0, .int .i64 a0_1, .int .i64 0, .int .i64 0, .int .i64 0]) ?_ 2 _ rfl; refine blk_put (cs := #[.int .i64 a0_0, .int .i64 0, .int .i64 0, .int .i64 0, .int .i64 0]) ?_ 1 _ rfl; refine blk_put (cs := #[.int .i64 0, .int .i64 0, .int .i64 0, .int .i64 0, .int .i64 0]) ?_ 0 _ rfl; (repeat refine oneB ?_); refine blk_far ?_ a0.out _; (repeat refine oneB ?_); refine blk_far ?_ a0.out _; (repeat refine oneB ?_); refine blk_far ?_ a0.out _; (repeat refine oneB ?_); refine blk_far ?_ a0.out _; (repeat refine oneB ?_); refine blk_far ?_ a0.out _; exact upB a2.out) Try.underlying146 rfl (by kernel_rfl)) rfl ?_
 exact ⟨by first | rfl | (simp [*, errW_none, errW_some] <;> rfl), by repeat (with_reducible first | exact HB.out | apply below_alloc | apply pw_below_drewN | apply below_drew1 | refine below_set ?_ (Aside0.out ‹_›))⟩
end
section
def laws_toOpOpS.l0 : Nat → List (S148) → List (S146) → Int → Option ((List (S146)))
 | 0, _, _, _ => none
 | k + 1, x0, x3, x4 => if x4 < (x0.length : Int) then (if 0 ≤ x4 then ((laws_toOpOp.f ((rd_T148 x0 x4).f0) ((rd_T148 x0 x4).f1) ((rd_T148 x0 x4).f2) ((rd_T148 x0 x4).f3) ((rd_T148 x0 x4).f4)).bind fun bt105 => (if x4 < (x3.length : Int) then (laws_toOpOpS.l0 k x0 (x3.set (x4 : Int).toNat (⟨bt105.1, bt105.2.1, bt105.2.2.1, bt105.2.2.2.1, bt105.2.2.2.2⟩ : S146)) (wrap64 (x4 + 1))) else (none))) else (none)) else (some x3)
def laws_toOpOpS.f (k : Nat) (l0 : List (S148)) : Option ((List (S146))) := if 0 ≤ (l0.length : Int) then (if ((l0.length : Int) : Int).toNat ≤ 7036874417766 then (laws_toOpOpS.l0 k l0 (List.replicate ((l0.length : Int) : Int).toNat z146) 0) else (none)) else (none)
set_option maxHeartbeats 8000000 in
set_option maxRecDepth 100000 in
theorem laws_toOpOpS.calls (k : Nat) (A0 : Option Addr) (c0 : Nat) (l0 : List (S148)) (r : List (S146)) (w : World) (hr0 : Kd.C k148 w A0 l0.length l0) (hc0 : l0.length ≤ c0) (h : laws_toOpOpS.f k l0 = some r) :
  Calls Try.prog 71 #[.slice A0 l0.length c0] w fun e w' => ∃ v0_ : Value, e = .returned (v0_) ∧ Kd.R k146 146 w' w.heap.size (fun _ => True) v0_ r ∧ Below w.heap.size w w' := by
 have hu148 := Try.underlying148; have hu146 := Try.underlying146; have HR0 := Aside0.mk hr0; have HC0 := Aside0.mk hc0; clear hr0 hc0; have HB := Aside0.mk (Below.refl w.heap.size w); have H : (if 0 ≤ (l0.length : Int) then (if ((l0.length : Int) : Int).toNat ≤ 7036874417766 then (laws_toOpOpS.l0 k l0 (List.replicate ((l0.length : Int) : Int).toNat z146) 0) else (none)) else (none)) = some r := h; clear h
 by_cases c2 : 0 ≤ (l0.length : Int)
 rotate_left
 ·
  rw [if_neg c2] at H
  exact absurd H (by simp)
 rw [if_pos c2] at H
 have c8 := eq_true c2; replace c2 := decide_eq_true c2
 by_cases c3 : ((l0.length : Int) : Int).toNat ≤ 7036874417766
 rotate_left
 ·
  rw [if_neg c3] at H
  exact absurd H (by simp)
 rw [if_pos c3] at H
 have d0 := eq_true c3; replace c3 := decide_eq_true c3; obtain ⟨y101, hy101⟩ : ∃ y_ : List (S146), y_ = (List.replicate ((l0.length : Int) : Int).toNat z146) := ⟨_, rfl⟩
 replace H : (laws_toOpOpS.l0 k l0 y101 0) = some r := by first | (rw [hy101]; with_reducible exact H) | (have H2_ := (Option.bind_some _ _).symm.trans H; rw [hy101]; with_reducible exact H2_) | (have H2_ := (Option.bind_some _ _).symm.trans H; with_reducible exact H2_) | with_reducible exact H | (rw [hy101]; exact H) | exact H
 have Ny101 := Aside0.mk hy101; clear hy101; have H' := Aside0.mk H; clear H
 go_enter Try.func71, Try.ntmps71
 go_wp2_with (first | ((with_reducible refine gd_ 7 rfl ?_); refine Kd.R_make k146 _ 146 rfl (N := 7) rfl 40 _ _ rfl (l0.length : Int) rfl rfl Try.underlying40 (.agg #[(.int .i64 0), (.int .i64 0), (.int .i64 0), (.int .i64 0), (.int .i64 0)]) 40 info146 rfl (by decide) (by omega) z146 (ok := fun _ => True) (okp := fun _ => True) (k146_mkM _ _ _ z146 ) (fun _ hk => hk) trivial (of_decide_eq_true (by assumption)) (Nat.le_trans (Nat.mul_le_mul_right _ (of_decide_eq_true (by assumption) : (l0.length : Int).toNat ≤ 7036874417766)) (by omega)) (Below.refl _ _) (Nat.le_refl _) ?_; intro d1 w4 ho5 hb hg_ hnew_; clear hg_ hnew_; (first | rw [← Ny101.out] at ho5 | (simp only [Int.reduceToNat] at ho5; rw [← Ny101.out] at ho5)); have b4 := Aside0.mk (Kd.R_lower ho5 (below_size (upH HB.out))); replace HB := Aside0.mk (below_step (upH HB.out) hb); clear hb ho5))
 (try simp only [Act.put, List.setIfInBounds_toArray, List.set_cons_zero, List.set_cons_succ])
 go_loopg [4] k (fun kq v4 w' => ∃ (a2 : List (S146)) (a1 : Int), v4 = .int .i64 a1 ∧ Aside0 (laws_toOpOpS.l0 kq l0 a2 a1 = some r) ∧ Aside0 (kq ≤ k) ∧ Aside0 (Kd.R k146 146 w' w.heap.size (fun _ => True) d1 a2) ∧ Aside0 (Below w.heap.size w w'))
 case atStart => exact ⟨(y101), (0), (by first | rfl | (simp; done) | (simp [*]; done)), H', ⟨Nat.le_refl _⟩, ⟨by first | exact b4.out | exact upR b4.out⟩, ⟨upH HB.out⟩⟩
 case round =>
  clear H'; (try clear c2); (try clear c8); (try clear c2b1); (try clear p2); (try clear c3); (try clear d0); (try clear c3b1); obtain ⟨a2, a1, rfl, HA, HK1, a3, HB⟩ := hrel
  cases gk with
  | zero => exact absurd HA.out (by simp [laws_toOpOpS.l0])
  | succ k1 =>
   have H := HA.out; clear HA
   simp only [laws_toOpOpS.l0] at H
   by_cases c6 : a1 < (l0.length : Int)
   ·
    rw [if_pos c6] at H
    have d2 : decide (a1 < (l0.length : Int)) = true := decide_eq_true c6; clear c6
    by_cases c7 : 0 ≤ a1
    ·
     rw [if_pos c7] at H
     replace c7 := decide_eq_true c7; obtain ⟨⟨a9, b0, b1, b2, b3⟩, A8, H⟩ := bindA H; (try dsimp only at H)
     by_cases c9 : a1 < (a2.length : Int)
     ·
      rw [if_pos c9] at H
      replace c9 := decide_eq_true c9; obtain ⟨y110, hy110⟩ : ∃ y_ : List (S146), y_ = (a2.set (a1 : Int).toNat (⟨a9, b0, b1, b2, b3⟩ : S146)) := ⟨_, rfl⟩
      replace H : (laws_toOpOpS.l0 k1 l0 y110 (wrap64 (a1 + 1))) = some r := by first | (rw [hy110]; with_reducible exact H) | (have H2_ := (Option.bind_some _ _).symm.trans H; rw [hy110]; with_reducible exact H2_) | (have H2_ := (Option.bind_some _ _).symm.trans H; with_reducible exact H2_) | with_reducible exact H | (rw [hy110]; exact H) | exact H
      have Ny110 := Aside0.mk hy110; clear hy110; have H' := Aside0.mk H; clear H; have p104 : 0 ≤ (a1 : Int) := of_decide_eq_true (by assumption); have q104 : a1 < (l0.length : Int) := of_decide_eq_true (by assumption); obtain ⟨ad104, d3, a4, a5, a6, a7, a8⟩ := at_T148 HR0.out a1 p104 q104
      cases d3
      replace a4 := (upc_ HB.out a4 :); replace a5 := (upc_ HB.out a5 :); replace a6 := (upc_ HB.out a6 :); replace a7 := (upc_ HB.out a7 :); replace a8 := (upc_ HB.out a8 :); replace p104 := eq_true p104; replace q104 := eq_true q104
      go_wp2_with (first | ((with_reducible refine gc_ 120 rfl ?_); refine gl_ (some 20) rfl Try.func120 #[.agg #[.int .i64 ((rd_T148 l0 a1).f0), .int .i64 ((rd_T148 l0 a1).f1), .int .i64 ((rd_T148 l0 a1).f2), .int .i64 ((rd_T148 l0 a1).f3), .int .i64 ((rd_T148 l0 a1).f4)]] ?_; (with_reducible refine (laws_toOpOp.calls ((rd_T148 l0 a1).f0) ((rd_T148 l0 a1).f1) ((rd_T148 l0 a1).f2) ((rd_T148 l0 a1).f3) ((rd_T148 l0 a1).f4) a9 b0 b1 b2 b3 _ A8.out).mono ?_); rintro e w11 ⟨rfl, hb⟩; refine ⟨_, rfl, ?_⟩; replace a3 := Aside0.mk (Kd.R_below (upR a3.out) hb); replace HB := Aside0.mk (below_step (upH HB.out) hb); (try clear hb); have p10 : 0 ≤ (a1 : Int) := of_decide_eq_true (by assumption); have q10 : (a1 : Int) < ((a2.length : Int) : Int) := of_decide_eq_true (by assumption); obtain ⟨go10, c1, c4, c5, gl10, e1, HG10⟩ := Kd.R_form a3.out (by omega); (first | cases c4 | (injection c4 with ea_ en_ ec_; (first | subst ea_ | (injection ea_ with ea_; subst ea_)); subst ec_; clear en_)); have GB10 := Aside0.mk c5; have GG10 := Aside0.mk HG10; clear c5 gl10 HG10; obtain ⟨e2, hcl10, hM10, hcc10, hfr10⟩ := Kd.R_elem a3.out z146 (a1 : Int) p10 q10; obtain rfl := k146_openM hM10; have d4 : w11.cell? ⟨go10, (a1 : Int).toNat * 5, none⟩ = some (.int .i64 ((rd_T146 a2 a1).f0)) := hcc10 0 _ rfl; have d5 : w11.cell? ⟨go10, (a1 : Int).toNat * 5 + 1, none⟩ = some (.int .i64 ((rd_T146 a2 a1).f1)) := hcc10 1 _ rfl; have d6 : w11.cell? ⟨go10, (a1 : Int).toNat * 5 + 2, none⟩ = some (.int .i64 ((rd_T146 a2 a1).f2)) := hcc10 2 _ rfl; have d7 : w11.cell? ⟨go10, (a1 : Int).toNat * 5 + 3, none⟩ = some (.int .i64 ((rd_T146 a2 a1).f3)) := hcc10 3 _ rfl; have d8 : w11.cell? ⟨go10, (a1 : Int).toNat * 5 + 4, none⟩ = some (.int .i64 ((rd_T146 a2 a1).f4)) := hcc10 4 _ rfl; have hf10_0 : w11.frozen? ⟨go10, (a1 : Int).toNat * 5, none⟩ = false := hfr10 0; have hf10_1 : w11.frozen? ⟨go10, (a1 : Int).toNat * 5 + 1, none⟩ = false := hfr10 1; have hf10_2 : w11.frozen? ⟨go10, (a1 : Int).toNat * 5 + 2, none⟩ = false := hfr10 2; have hf10_3 : w11.frozen? ⟨go10, (a1 : Int).toNat * 5 + 3, none⟩ = false := hfr10 3; have hf10_4 : w11.frozen? ⟨go10, (a1 : Int).toNat * 5 + 4, none⟩ = false := hfr10 4; clear hcl10 hcc10 hfr10 hM10; replace p10 := eq_true p10; replace q10 := eq_true q10; have HX12 := Aside0.mk (show Kd.R k146 146 w11 w.heap.size (fun _ => True) (.slice (some ⟨go10, 0, none⟩) a2.length c1) a2 from (upR a3.out)); obtain ⟨e3, hcl12, hM12, hcc12, hfr12⟩ := Kd.R_elem HX12.out z146 (a1 : Int) (of_decide_eq_true (by assumption)) (by have h_ : (a1 : Int) < ((a2.length : Int) : Int) := of_decide_eq_true (by assumption); first | exact h_ | (have e_ := (Kd.R_reads' a3.out).1; omega) | simpa using h_); obtain rfl := k146_openM hM12; have HP12 := Kd.R_seg HX12.out (a1 : Int) (of_decide_eq_true (by assumption)) (by have h_ : (a1 : Int) < ((a2.length : Int) : Int) := of_decide_eq_true (by assumption); first | exact h_ | (have e_ := (Kd.R_reads' a3.out).1; omega) | simpa using h_) (seg := [.int .i64 a9, .int .i64 b0, .int .i64 b1, .int .i64 b2, .int .i64 b3]) (j := 0) hcl12 hcc12 (show 5 ≤ 5 from by decide) (x' := (⟨a9, b0, b1, b2, b3⟩ : S146)) (k146_mkM _ _ _ (⟨a9, b0, b1, b2, b3⟩ : S146) ) (fun _ hk => hk); have b5 := hcc12 0 _ rfl; (try simp only [show (k146).sz = 5 from rfl, Nat.mul_one, Nat.add_zero] at b5); have hf12_0 := hfr12 0; (try simp only [show (k146).sz = 5 from rfl, Nat.mul_one, Nat.add_zero] at hf12_0); have b6 := hcc12 1 _ rfl; (try simp only [show (k146).sz = 5 from rfl, Nat.mul_one, Nat.add_zero] at b6); have hf12_1 := hfr12 1; (try simp only [show (k146).sz = 5 from rfl, Nat.mul_one, Nat.add_zero] at hf12_1); have b7 := hcc12 2 _ rfl; (try simp only [show (k146).sz = 5 from rfl, Nat.mul_one, Nat.add_zero] at b7); have hf12_2 := hfr12 2; (try simp only [show (k146).sz = 5 from rfl, Nat.mul_one, Nat.add_zero] at hf12_2); have b8 := hcc12 3 _ rfl; (try simp only [show (k146).sz = 5 from rfl, Nat.mul_one, Nat.add_zero] at b8); have hf12_3 := hfr12 3; (try simp only [show (k146).sz = 5 from rfl, Nat.mul_one, Nat.add_zero] at hf12_3); have b9 := hcc12 4 _ rfl; (try simp only [show (k146).sz = 5 from rfl, Nat.mul_one, Nat.add_zero] at b9); have hf12_4 := hfr12 4; (try simp only [show (k146).sz = 5 from rfl, Nat.mul_one, Nat.add_zero] at hf12_4); clear hcl12 hcc12 hfr12 hM12) | ((with_reducible refine gate_store (t := 146) (p := 21) rfl ?_); refine store_event (t := 146) (p := 21) (v := ?vo_w13) (w1 := (((((w11.setCell ⟨go10, (a1 : Int).toNat * 5, none⟩ (.int .i64 a9)).setCell ⟨go10, (a1 : Int).toNat * 5 + 1, none⟩ (.int .i64 b0)).setCell ⟨go10, (a1 : Int).toNat * 5 + 2, none⟩ (.int .i64 b1)).setCell ⟨go10, (a1 : Int).toNat * 5 + 3, none⟩ (.int .i64 b2)).setCell ⟨go10, (a1 : Int).toNat * 5 + 4, none⟩ (.int .i64 b3))) ?hg ?ho ?hn ?hr ?_; (case ho => rfl); (case hg => rfl); (case hn => rfl); (case hr => first | (go_simp; done) | (go_simp; rfl)); intro w13 hw; have hg : w11.grownBy w13 (some go10) := (by rw [hw]; exact HP12.2); have hp_ : Kd.R k146 146 w13 w.heap.size (fun _ => True) (.slice (some ⟨go10, 0, none⟩) a2.length c1) y110 := (by rw [hw, Ny110.out]; exact HP12.1); clear HP12; replace a3 := Aside0.mk (hp_); replace HB := Aside0.mk ((by rw [hw]; exact below_set (below_set (below_set (below_set (below_set (HB.out) GB10.out) GB10.out) GB10.out) GB10.out) GB10.out : Below w.heap.size w w13)); clear hg hw hp_))
      go_roundg k1
      case measure => have := HK1.out; omega
      case rel => exact ⟨(y110), (wrap64 (a1 + 1)), (by first | rfl | (simp; done) | (simp [*]; done)), H', ⟨by have := HK1.out; omega⟩, ⟨by first | exact a3.out | exact upR a3.out⟩, ⟨upH HB.out⟩⟩
     rw [if_neg c9] at H
     exact absurd H (by simp)
    rw [if_neg c7] at H
    exact absurd H (by simp)
   rw [if_neg c6] at H
   have d2 : decide (a1 < (l0.length : Int)) = false := decide_eq_false c6; clear c6; obtain rfl := Option.some.inj H
   go_wp2
   go_ret
   exact ⟨_, by first | rfl | (simp [*, errW_none, errW_some] <;> rfl), by first | exact a3.out | exact upR a3.out, upH HB.out⟩
end
section
open Go.Proofs.YtgpkkkmapgnhkaaW.PrintWords.Aside0 renaming mk → yaa
def laws_toTenJob.f (k : Nat) (a0_0 : Int) (a0_1 : ByteArray) (l0_2 : List (S148)) (a0_3 : Int) : Option (Int × ByteArray × (List (S146)) × Int) := (laws_toOpOpS.f k l0_2).bind fun t104 => (some (a0_0, a0_1, t104, a0_3))
set_option maxHeartbeats 8000000 in
set_option maxRecDepth 100000 in
theorem laws_toTenJob.calls (k : Nat) (a0_0 : Int) (a0_1 : ByteArray) (A0_2 : Option Addr) (c0_2 : Nat) (l0_2 : List (S148)) (a0_3 : Int) (r1 : Int) (r2 : ByteArray) (r3 : List (S146)) (r4 : Int) (w : World) (hr0_2 : Kd.C k148 w A0_2 l0_2.length l0_2) (hc0_2 : l0_2.length ≤ c0_2) (h : laws_toTenJob.f k a0_0 a0_1 l0_2 a0_3 = some (r1, r2, r3, r4)) :
  Calls Try.prog 140 #[.agg #[.int .i64 a0_0, .string a0_1, .slice A0_2 l0_2.length c0_2, .int .i64 a0_3]] w fun e w' => ∃ v2_ : Value, e = .returned (.agg #[.int .i64 r1, .string r2, v2_, .int .i64 r4]) ∧ Kd.R k146 146 w' w.heap.size (fun _ => True) v2_ r3 ∧ Below w.heap.size w w' := by
 have hu165 := Try.underlying165; have hu124 := Try.underlying124; have HR0_2 := yaa hr0_2; have HC0_2 := yaa hc0_2; clear hr0_2 hc0_2; have HB := yaa (Below.refl w.heap.size w); have H : ((laws_toOpOpS.f k l0_2).bind fun b2 => (some (a0_0, a0_1, b2, a0_3))) = some (r1, r2, r3, r4) := h; clear h; obtain ⟨b2, A2, H⟩ := bindA H; (try dsimp only at H)
 simp only [Option.some.injEq, Prod.mk.injEq] at H
 obtain ⟨rfl, rfl, rfl, rfl⟩ := H
 go_enter Try.func140, Try.ntmps140
 go_wp2_with (first | ((with_reducible refine gd_ 1 rfl ?_); refine bx_ 1 rfl #[.int .i64 a0_0, .string a0_1, .slice A0_2 l0_2.length c0_2, .int .i64 a0_3] 165 ?_; intro b3 hg w3 hbox hb; have a5 := yaa (hbox); have c1 := yaa ((by rw [hg]; exact (below_size (upH HB.out)) : w.heap.size ≤ b3)); replace HB := yaa (below_step (upH HB.out) hb); have g7 := c1; clear hb hbox hg) | ((with_reducible refine gd_ 2 rfl ?_); refine bx_ 2 rfl #[.int .i64 0, .string (⟨#[]⟩ : ByteArray), .slice none 0 0, .int .i64 0] 124 ?_; intro a7 hg w4 hbox hb; have a6 := yaa (hbox); have c2 := yaa ((by rw [hg]; exact (below_size (by repeat (with_reducible first | exact HB.out | apply below_alloc | apply pw_below_drewN | apply below_drew1 | refine below_set ?_ (Aside0.out ‹_›)))) : w.heap.size ≤ a7)); replace HB := yaa (below_step (by repeat (with_reducible first | exact HB.out | apply below_alloc | apply pw_below_drewN | apply below_drew1 | refine below_set ?_ (Aside0.out ‹_›))) hb); have g8 := c2; have b0 := yaa ((by rw [hg]; exact Nat.ne_of_lt (blk_lt (upB a5.out)) : b3 ≠ a7)); replace a5 := yaa (blk_below (upB a5.out) hb); have b4 := yaa b0.out.symm; clear hb hbox hg) | ((with_reducible refine gd_ 3 rfl ?_); refine bx_ 3 rfl #[.int .i64 0, .string (⟨#[]⟩ : ByteArray), .slice none 0 0, .int .i64 0] 124 ?_; intro b1 hg w5 hbox hb; have a9 := yaa (hbox); have c3 := yaa ((by rw [hg]; exact (below_size (by repeat (with_reducible first | exact HB.out | apply below_alloc | apply pw_below_drewN | apply below_drew1 | refine below_set ?_ (Aside0.out ‹_›)))) : w.heap.size ≤ b1)); replace HB := yaa (below_step (by repeat (with_reducible first | exact HB.out | apply below_alloc | apply pw_below_drewN | apply below_drew1 | refine below_set ?_ (Aside0.out ‹_›))) hb); have g9 := c3; have a8 := yaa ((by rw [hg]; exact Nat.ne_of_lt (blk_lt (upB a5.out)) : b3 ≠ b1)); replace a5 := yaa (blk_below (upB a5.out) hb); have b5 := yaa a8.out.symm; have a4 := yaa ((by rw [hg]; exact Nat.ne_of_lt (blk_lt (upB a6.out)) : a7 ≠ b1)); replace a6 := yaa (blk_below (upB a6.out) hb); have b6 := yaa a4.out.symm; clear hb hbox hg; have h0 := b0.out; have h1 := b4.out; have h2 := a8.out; have h3 := b5.out; obtain ⟨f7, f8, f9, g0⟩ := cc4_ a5.out; obtain ⟨g1, g2, g3, g4⟩ := cf4_ a5.out; have h4 := b6.out; have h5 := a4.out; obtain ⟨c5, c6, c7, c8⟩ := cc4_ a9.out; obtain ⟨c9, d0, d1⟩ := cf3_ a9.out; have d2 := blk_frozen a9.out 3) | ((with_reducible refine gc_ 71 rfl ?_); refine gl_ (some 12) rfl Try.func71 #[.slice A0_2 l0_2.length c0_2] ?_; (with_reducible refine (laws_toOpOpS.calls k _ _ l0_2 b2 _ ?side1 ?side2 A2.out).mono ?_); (case side1 => exact Kd.C_below HR0_2.out (by repeat (with_reducible first | exact HB.out | apply below_alloc | apply pw_below_drewN | apply below_drew1 | refine below_set ?_ (Aside0.out ‹_›)))); (case side2 => exact HC0_2.out); rintro e w11 ⟨h6, rfl, ho0, hb⟩; refine ⟨_, rfl, ?_⟩; have c0 := yaa (Kd.R_lower ho0 (below_size (by repeat (with_reducible first | exact HB.out | apply below_alloc | apply pw_below_drewN | apply below_drew1 | refine below_set ?_ (Aside0.out ‹_›))))); replace a5 := yaa (blk_below (g := b3) (o := .cells #[.int .i64 a0_0, .string a0_1, .slice A0_2 l0_2.length c0_2, .int .i64 a0_3] 165 (0, 0)) (by repeat (with_reducible first | exact a5.out | refine oneB ?_ | refine blk_far ?_ a8.out _)) hb); replace a6 := yaa (blk_below (g := a7) (o := .cells #[.int .i64 0, .string (⟨#[]⟩ : ByteArray), .slice none 0 0, .int .i64 0] 124 (0, 0)) (by repeat (with_reducible first | exact a6.out | refine oneB ?_ | refine blk_far ?_ a4.out _)) hb); replace a9 := yaa (blk_below (g := b1) (o := .cells #[.int .i64 a0_0, .string a0_1, .slice none 0 0, .int .i64 0] 124 (0, 0)) (by (repeat refine oneB ?_); refine blk_put (cs := #[.int .i64 a0_0, .string (⟨#[]⟩ : ByteArray), .slice none 0 0, .int .i64 0]) ?_ 1 _ rfl; refine blk_put (cs := #[.int .i64 0, .string (⟨#[]⟩ : ByteArray), .slice none 0 0, .int .i64 0]) ?_ 0 _ rfl; exact upB a9.out) hb); replace HB := yaa (below_step (by repeat (with_reducible first | exact HB.out | apply below_alloc | apply pw_below_drewN | apply below_drew1 | refine below_set ?_ (Aside0.out ‹_›))) hb); (try clear hb ho0); obtain ⟨b8, b9, g6⟩ := Kd.R_slice c0.out; subst g6; obtain ⟨d3, d4, d5, d6⟩ := cc4_ a9.out; obtain ⟨d7, d8, d9, e0⟩ := cf4_ a9.out; obtain ⟨e1, e2, e3, e4⟩ := cc4_ a5.out; obtain ⟨e5, e6, e7, e8⟩ := cf4_ a5.out; obtain ⟨e9, f0, f1, f2⟩ := cc4_ a6.out; obtain ⟨f3, f4, f5⟩ := cf3_ a6.out; have f6 := blk_frozen a6.out 3))
 refine bodyPost_ret (results_cell_row rfl _ _ a7 124 #[.int .i64 a0_0, .string a0_1, .slice b8 b2.length b9, .int .i64 a0_3] (0, 0) _ rfl (by (repeat refine oneB ?_); refine blk_put (cs := #[.int .i64 a0_0, .string a0_1, .slice b8 b2.length b9, .int .i64 0]) ?_ 3 _ rfl; refine blk_put (cs := #[.int .i64 a0_0, .string a0_1, .slice none 0 0, .int .i64 0]) ?_ 2 _ rfl; refine blk_put (cs := #[.int .i64 a0_0, .string (⟨#[]⟩ : ByteArray), .slice none 0 0, .int .i64 0]) ?_ 1 _ rfl; refine blk_put (cs := #[.int .i64 0, .string (⟨#[]⟩ : ByteArray), .slice none 0 0, .int .i64 0]) ?_ 0 _ rfl; (repeat refine oneB ?_); refine blk_far ?_ a4.out _; (repeat refine oneB ?_); refine blk_far ?_ a4.out _; exact upB a6.out) Try.underlying124 rfl (by kernel_rfl)) rfl ?_
 exact ⟨_, by first | rfl | (simp [*, errW_none, errW_some] <;> rfl), by (with_reducible repeat (first | apply Kd.R_alloc | apply Kd.R_drewN | apply Kd.R_drew)); exact Kd.R_mono (Kd.R_far (p := ⟨a7, 3, none⟩) (Kd.R_far (p := ⟨a7, 2, none⟩) (Kd.R_far (p := ⟨a7, 1, none⟩) (Kd.R_far (p := ⟨a7, 0, none⟩) (Kd.R_far (p := ⟨b1, 3, none⟩) (Kd.R_far (p := ⟨b1, 2, none⟩) (Kd.R_types (Kd.R_types c0.out a9.out (by decide)) a6.out (by decide)) (fun _ hk => hk.1.2) (.slice b8 b2.length b9)) (fun _ hk => hk.1.2) (.int .i64 a0_3)) (fun _ hk => hk.2) (.int .i64 a0_0)) (fun _ hk => hk.2) (.string a0_1)) (fun _ hk => hk.2) (.slice b8 b2.length b9)) (fun _ hk => hk.2) (.int .i64 a0_3)) (fun _ hk => trivial), by repeat (with_reducible first | exact HB.out | apply below_alloc | apply pw_below_drewN | apply below_drew1 | refine below_set ?_ (Aside0.out ‹_›))⟩
end
section
open Go.Proofs.YtgpkkkmapgnhkaaW.PrintWords.Aside0 renaming mk → yaa
def laws_toTenJobS.l0 : Nat → List (S165) → List (S124) → Int → Option ((List (S124)))
 | 0, _, _, _ => none
 | k + 1, x0, x3, x4 => if x4 < (x0.length : Int) then (if 0 ≤ x4 then ((laws_toTenJob.f k ((rd_T165 x0 x4).f0) ((rd_T165 x0 x4).f1) ((rd_T165 x0 x4).f2) ((rd_T165 x0 x4).f3)).bind fun bt105 => (if x4 < (x3.length : Int) then (laws_toTenJobS.l0 k x0 (x3.set (x4 : Int).toNat (⟨bt105.1, bt105.2.1, bt105.2.2.1, bt105.2.2.2⟩ : S124)) (wrap64 (x4 + 1))) else (none))) else (none)) else (some x3)
def laws_toTenJobS.f (k : Nat) (l0 : List (S165)) : Option ((List (S124))) := if 0 ≤ (l0.length : Int) then (if ((l0.length : Int) : Int).toNat ≤ 5026338869833 then (laws_toTenJobS.l0 k l0 (List.replicate ((l0.length : Int) : Int).toNat z124) 0) else (none)) else (none)
set_option maxHeartbeats 8000000 in
set_option maxRecDepth 100000 in
theorem laws_toTenJobS.calls (k : Nat) (A0 : Option Addr) (c0 : Nat) (l0 : List (S165)) (r : List (S124)) (w : World) (hr0 : Kd.C k165 w A0 l0.length l0) (hc0 : l0.length ≤ c0) (h : laws_toTenJobS.f k l0 = some r) :
  Calls Try.prog 111 #[.slice A0 l0.length c0] w fun e w' => ∃ v0_ : Value, e = .returned (v0_) ∧ Kd.S k124 124 w' w.heap.size (fun _ => True) v0_ r ∧ Below w.heap.size w w' := by
 have hu165 := Try.underlying165; have hu124 := Try.underlying124; have HR0 := yaa hr0; have HC0 := yaa hc0; clear hr0 hc0; have HB := yaa (Below.refl w.heap.size w); have H : (if 0 ≤ (l0.length : Int) then (if ((l0.length : Int) : Int).toNat ≤ 5026338869833 then (laws_toTenJobS.l0 k l0 (List.replicate ((l0.length : Int) : Int).toNat z124) 0) else (none)) else (none)) = some r := h; clear h
 by_cases c2 : 0 ≤ (l0.length : Int)
 rotate_left
 ·
  rw [if_neg c2] at H
  exact absurd H (by simp)
 rw [if_pos c2] at H
 have d6 := eq_true c2; replace c2 := decide_eq_true c2
 by_cases c3 : ((l0.length : Int) : Int).toNat ≤ 5026338869833
 rotate_left
 ·
  rw [if_neg c3] at H
  exact absurd H (by simp)
 rw [if_pos c3] at H
 have d7 := eq_true c3; replace c3 := decide_eq_true c3; obtain ⟨y101, hy101⟩ : ∃ y_ : List (S124), y_ = (List.replicate ((l0.length : Int) : Int).toNat z124) := ⟨_, rfl⟩
 replace H : (laws_toTenJobS.l0 k l0 y101 0) = some r := by first | (rw [hy101]; with_reducible exact H) | (have H2_ := (Option.bind_some _ _).symm.trans H; rw [hy101]; with_reducible exact H2_) | (have H2_ := (Option.bind_some _ _).symm.trans H; with_reducible exact H2_) | with_reducible exact H | (rw [hy101]; exact H) | exact H
 have Ny101 := yaa hy101; clear hy101; have H' := yaa H; clear H
 go_enter Try.func111, Try.ntmps111
 go_wp2_with (first | ((with_reducible refine gd_ 7 rfl ?_); refine Kd.S_make k124 _ 124 rfl (N := 7) rfl 58 _ _ rfl (l0.length : Int) rfl rfl Try.underlying58 (.agg #[(.int .i64 0), (.string ⟨#[]⟩), (.slice none 0 0), (.int .i64 0)]) 56 info124 rfl (by decide) (by omega) z124 (ok := fun _ => True) (okp := fun _ => True) (k124_mkM _ _ _ z124 (Kd.R_nil _ _ _ _ _)) (fun _ hk => hk) trivial (of_decide_eq_true (by assumption)) (Nat.le_trans (Nat.mul_le_mul_right _ (of_decide_eq_true (by assumption) : (l0.length : Int).toNat ≤ 5026338869833)) (by omega)) (Below.refl _ _) (Nat.le_refl _) ?_; intro d8 w4 ho5 hb hg_ hnew_; clear hg_ hnew_; (first | rw [← Ny101.out] at ho5 | (simp only [Int.reduceToNat] at ho5; rw [← Ny101.out] at ho5)); have d2 := yaa (Kd.S_lower ho5 (below_size (upH HB.out))); replace HB := yaa (below_step (upH HB.out) hb); clear hb ho5))
 (try simp only [Act.put, List.setIfInBounds_toArray, List.set_cons_zero, List.set_cons_succ])
 go_loopg [4] k (fun kq v4 w' => ∃ (a3 : List (S124)) (a1 : Int), v4 = .int .i64 a1 ∧ Aside0 (laws_toTenJobS.l0 kq l0 a3 a1 = some r) ∧ Aside0 (kq ≤ k) ∧ Aside0 (Kd.S k124 124 w' w.heap.size (fun _ => True) d8 a3) ∧ Aside0 (Below w.heap.size w w'))
 case atStart => exact ⟨(y101), (0), (by first | rfl | (simp; done) | (simp [*]; done)), H', ⟨Nat.le_refl _⟩, ⟨by (with_reducible repeat (first | apply Kd.S_alloc | apply Kd.S_drewN | apply Kd.S_drew)); exact d2.out⟩, ⟨upH HB.out⟩⟩
 case round =>
  clear H'; (try clear c1); (try clear c2); (try clear d6); (try clear c2b1); (try clear p2); (try clear c3); (try clear d7); (try clear c3b1); obtain ⟨a3, a1, rfl, HA, HK1, a2, HB⟩ := hrel
  cases gk with
  | zero => exact absurd HA.out (by simp [laws_toTenJobS.l0])
  | succ k1 =>
   have H := HA.out; clear HA
   simp only [laws_toTenJobS.l0] at H
   by_cases c6 : a1 < (l0.length : Int)
   ·
    rw [if_pos c6] at H
    have d9 : decide (a1 < (l0.length : Int)) = true := decide_eq_true c6; clear c6
    by_cases c7 : 0 ≤ a1
    ·
     rw [if_pos c7] at H
     replace c7 := decide_eq_true c7; obtain ⟨⟨b0, b1, b3, b2⟩, A8, H⟩ := bindA H; (try dsimp only at H)
     by_cases c9 : a1 < (a3.length : Int)
     ·
      rw [if_pos c9] at H
      replace c9 := decide_eq_true c9; obtain ⟨y111, hy111⟩ : ∃ y_ : List (S124), y_ = (a3.set (a1 : Int).toNat (⟨b0, b1, b3, b2⟩ : S124)) := ⟨_, rfl⟩
      replace H : (laws_toTenJobS.l0 k1 l0 y111 (wrap64 (a1 + 1))) = some r := by first | (rw [hy111]; with_reducible exact H) | (have H2_ := (Option.bind_some _ _).symm.trans H; rw [hy111]; with_reducible exact H2_) | (have H2_ := (Option.bind_some _ _).symm.trans H; with_reducible exact H2_) | with_reducible exact H | (rw [hy111]; exact H) | exact H
      have Ny111 := yaa hy111; clear hy111; have H' := yaa H; clear H; have p104 : 0 ≤ (a1 : Int) := of_decide_eq_true (by assumption); have q104 : a1 < (l0.length : Int) := of_decide_eq_true (by assumption); obtain ⟨ad104, b5, b6, e0, a6, a7, a8, a9, hl104_2, hi104_2⟩ := at_T165 HR0.out a1 p104 q104
      cases e0
      replace a6 := (upc_ HB.out a6 :); replace a7 := (upc_ HB.out a7 :); replace a8 := (upc_ HB.out a8 :); replace a9 := (upc_ HB.out a9 :); have HR104_2 := yaa hi104_2; have HC104_2 := yaa hl104_2; clear hi104_2 hl104_2; replace p104 := eq_true p104; replace q104 := eq_true q104
      go_wp2_with (first | ((with_reducible refine gc_ 140 rfl ?_); refine gl_ (some 20) rfl Try.func140 #[.agg #[.int .i64 ((rd_T165 l0 a1).f0), .string ((rd_T165 l0 a1).f1), .slice b5 ((rd_T165 l0 a1).f2).length b6, .int .i64 ((rd_T165 l0 a1).f3)]] ?_; (with_reducible refine (laws_toTenJob.calls k1 ((rd_T165 l0 a1).f0) ((rd_T165 l0 a1).f1) _ _ ((rd_T165 l0 a1).f2) ((rd_T165 l0 a1).f3) b0 b1 b3 b2 _ ?side1 ?side2 A8.out).mono ?_); (case side1 => repeat (first | exact (Kd.C_below HR104_2.out HB.out) | (with_reducible refine Kd.C_alloc ?_ _) | (with_reducible refine Kd.C_drewN ?_ _) | (with_reducible refine Kd.C_drew ?_))); (case side2 => exact HC104_2.out); rintro e w11 ⟨b4, rfl, ho0, hb⟩; refine ⟨_, rfl, ?_⟩; replace a2 := yaa (Kd.S_elder' (by (with_reducible repeat (first | apply Kd.S_alloc | apply Kd.S_drewN | apply Kd.S_drew)); exact a2.out) (Kd.R_base ho0) hb); have a4 := yaa (Kd.R_lower ho0 (below_size (upH HB.out))); replace HB := yaa (below_step (upH HB.out) hb); (try clear hb ho0); have p10 : 0 ≤ (a1 : Int) := of_decide_eq_true (by assumption); have q10 : (a1 : Int) < ((a3.length : Int) : Int) := of_decide_eq_true (by assumption); obtain ⟨go10, d3, d4, d5, gl10, e8, HG10⟩ := Kd.S_form a2.out (by omega); (first | cases d4 | (injection d4 with ea_ en_ ec_; (first | subst ea_ | (injection ea_ with ea_; subst ea_)); subst ec_; clear en_)); have GB10 := yaa d5; have GG10 := yaa HG10; clear d5 gl10 HG10; obtain ⟨_, e9, hcl10, hM10, hcc10, hfr10, _, _⟩ := Kd.S_elem a2.out z124 (a1 : Int) p10 q10; obtain ⟨b7, rfl, ge10_2⟩ := k124_openM hM10; have e1 : w11.cell? ⟨go10, (a1 : Int).toNat * 4, none⟩ = some (.int .i64 ((rd_T124 a3 a1).f0)) := hcc10 0 _ rfl; have e2 : w11.cell? ⟨go10, (a1 : Int).toNat * 4 + 1, none⟩ = some (.string ((rd_T124 a3 a1).f1)) := hcc10 1 _ rfl; have e3 : w11.cell? ⟨go10, (a1 : Int).toNat * 4 + 2, none⟩ = some (b7) := hcc10 2 _ rfl; have e4 : w11.cell? ⟨go10, (a1 : Int).toNat * 4 + 3, none⟩ = some (.int .i64 ((rd_T124 a3 a1).f3)) := hcc10 3 _ rfl; have hf10_0 : w11.frozen? ⟨go10, (a1 : Int).toNat * 4, none⟩ = false := hfr10 0; have hf10_1 : w11.frozen? ⟨go10, (a1 : Int).toNat * 4 + 1, none⟩ = false := hfr10 1; have hf10_2 : w11.frozen? ⟨go10, (a1 : Int).toNat * 4 + 2, none⟩ = false := hfr10 2; have hf10_3 : w11.frozen? ⟨go10, (a1 : Int).toNat * 4 + 3, none⟩ = false := hfr10 3; clear hcl10 hcc10 hfr10 hM10; replace p10 := eq_true p10; replace q10 := eq_true q10; have n_ := yaa (Kd.S_mono (ok' := (fun k_ => some k_ ≠ (b4 : Value).ownBlock)) a2.out (fun k_ hk => hk.2)); clear a2; have a2 := n_; clear n_; have HX12 := yaa (show Kd.S k124 124 w11 w.heap.size (fun k_ => ((fun _ => True)) k_ ∧ ¬ ((fun k_ => some k_ = (b4 : Value).ownBlock)) k_) (.slice (some ⟨go10, 0, none⟩) a3.length d3) a3 from (by (with_reducible repeat (first | apply Kd.S_alloc | apply Kd.S_drewN | apply Kd.S_drew)); exact Kd.S_mono a2.out (fun k_ hk => ⟨trivial, fun e_ => hk e_⟩))); obtain ⟨oki12, f4, hcl12, hM12, hcc12, hfr12, b8, hH12⟩ := Kd.S_elem HX12.out z124 (a1 : Int) (of_decide_eq_true (by assumption)) (by have h_ : (a1 : Int) < ((a3.length : Int) : Int) := of_decide_eq_true (by assumption); first | exact h_ | (have e_ := (Kd.S_reads' a2.out).1; omega) | simpa using h_); obtain ⟨e5, rfl, ge12_2⟩ := k124_openM hM12; have HP12 := Kd.S_seg hH12 (of_decide_eq_true (by assumption)) (by have h_ : (a1 : Int) < ((a3.length : Int) : Int) := of_decide_eq_true (by assumption); first | exact h_ | (have e_ := (Kd.S_reads' a2.out).1; omega) | simpa using h_) (seg := [.int .i64 b0, .string b1, b4, .int .i64 b2]) (j := 0) (show 4 ≤ 4 from by decide) (x' := (⟨b0, b1, b3, b2⟩ : S124)) (k124_mkM _ _ _ (⟨b0, b1, b3, b2⟩ : S124) (Kd.R_mono (Kd.R_tight rfl (Kd.R_mono (ok' := fun k_ => ((fun _ => True)) k_ ∧ k_ ≠ go10) (Kd.R_apart' (a4.out) (Kd.S_typed a2.out) (by decide)) (fun k_ hk => ⟨trivial, fun e_ => (hk.2) (by rw [e_]; rfl)⟩))) (fun _ h_ => Or.inr (h_)))) (fun _ hk => hk) (fun k_ hk_ => ((Kd.R_mono (ok' := fun k_ => ((fun _ => True)) k_ ∧ k_ ≠ go10) (Kd.R_apart' (a4.out) (Kd.S_typed a2.out) (by decide)) (fun k_ hk => ⟨trivial, fun e_ => (hk.2) (by rw [e_]; rfl)⟩))).1 k_ hk_.symm); have b9 := hcc12 0 _ rfl; (try simp only [show (k124).sz = 4 from rfl, Nat.mul_one, Nat.add_zero] at b9); have hf12_0 := hfr12 0; (try simp only [show (k124).sz = 4 from rfl, Nat.mul_one, Nat.add_zero] at hf12_0); have c4 := hcc12 1 _ rfl; (try simp only [show (k124).sz = 4 from rfl, Nat.mul_one, Nat.add_zero] at c4); have hf12_1 := hfr12 1; (try simp only [show (k124).sz = 4 from rfl, Nat.mul_one, Nat.add_zero] at hf12_1); have c5 := hcc12 2 _ rfl; (try simp only [show (k124).sz = 4 from rfl, Nat.mul_one, Nat.add_zero] at c5); have hf12_2 := hfr12 2; (try simp only [show (k124).sz = 4 from rfl, Nat.mul_one, Nat.add_zero] at hf12_2); have c8 := hcc12 3 _ rfl; (try simp only [show (k124).sz = 4 from rfl, Nat.mul_one, Nat.add_zero] at c8); have hf12_3 := hfr12 3; (try simp only [show (k124).sz = 4 from rfl, Nat.mul_one, Nat.add_zero] at hf12_3); clear hcl12 hcc12 hfr12 hM12 b8 hH12) | ((with_reducible refine gate_store (t := 124) (p := 21) rfl ?_); refine store_event (t := 124) (p := 21) (v := ?vo_w13) (w1 := ((((w11.setCell ⟨go10, (a1 : Int).toNat * 4, none⟩ (.int .i64 b0)).setCell ⟨go10, (a1 : Int).toNat * 4 + 1, none⟩ (.string b1)).setCell ⟨go10, (a1 : Int).toNat * 4 + 2, none⟩ (b4)).setCell ⟨go10, (a1 : Int).toNat * 4 + 3, none⟩ (.int .i64 b2))) ?hg ?ho ?hn ?hr ?_; (case ho => rfl); (case hg => rfl); (case hn => rfl); (case hr => first | (go_simp; done) | (go_simp; rfl) | (obtain ⟨d0, d1, a5⟩ := Kd.R_slice a4.out; simp only [a5]; go_simp; done) | (obtain ⟨d0, d1, a5⟩ := Kd.R_slice a4.out; simp only [a5]; go_simp; rfl)); intro w13 hw; have hg : w11.grownBy w13 (some go10) := (by rw [hw]; exact HP12.2); have hp_ : Kd.S k124 124 w13 w.heap.size (fun _ => True) (.slice (some ⟨go10, 0, none⟩) a3.length d3) y111 := (by rw [hw, Ny111.out]; exact HP12.1); clear HP12; replace a2 := yaa (hp_); replace HB := yaa ((by rw [hw]; exact below_set (below_set (below_set (below_set (HB.out) GB10.out) GB10.out) GB10.out) GB10.out : Below w.heap.size w w13)); clear a4; clear hg hw hp_))
      go_roundg k1
      case measure => have := HK1.out; omega
      case rel => exact ⟨(y111), (wrap64 (a1 + 1)), (by first | rfl | (simp; done) | (simp [*]; done)), H', ⟨by have := HK1.out; omega⟩, ⟨by (with_reducible repeat (first | apply Kd.S_alloc | apply Kd.S_drewN | apply Kd.S_drew)); exact a2.out⟩, ⟨upH HB.out⟩⟩
     rw [if_neg c9] at H
     exact absurd H (by simp)
    rw [if_neg c7] at H
    exact absurd H (by simp)
   rw [if_neg c6] at H
   have d9 : decide (a1 < (l0.length : Int)) = false := decide_eq_false c6; clear c6; obtain rfl := Option.some.inj H
   go_wp2
   go_ret
   exact ⟨_, by first | rfl | (simp [*, errW_none, errW_some] <;> rfl), by (with_reducible repeat (first | apply Kd.S_alloc | apply Kd.S_drewN | apply Kd.S_drew)); exact a2.out, upH HB.out⟩
end
section
open Go.Proofs.YtgpkkkmapgnhkaaW.PrintWords.Aside0 renaming mk → yaa
def laws_toTenFile.f (k : Nat) (a0_0 : ByteArray) (a0_1 : Int) (l0_2 : List Int) : Option (ByteArray × Int × List Int) := (laws_toByteS.f k l0_2).bind fun t104 => (some (a0_0, a0_1, t104))
set_option maxHeartbeats 8000000 in
set_option maxRecDepth 100000 in
theorem laws_toTenFile.calls (k : Nat) (a0_0 : ByteArray) (a0_1 : Int) (A0_2 : Option Addr) (c0_2 : Nat) (l0_2 : List Int) (r1 : ByteArray) (r2 : Int) (r3 : List Int) (w : World) (hr0_2 : Kd.C (Kd.int .u8) w A0_2 l0_2.length l0_2) (hc0_2 : l0_2.length ≤ c0_2) (h : laws_toTenFile.f k a0_0 a0_1 l0_2 = some (r1, r2, r3)) :
  Calls Try.prog 141 #[.agg #[.string a0_0, .int .i64 a0_1, .slice A0_2 l0_2.length c0_2]] w fun e w' => ∃ v2_ : Value, e = .returned (.agg #[.string r1, .int .i64 r2, v2_]) ∧ Kd.R (Kd.int .u8) 5 w' w.heap.size (fun _ => True) v2_ r3 ∧ Below w.heap.size w w' := by
 have hu167 := Try.underlying167; have hu156 := Try.underlying156; have HR0_2 := yaa hr0_2; have HC0_2 := yaa hc0_2; clear hr0_2 hc0_2; have HB := yaa (Below.refl w.heap.size w); have H : ((laws_toByteS.f k l0_2).bind fun b2 => (some (a0_0, a0_1, b2))) = some (r1, r2, r3) := h; clear h; obtain ⟨b2, A2, H⟩ := bindA H; (try dsimp only at H)
 simp only [Option.some.injEq, Prod.mk.injEq] at H
 obtain ⟨rfl, rfl, rfl⟩ := H
 go_enter Try.func141, Try.ntmps141
 go_wp2_with (first | ((with_reducible refine gd_ 1 rfl ?_); refine bx_ 1 rfl #[.string a0_0, .int .i64 a0_1, .slice A0_2 l0_2.length c0_2] 167 ?_; intro b1 hg w3 hbox hb; have a4 := yaa (hbox); have c0 := yaa ((by rw [hg]; exact (below_size (upH HB.out)) : w.heap.size ≤ b1)); replace HB := yaa (below_step (upH HB.out) hb); have f0 := c0; clear hb hbox hg) | ((with_reducible refine gd_ 2 rfl ?_); refine bx_ 2 rfl #[.string (⟨#[]⟩ : ByteArray), .int .i64 0, .slice none 0 0] 156 ?_; intro a7 hg w4 hbox hb; have a5 := yaa (hbox); have c1 := yaa ((by rw [hg]; exact (below_size (by repeat (with_reducible first | exact HB.out | apply below_alloc | apply pw_below_drewN | apply below_drew1 | refine below_set ?_ (Aside0.out ‹_›)))) : w.heap.size ≤ a7)); replace HB := yaa (below_step (by repeat (with_reducible first | exact HB.out | apply below_alloc | apply pw_below_drewN | apply below_drew1 | refine below_set ?_ (Aside0.out ‹_›))) hb); have f1 := c1; have a9 := yaa ((by rw [hg]; exact Nat.ne_of_lt (blk_lt (upB a4.out)) : b1 ≠ a7)); replace a4 := yaa (blk_below (upB a4.out) hb); have b3 := yaa a9.out.symm; clear hb hbox hg) | ((with_reducible refine gd_ 3 rfl ?_); refine bx_ 3 rfl #[.string (⟨#[]⟩ : ByteArray), .int .i64 0, .slice none 0 0] 156 ?_; intro b0 hg w5 hbox hb; have a8 := yaa (hbox); have c2 := yaa ((by rw [hg]; exact (below_size (by repeat (with_reducible first | exact HB.out | apply below_alloc | apply pw_below_drewN | apply below_drew1 | refine below_set ?_ (Aside0.out ‹_›)))) : w.heap.size ≤ b0)); replace HB := yaa (below_step (by repeat (with_reducible first | exact HB.out | apply below_alloc | apply pw_below_drewN | apply below_drew1 | refine below_set ?_ (Aside0.out ‹_›))) hb); have f2 := c2; have a6 := yaa ((by rw [hg]; exact Nat.ne_of_lt (blk_lt (upB a4.out)) : b1 ≠ b0)); replace a4 := yaa (blk_below (upB a4.out) hb); have b4 := yaa a6.out.symm; have a3 := yaa ((by rw [hg]; exact Nat.ne_of_lt (blk_lt (upB a5.out)) : a7 ≠ b0)); replace a5 := yaa (blk_below (upB a5.out) hb); have b5 := yaa a3.out.symm; clear hb hbox hg; have f3 := a9.out; have f4 := b3.out; have f5 := a6.out; have f6 := b4.out; obtain ⟨e1, e2, e3⟩ := cc3_ a4.out; obtain ⟨e4, e5, e6⟩ := cf3_ a4.out; have f7 := b5.out; have f8 := a3.out; obtain ⟨c3, c4, c5⟩ := cc3_ a8.out; obtain ⟨c6, c7⟩ := cf2_ a8.out; have c8 := blk_frozen a8.out 2) | ((with_reducible refine gc_ 66 rfl ?_); refine gl_ (some 12) rfl Try.func66 #[.slice A0_2 l0_2.length c0_2] ?_; (with_reducible refine (laws_toByteS.calls k _ _ l0_2 b2 _ ?side1 ?side2 A2.out).mono ?_); (case side1 => exact Kd.C_below HR0_2.out (by repeat (with_reducible first | exact HB.out | apply below_alloc | apply pw_below_drewN | apply below_drew1 | refine below_set ?_ (Aside0.out ‹_›)))); (case side2 => exact HC0_2.out); rintro e w11 ⟨f9, rfl, ho0, hb⟩; refine ⟨_, rfl, ?_⟩; have b6 := yaa (Kd.R_lower ho0 (below_size (by repeat (with_reducible first | exact HB.out | apply below_alloc | apply pw_below_drewN | apply below_drew1 | refine below_set ?_ (Aside0.out ‹_›))))); replace a4 := yaa (blk_below (g := b1) (o := .cells #[.string a0_0, .int .i64 a0_1, .slice A0_2 l0_2.length c0_2] 167 (0, 0)) (by repeat (with_reducible first | exact a4.out | refine oneB ?_ | refine blk_far ?_ a6.out _)) hb); replace a5 := yaa (blk_below (g := a7) (o := .cells #[.string (⟨#[]⟩ : ByteArray), .int .i64 0, .slice none 0 0] 156 (0, 0)) (by repeat (with_reducible first | exact a5.out | refine oneB ?_ | refine blk_far ?_ a3.out _)) hb); replace a8 := yaa (blk_below (g := b0) (o := .cells #[.string a0_0, .int .i64 a0_1, .slice none 0 0] 156 (0, 0)) (by (repeat refine oneB ?_); refine blk_put (cs := #[.string a0_0, .int .i64 0, .slice none 0 0]) ?_ 1 _ rfl; refine blk_put (cs := #[.string (⟨#[]⟩ : ByteArray), .int .i64 0, .slice none 0 0]) ?_ 0 _ rfl; exact upB a8.out) hb); replace HB := yaa (below_step (by repeat (with_reducible first | exact HB.out | apply below_alloc | apply pw_below_drewN | apply below_drew1 | refine below_set ?_ (Aside0.out ‹_›))) hb); (try clear hb ho0); obtain ⟨b8, b9, e9⟩ := Kd.R_slice b6.out; subst e9; obtain ⟨c9, d0, d1⟩ := cc3_ a8.out; obtain ⟨d2, d3, d4⟩ := cf3_ a8.out; obtain ⟨d5, d6, d7⟩ := cc3_ a5.out; obtain ⟨d8, d9⟩ := cf2_ a5.out; have e0 := blk_frozen a5.out 2))
 refine bodyPost_ret (results_cell_row rfl _ _ a7 156 #[.string a0_0, .int .i64 a0_1, .slice b8 b2.length b9] (0, 0) _ rfl (by (repeat refine oneB ?_); refine blk_put (cs := #[.string a0_0, .int .i64 a0_1, .slice none 0 0]) ?_ 2 _ rfl; refine blk_put (cs := #[.string a0_0, .int .i64 0, .slice none 0 0]) ?_ 1 _ rfl; refine blk_put (cs := #[.string (⟨#[]⟩ : ByteArray), .int .i64 0, .slice none 0 0]) ?_ 0 _ rfl; (repeat refine oneB ?_); refine blk_far ?_ a3.out _; exact upB a5.out) Try.underlying156 rfl (by kernel_rfl)) rfl ?_
 exact ⟨_, by first | rfl | (simp [*, errW_none, errW_some] <;> rfl), by (with_reducible repeat (first | apply Kd.R_alloc | apply Kd.R_drewN | apply Kd.R_drew)); exact Kd.R_mono (Kd.R_far (p := ⟨a7, 2, none⟩) (Kd.R_far (p := ⟨a7, 1, none⟩) (Kd.R_far (p := ⟨a7, 0, none⟩) (Kd.R_far (p := ⟨b0, 2, none⟩) (Kd.R_types (Kd.R_types b6.out a8.out (by decide)) a5.out (by decide)) (fun _ hk => hk.1.2) (.slice b8 b2.length b9)) (fun _ hk => hk.2) (.string a0_0)) (fun _ hk => hk.2) (.int .i64 a0_1)) (fun _ hk => hk.2) (.slice b8 b2.length b9)) (fun _ hk => trivial), by repeat (with_reducible first | exact HB.out | apply below_alloc | apply pw_below_drewN | apply below_drew1 | refine below_set ?_ (Aside0.out ‹_›))⟩
end
section
open Go.Proofs.YtgpkkkmapgnhkaaW.PrintWords.Aside0 renaming mk → yaa
def laws_toTenFileS.l0 : Nat → List (S167) → List (S156) → Int → Option ((List (S156)))
 | 0, _, _, _ => none
 | k + 1, x0, x3, x4 => if x4 < (x0.length : Int) then (if 0 ≤ x4 then ((laws_toTenFile.f k ((rd_T167 x0 x4).f0) ((rd_T167 x0 x4).f1) ((rd_T167 x0 x4).f2)).bind fun bt105 => (if x4 < (x3.length : Int) then (laws_toTenFileS.l0 k x0 (x3.set (x4 : Int).toNat (⟨bt105.1, bt105.2.1, bt105.2.2⟩ : S156)) (wrap64 (x4 + 1))) else (none))) else (none)) else (some x3)
def laws_toTenFileS.f (k : Nat) (l0 : List (S167)) : Option ((List (S156))) := if 0 ≤ (l0.length : Int) then (if ((l0.length : Int) : Int).toNat ≤ 5864062014805 then (laws_toTenFileS.l0 k l0 (List.replicate ((l0.length : Int) : Int).toNat z156) 0) else (none)) else (none)
set_option maxHeartbeats 8000000 in
set_option maxRecDepth 100000 in
theorem laws_toTenFileS.calls (k : Nat) (A0 : Option Addr) (c0 : Nat) (l0 : List (S167)) (r : List (S156)) (w : World) (hr0 : Kd.C k167 w A0 l0.length l0) (hc0 : l0.length ≤ c0) (h : laws_toTenFileS.f k l0 = some r) :
  Calls Try.prog 112 #[.slice A0 l0.length c0] w fun e w' => ∃ v0_ : Value, e = .returned (v0_) ∧ Kd.S k156 156 w' w.heap.size (fun _ => True) v0_ r ∧ Below w.heap.size w w' := by
 have hu167 := Try.underlying167; have hu156 := Try.underlying156; have HR0 := yaa hr0; have HC0 := yaa hc0; clear hr0 hc0; have HB := yaa (Below.refl w.heap.size w); have H : (if 0 ≤ (l0.length : Int) then (if ((l0.length : Int) : Int).toNat ≤ 5864062014805 then (laws_toTenFileS.l0 k l0 (List.replicate ((l0.length : Int) : Int).toNat z156) 0) else (none)) else (none)) = some r := h; clear h
 by_cases c2 : 0 ≤ (l0.length : Int)
 rotate_left
 ·
  rw [if_neg c2] at H
  exact absurd H (by simp)
 rw [if_pos c2] at H
 have d3 := eq_true c2; replace c2 := decide_eq_true c2
 by_cases c3 : ((l0.length : Int) : Int).toNat ≤ 5864062014805
 rotate_left
 ·
  rw [if_neg c3] at H
  exact absurd H (by simp)
 rw [if_pos c3] at H
 have d4 := eq_true c3; replace c3 := decide_eq_true c3; obtain ⟨y101, hy101⟩ : ∃ y_ : List (S156), y_ = (List.replicate ((l0.length : Int) : Int).toNat z156) := ⟨_, rfl⟩
 replace H : (laws_toTenFileS.l0 k l0 y101 0) = some r := by first | (rw [hy101]; with_reducible exact H) | (have H2_ := (Option.bind_some _ _).symm.trans H; rw [hy101]; with_reducible exact H2_) | (have H2_ := (Option.bind_some _ _).symm.trans H; with_reducible exact H2_) | with_reducible exact H | (rw [hy101]; exact H) | exact H
 have Ny101 := yaa hy101; clear hy101; have H' := yaa H; clear H
 go_enter Try.func112, Try.ntmps112
 go_wp2_with (first | ((with_reducible refine gd_ 7 rfl ?_); refine Kd.S_make k156 _ 156 rfl (N := 7) rfl 59 _ _ rfl (l0.length : Int) rfl rfl Try.underlying59 (.agg #[(.string ⟨#[]⟩), (.int .i64 0), (.slice none 0 0)]) 48 info156 rfl (by decide) (by omega) z156 (ok := fun _ => True) (okp := fun _ => True) (k156_mkM _ _ _ z156 (Kd.R_nil _ _ _ _ _)) (fun _ hk => hk) trivial (of_decide_eq_true (by assumption)) (Nat.le_trans (Nat.mul_le_mul_right _ (of_decide_eq_true (by assumption) : (l0.length : Int).toNat ≤ 5864062014805)) (by omega)) (Below.refl _ _) (Nat.le_refl _) ?_; intro d5 w4 ho5 hb hg_ hnew_; clear hg_ hnew_; (first | rw [← Ny101.out] at ho5 | (simp only [Int.reduceToNat] at ho5; rw [← Ny101.out] at ho5)); have c8 := yaa (Kd.S_lower ho5 (below_size (upH HB.out))); replace HB := yaa (below_step (upH HB.out) hb); clear hb ho5))
 (try simp only [Act.put, List.setIfInBounds_toArray, List.set_cons_zero, List.set_cons_succ])
 go_loopg [4] k (fun kq v4 w' => ∃ (a3 : List (S156)) (a1 : Int), v4 = .int .i64 a1 ∧ Aside0 (laws_toTenFileS.l0 kq l0 a3 a1 = some r) ∧ Aside0 (kq ≤ k) ∧ Aside0 (Kd.S k156 156 w' w.heap.size (fun _ => True) d5 a3) ∧ Aside0 (Below w.heap.size w w'))
 case atStart => exact ⟨(y101), (0), (by first | rfl | (simp; done) | (simp [*]; done)), H', ⟨Nat.le_refl _⟩, ⟨by (with_reducible repeat (first | apply Kd.S_alloc | apply Kd.S_drewN | apply Kd.S_drew)); exact c8.out⟩, ⟨upH HB.out⟩⟩
 case round =>
  clear H'; (try clear c1); (try clear c2); (try clear d3); (try clear c2b1); (try clear p2); (try clear c3); (try clear d4); (try clear c3b1); obtain ⟨a3, a1, rfl, HA, HK1, a2, HB⟩ := hrel
  cases gk with
  | zero => exact absurd HA.out (by simp [laws_toTenFileS.l0])
  | succ k1 =>
   have H := HA.out; clear HA
   simp only [laws_toTenFileS.l0] at H
   by_cases c6 : a1 < (l0.length : Int)
   ·
    rw [if_pos c6] at H
    have d6 : decide (a1 < (l0.length : Int)) = true := decide_eq_true c6; clear c6
    by_cases c7 : 0 ≤ a1
    ·
     rw [if_pos c7] at H
     replace c7 := decide_eq_true c7; obtain ⟨⟨a9, b0, b1⟩, A8, H⟩ := bindA H; (try dsimp only at H)
     by_cases c9 : a1 < (a3.length : Int)
     ·
      rw [if_pos c9] at H
      replace c9 := decide_eq_true c9; obtain ⟨y110, hy110⟩ : ∃ y_ : List (S156), y_ = (a3.set (a1 : Int).toNat (⟨a9, b0, b1⟩ : S156)) := ⟨_, rfl⟩
      replace H : (laws_toTenFileS.l0 k1 l0 y110 (wrap64 (a1 + 1))) = some r := by first | (rw [hy110]; with_reducible exact H) | (have H2_ := (Option.bind_some _ _).symm.trans H; rw [hy110]; with_reducible exact H2_) | (have H2_ := (Option.bind_some _ _).symm.trans H; with_reducible exact H2_) | with_reducible exact H | (rw [hy110]; exact H) | exact H
      have Ny110 := yaa hy110; clear hy110; have H' := yaa H; clear H; have p104 : 0 ≤ (a1 : Int) := of_decide_eq_true (by assumption); have q104 : a1 < (l0.length : Int) := of_decide_eq_true (by assumption); obtain ⟨ad104, b3, b4, d7, a6, a7, a8, hl104_2, hi104_2⟩ := at_T167 HR0.out a1 p104 q104
      cases d7
      replace a6 := (upc_ HB.out a6 :); replace a7 := (upc_ HB.out a7 :); replace a8 := (upc_ HB.out a8 :); have HR104_2 := yaa hi104_2; have HC104_2 := yaa hl104_2; clear hi104_2 hl104_2; replace p104 := eq_true p104; replace q104 := eq_true q104
      go_wp2_with (first | ((with_reducible refine gc_ 141 rfl ?_); refine gl_ (some 20) rfl Try.func141 #[.agg #[.string ((rd_T167 l0 a1).f0), .int .i64 ((rd_T167 l0 a1).f1), .slice b3 ((rd_T167 l0 a1).f2).length b4]] ?_; (with_reducible refine (laws_toTenFile.calls k1 ((rd_T167 l0 a1).f0) ((rd_T167 l0 a1).f1) _ _ ((rd_T167 l0 a1).f2) a9 b0 b1 _ ?side1 ?side2 A8.out).mono ?_); (case side1 => repeat (first | exact (Kd.C_below HR104_2.out HB.out) | (with_reducible refine Kd.C_alloc ?_ _) | (with_reducible refine Kd.C_drewN ?_ _) | (with_reducible refine Kd.C_drew ?_))); (case side2 => exact HC104_2.out); rintro e w11 ⟨b2, rfl, ho0, hb⟩; refine ⟨_, rfl, ?_⟩; replace a2 := yaa (Kd.S_elder' (by (with_reducible repeat (first | apply Kd.S_alloc | apply Kd.S_drewN | apply Kd.S_drew)); exact a2.out) (Kd.R_base ho0) hb); have a4 := yaa (Kd.R_lower ho0 (below_size (upH HB.out))); replace HB := yaa (below_step (upH HB.out) hb); (try clear hb ho0); have p10 : 0 ≤ (a1 : Int) := of_decide_eq_true (by assumption); have q10 : (a1 : Int) < ((a3.length : Int) : Int) := of_decide_eq_true (by assumption); obtain ⟨go10, d0, d1, d2, gl10, e4, HG10⟩ := Kd.S_form a2.out (by omega); (first | cases d1 | (injection d1 with ea_ en_ ec_; (first | subst ea_ | (injection ea_ with ea_; subst ea_)); subst ec_; clear en_)); have GB10 := yaa d2; have GG10 := yaa HG10; clear d2 gl10 HG10; obtain ⟨_, e5, hcl10, hM10, hcc10, hfr10, _, _⟩ := Kd.S_elem a2.out z156 (a1 : Int) p10 q10; obtain ⟨b5, rfl, ge10_2⟩ := k156_openM hM10; have d8 : w11.cell? ⟨go10, (a1 : Int).toNat * 3, none⟩ = some (.string ((rd_T156 a3 a1).f0)) := hcc10 0 _ rfl; have d9 : w11.cell? ⟨go10, (a1 : Int).toNat * 3 + 1, none⟩ = some (.int .i64 ((rd_T156 a3 a1).f1)) := hcc10 1 _ rfl; have e0 : w11.cell? ⟨go10, (a1 : Int).toNat * 3 + 2, none⟩ = some (b5) := hcc10 2 _ rfl; have hf10_0 : w11.frozen? ⟨go10, (a1 : Int).toNat * 3, none⟩ = false := hfr10 0; have hf10_1 : w11.frozen? ⟨go10, (a1 : Int).toNat * 3 + 1, none⟩ = false := hfr10 1; have hf10_2 : w11.frozen? ⟨go10, (a1 : Int).toNat * 3 + 2, none⟩ = false := hfr10 2; clear hcl10 hcc10 hfr10 hM10; replace p10 := eq_true p10; replace q10 := eq_true q10; have n_ := yaa (Kd.S_mono (ok' := (fun k_ => some k_ ≠ (b2 : Value).ownBlock)) a2.out (fun k_ hk => hk.2)); clear a2; have a2 := n_; clear n_; have HX12 := yaa (show Kd.S k156 156 w11 w.heap.size (fun k_ => ((fun _ => True)) k_ ∧ ¬ ((fun k_ => some k_ = (b2 : Value).ownBlock)) k_) (.slice (some ⟨go10, 0, none⟩) a3.length d0) a3 from (by (with_reducible repeat (first | apply Kd.S_alloc | apply Kd.S_drewN | apply Kd.S_drew)); exact Kd.S_mono a2.out (fun k_ hk => ⟨trivial, fun e_ => hk e_⟩))); obtain ⟨oki12, e6, hcl12, hM12, hcc12, hfr12, b6, hH12⟩ := Kd.S_elem HX12.out z156 (a1 : Int) (of_decide_eq_true (by assumption)) (by have h_ : (a1 : Int) < ((a3.length : Int) : Int) := of_decide_eq_true (by assumption); first | exact h_ | (have e_ := (Kd.S_reads' a2.out).1; omega) | simpa using h_); obtain ⟨e1, rfl, ge12_2⟩ := k156_openM hM12; have HP12 := Kd.S_seg hH12 (of_decide_eq_true (by assumption)) (by have h_ : (a1 : Int) < ((a3.length : Int) : Int) := of_decide_eq_true (by assumption); first | exact h_ | (have e_ := (Kd.S_reads' a2.out).1; omega) | simpa using h_) (seg := [.string a9, .int .i64 b0, b2]) (j := 0) (show 3 ≤ 3 from by decide) (x' := (⟨a9, b0, b1⟩ : S156)) (k156_mkM _ _ _ (⟨a9, b0, b1⟩ : S156) (Kd.R_mono (Kd.R_tight rfl (Kd.R_mono (ok' := fun k_ => ((fun _ => True)) k_ ∧ k_ ≠ go10) (Kd.R_apart' (a4.out) (Kd.S_typed a2.out) (by decide)) (fun k_ hk => ⟨trivial, fun e_ => (hk.2) (by rw [e_]; rfl)⟩))) (fun _ h_ => Or.inr (h_)))) (fun _ hk => hk) (fun k_ hk_ => ((Kd.R_mono (ok' := fun k_ => ((fun _ => True)) k_ ∧ k_ ≠ go10) (Kd.R_apart' (a4.out) (Kd.S_typed a2.out) (by decide)) (fun k_ hk => ⟨trivial, fun e_ => (hk.2) (by rw [e_]; rfl)⟩))).1 k_ hk_.symm); have b7 := hcc12 0 _ rfl; (try simp only [show (k156).sz = 3 from rfl, Nat.mul_one, Nat.add_zero] at b7); have hf12_0 := hfr12 0; (try simp only [show (k156).sz = 3 from rfl, Nat.mul_one, Nat.add_zero] at hf12_0); have b8 := hcc12 1 _ rfl; (try simp only [show (k156).sz = 3 from rfl, Nat.mul_one, Nat.add_zero] at b8); have hf12_1 := hfr12 1; (try simp only [show (k156).sz = 3 from rfl, Nat.mul_one, Nat.add_zero] at hf12_1); have b9 := hcc12 2 _ rfl; (try simp only [show (k156).sz = 3 from rfl, Nat.mul_one, Nat.add_zero] at b9); have hf12_2 := hfr12 2; (try simp only [show (k156).sz = 3 from rfl, Nat.mul_one, Nat.add_zero] at hf12_2); clear hcl12 hcc12 hfr12 hM12 b6 hH12) | ((with_reducible refine gate_store (t := 156) (p := 21) rfl ?_); refine store_event (t := 156) (p := 21) (v := ?vo_w13) (w1 := (((w11.setCell ⟨go10, (a1 : Int).toNat * 3, none⟩ (.string a9)).setCell ⟨go10, (a1 : Int).toNat * 3 + 1, none⟩ (.int .i64 b0)).setCell ⟨go10, (a1 : Int).toNat * 3 + 2, none⟩ (b2))) ?hg ?ho ?hn ?hr ?_; (case ho => rfl); (case hg => rfl); (case hn => rfl); (case hr => first | (go_simp; done) | (go_simp; rfl) | (obtain ⟨c4, c5, a5⟩ := Kd.R_slice a4.out; simp only [a5]; go_simp; done) | (obtain ⟨c4, c5, a5⟩ := Kd.R_slice a4.out; simp only [a5]; go_simp; rfl)); intro w13 hw; have hg : w11.grownBy w13 (some go10) := (by rw [hw]; exact HP12.2); have hp_ : Kd.S k156 156 w13 w.heap.size (fun _ => True) (.slice (some ⟨go10, 0, none⟩) a3.length d0) y110 := (by rw [hw, Ny110.out]; exact HP12.1); clear HP12; replace a2 := yaa (hp_); replace HB := yaa ((by rw [hw]; exact below_set (below_set (below_set (HB.out) GB10.out) GB10.out) GB10.out : Below w.heap.size w w13)); clear a4; clear hg hw hp_))
      go_roundg k1
      case measure => have := HK1.out; omega
      case rel => exact ⟨(y110), (wrap64 (a1 + 1)), (by first | rfl | (simp; done) | (simp [*]; done)), H', ⟨by have := HK1.out; omega⟩, ⟨by (with_reducible repeat (first | apply Kd.S_alloc | apply Kd.S_drewN | apply Kd.S_drew)); exact a2.out⟩, ⟨upH HB.out⟩⟩
     rw [if_neg c9] at H
     exact absurd H (by simp)
    rw [if_neg c7] at H
    exact absurd H (by simp)
   rw [if_neg c6] at H
   have d6 : decide (a1 < (l0.length : Int)) = false := decide_eq_false c6; clear c6; obtain rfl := Option.some.inj H
   go_wp2
   go_ret
   exact ⟨_, by first | rfl | (simp [*, errW_none, errW_some] <;> rfl), by (with_reducible repeat (first | apply Kd.S_alloc | apply Kd.S_drewN | apply Kd.S_drew)); exact a2.out, upH HB.out⟩
end
section
def laws_toStringS.l0 : Nat → List ByteArray → List ByteArray → Int → Option (List ByteArray)
 | 0, _, _, _ => none
 | k + 1, x0, x3, x4 => if x4 < (x0.length : Int) then (if 0 ≤ x4 then (if x4 < (x3.length : Int) then (laws_toStringS.l0 k x0 (x3.set (x4 : Int).toNat (rdOf ByteArray.empty x0 x4)) (wrap64 (x4 + 1))) else (none)) else (none)) else (some x3)
def laws_toStringS.f (k : Nat) (l0 : List ByteArray) : Option (List ByteArray) := if 0 ≤ (l0.length : Int) then (if ((l0.length : Int) : Int).toNat ≤ 17592186044416 then (laws_toStringS.l0 k l0 (List.replicate ((l0.length : Int) : Int).toNat (⟨#[]⟩ : ByteArray)) 0) else (none)) else (none)
set_option maxHeartbeats 8000000 in
set_option maxRecDepth 100000 in
theorem laws_toStringS.calls (k : Nat) (A0 : Option Addr) (c0 : Nat) (l0 : List ByteArray) (r : List ByteArray) (w : World) (hr0 : Kd.C Kd.string w A0 l0.length l0) (hc0 : l0.length ≤ c0) (h : laws_toStringS.f k l0 = some r) :
  Calls Try.prog 113 #[.slice A0 l0.length c0] w fun e w' => ∃ v0_ : Value, e = .returned (v0_) ∧ Kd.R Kd.string 9 w' w.heap.size (fun _ => True) v0_ r ∧ Below w.heap.size w w' := by
 have HR0 := Aside0.mk hr0; have HC0 := Aside0.mk hc0; clear hr0 hc0; have HB := Aside0.mk (Below.refl w.heap.size w); have H : (if 0 ≤ (l0.length : Int) then (if ((l0.length : Int) : Int).toNat ≤ 17592186044416 then (laws_toStringS.l0 k l0 (List.replicate ((l0.length : Int) : Int).toNat (⟨#[]⟩ : ByteArray)) 0) else (none)) else (none)) = some r := h; clear h
 by_cases c2 : 0 ≤ (l0.length : Int)
 rotate_left
 ·
  rw [if_neg c2] at H
  exact absurd H (by simp)
 rw [if_pos c2] at H
 have a6 := eq_true c2; replace c2 := decide_eq_true c2
 by_cases c3 : ((l0.length : Int) : Int).toNat ≤ 17592186044416
 rotate_left
 ·
  rw [if_neg c3] at H
  exact absurd H (by simp)
 rw [if_pos c3] at H
 have a7 := eq_true c3; replace c3 := decide_eq_true c3; obtain ⟨y101, hy101⟩ : ∃ y_ : List ByteArray, y_ = (List.replicate ((l0.length : Int) : Int).toNat (⟨#[]⟩ : ByteArray)) := ⟨_, rfl⟩
 replace H : (laws_toStringS.l0 k l0 y101 0) = some r := by first | (rw [hy101]; with_reducible exact H) | (have H2_ := (Option.bind_some _ _).symm.trans H; rw [hy101]; with_reducible exact H2_) | (have H2_ := (Option.bind_some _ _).symm.trans H; with_reducible exact H2_) | with_reducible exact H | (rw [hy101]; exact H) | exact H
 have Ny101 := Aside0.mk hy101; clear hy101; have H' := Aside0.mk H; clear H
 go_enter Try.func113, Try.ntmps113
 go_wp2_with (first | ((with_reducible refine gd_ 7 rfl ?_); refine Kd.R_make Kd.string _ 9 rfl (N := 7) rfl 60 _ _ rfl (l0.length : Int) rfl rfl Try.underlying60 (.string ⟨#[]⟩) 16 info9 rfl (by decide) (by omega) (⟨#[]⟩ : ByteArray) (ok := fun _ => True) (okp := fun _ => True) rfl (fun _ hk => hk) trivial (of_decide_eq_true (by assumption)) (Nat.le_trans (Nat.mul_le_mul_right _ (of_decide_eq_true (by assumption) : (l0.length : Int).toNat ≤ 17592186044416)) (by omega)) (Below.refl _ _) (Nat.le_refl _) ?_; intro a8 w4 ho5 hb hg_ hnew_; clear hg_ hnew_; (first | rw [← Ny101.out] at ho5 | (simp only [Int.reduceToNat] at ho5; rw [← Ny101.out] at ho5)); have a5 := Aside0.mk (Kd.R_lower ho5 (below_size (upH HB.out))); replace HB := Aside0.mk (below_step (upH HB.out) hb); clear hb ho5))
 (try simp only [Act.put, List.setIfInBounds_toArray, List.set_cons_zero, List.set_cons_succ])
 go_loopg [4] k (fun kq v4 w' => ∃ (a3 : List ByteArray) (a1 : Int), v4 = .int .i64 a1 ∧ Aside0 (laws_toStringS.l0 kq l0 a3 a1 = some r) ∧ Aside0 (kq ≤ k) ∧ Aside0 (Kd.R Kd.string 9 w' w.heap.size (fun _ => True) a8 a3) ∧ Aside0 (Below w.heap.size w w'))
 case atStart => exact ⟨(y101), (0), (by first | rfl | (simp; done) | (simp [*]; done)), H', ⟨Nat.le_refl _⟩, ⟨by first | exact a5.out | exact upR a5.out⟩, ⟨upH HB.out⟩⟩
 case round =>
  clear H'; (try clear c1); (try clear c2); (try clear a6); (try clear c2b1); (try clear p2); (try clear c3); (try clear a7); (try clear c3b1); obtain ⟨a3, a1, rfl, HA, HK1, a2, HB⟩ := hrel
  cases gk with
  | zero => exact absurd HA.out (by simp [laws_toStringS.l0])
  | succ k1 =>
   have H := HA.out; clear HA
   simp only [laws_toStringS.l0] at H
   by_cases c6 : a1 < (l0.length : Int)
   rotate_left
   ·
    rw [if_neg c6] at H
    have a9 : decide (a1 < (l0.length : Int)) = false := decide_eq_false c6; clear c6; obtain rfl := Option.some.inj H
    go_wp2
    go_ret
    exact ⟨_, by first | rfl | (simp [*, errW_none, errW_some] <;> rfl), by first | exact a2.out | exact upR a2.out, upH HB.out⟩
   rw [if_pos c6] at H
   have a9 : decide (a1 < (l0.length : Int)) = true := decide_eq_true c6; clear c6
   by_cases c7 : 0 ≤ a1
   ·
    rw [if_pos c7] at H
    replace c7 := decide_eq_true c7
    by_cases c8 : a1 < (a3.length : Int)
    ·
     rw [if_pos c8] at H
     replace c8 := decide_eq_true c8; obtain ⟨y105, hy105⟩ : ∃ y_ : List ByteArray, y_ = (a3.set (a1 : Int).toNat (rdOf ByteArray.empty l0 a1)) := ⟨_, rfl⟩
     replace H : (laws_toStringS.l0 k1 l0 y105 (wrap64 (a1 + 1))) = some r := by first | (rw [hy105]; with_reducible exact H) | (have H2_ := (Option.bind_some _ _).symm.trans H; rw [hy105]; with_reducible exact H2_) | (have H2_ := (Option.bind_some _ _).symm.trans H; with_reducible exact H2_) | with_reducible exact H | (rw [hy105]; exact H) | exact H
     have Ny105 := Aside0.mk hy105; clear hy105; have H' := Aside0.mk H; clear H; have p104 : 0 ≤ (a1 : Int) := of_decide_eq_true (by assumption); have q104 : a1 < (l0.length : Int) := of_decide_eq_true (by assumption); obtain ⟨ad104, b0, a4⟩ := Kd.at_string HR0.out a1 p104 q104
     cases b0
     replace a4 := (upc_ HB.out a4 :); replace p104 := eq_true p104; replace q104 := eq_true q104; have p9 : 0 ≤ (a1 : Int) := of_decide_eq_true (by assumption); have q9 : (a1 : Int) < ((a3.length : Int) : Int) := of_decide_eq_true (by assumption); obtain ⟨go9, co9, eo9, gb9, gl9, cl9, HG9⟩ := Kd.R_form a2.out (by omega)
     (first | cases eo9 | (injection eo9 with ea_ en_ ec_; (first | subst ea_ | (injection ea_ with ea_; subst ea_)); subst ec_; clear en_))
     have GB9 := Aside0.mk gb9; have GG9 := Aside0.mk HG9; clear gb9 gl9 HG9; obtain ⟨b1, hf9_0⟩ := Kd.R_celln (⟨#[]⟩ : ByteArray) a2.out (a1 : Int) p9 q9; replace p9 := eq_true p9; replace q9 := eq_true q9; have HP10 := Kd.R_putg a2.out (a1 : Int) (rdOf ByteArray.empty l0 a1)
     go_wp2_with (first | ((with_reducible refine gate_store (t := 9) (p := 20) rfl ?_); refine store_event (t := 9) (p := 20) (v := ?vo_w11) (w1 := (wr.setCell ⟨go9, (a1 : Int).toNat, none⟩ (.string (rdOf ByteArray.empty l0 a1)))) ?hg ?ho ?hn ?hr ?_; (case ho => rfl); (case hg => rfl); (case hn => rfl); (case hr => first | (go_simp; done) | (go_simp; rfl)); intro w11 hw; have hg : wr.grownBy w11 (some go9) := (by rw [hw]; exact HP10.2); have hp_ : Kd.R Kd.string 9 w11 w.heap.size (fun _ => True) (.slice (some ⟨go9, 0, none⟩) a3.length co9) y105 := (by rw [hw, Ny105.out]; exact HP10.1); clear HP10; replace a2 := Aside0.mk (hp_); replace HB := Aside0.mk ((by rw [hw]; exact below_set (HB.out) GB9.out : Below w.heap.size w w11)); clear hg hw hp_))
     go_roundg k1
     case measure => have := HK1.out; omega
     case rel => exact ⟨(y105), (wrap64 (a1 + 1)), (by first | rfl | (simp; done) | (simp [*]; done)), H', ⟨by have := HK1.out; omega⟩, ⟨by first | exact a2.out | exact upR a2.out⟩, ⟨upH HB.out⟩⟩
    rw [if_neg c8] at H
    exact absurd H (by simp)
   rw [if_neg c7] at H
   exact absurd H (by simp)
end
section
open Go.Proofs.YtgpkkkmapgnhkaaW.PrintWords.Aside0 renaming mk → yaa
def laws_toTenOut.f (k : Nat) (a0_0 : Int) (a0_1 : Int) (l0_2 : List Int) : Option (Int × Int × List Int) := (laws_toByteS.f k l0_2).bind fun t104 => (some (a0_0, a0_1, t104))
set_option maxHeartbeats 8000000 in
set_option maxRecDepth 100000 in
theorem laws_toTenOut.calls (k : Nat) (a0_0 : Int) (a0_1 : Int) (A0_2 : Option Addr) (c0_2 : Nat) (l0_2 : List Int) (r1 : Int) (r2 : Int) (r3 : List Int) (w : World) (hr0_2 : Kd.C (Kd.int .u8) w A0_2 l0_2.length l0_2) (hc0_2 : l0_2.length ≤ c0_2) (h : laws_toTenOut.f k a0_0 a0_1 l0_2 = some (r1, r2, r3)) :
  Calls Try.prog 142 #[.agg #[.int .i64 a0_0, .int .i64 a0_1, .slice A0_2 l0_2.length c0_2]] w fun e w' => ∃ v2_ : Value, e = .returned (.agg #[.int .i64 r1, .int .i64 r2, v2_]) ∧ Kd.R (Kd.int .u8) 5 w' w.heap.size (fun _ => True) v2_ r3 ∧ Below w.heap.size w w' := by
 have hu169 := Try.underlying169; have hu158 := Try.underlying158; have HR0_2 := yaa hr0_2; have HC0_2 := yaa hc0_2; clear hr0_2 hc0_2; have HB := yaa (Below.refl w.heap.size w); have H : ((laws_toByteS.f k l0_2).bind fun b2 => (some (a0_0, a0_1, b2))) = some (r1, r2, r3) := h; clear h; obtain ⟨b2, A2, H⟩ := bindA H; (try dsimp only at H)
 simp only [Option.some.injEq, Prod.mk.injEq] at H
 obtain ⟨rfl, rfl, rfl⟩ := H
 go_enter Try.func142, Try.ntmps142
 go_wp2_with (first | ((with_reducible refine gd_ 1 rfl ?_); refine bx_ 1 rfl #[.int .i64 a0_0, .int .i64 a0_1, .slice A0_2 l0_2.length c0_2] 169 ?_; intro b1 hg w3 hbox hb; have a4 := yaa (hbox); have c0 := yaa ((by rw [hg]; exact (below_size (upH HB.out)) : w.heap.size ≤ b1)); replace HB := yaa (below_step (upH HB.out) hb); have f0 := c0; clear hb hbox hg) | ((with_reducible refine gd_ 2 rfl ?_); refine bx_ 2 rfl #[.int .i64 0, .int .i64 0, .slice none 0 0] 158 ?_; intro a7 hg w4 hbox hb; have a5 := yaa (hbox); have c1 := yaa ((by rw [hg]; exact (below_size (by repeat (with_reducible first | exact HB.out | apply below_alloc | apply pw_below_drewN | apply below_drew1 | refine below_set ?_ (Aside0.out ‹_›)))) : w.heap.size ≤ a7)); replace HB := yaa (below_step (by repeat (with_reducible first | exact HB.out | apply below_alloc | apply pw_below_drewN | apply below_drew1 | refine below_set ?_ (Aside0.out ‹_›))) hb); have f1 := c1; have a9 := yaa ((by rw [hg]; exact Nat.ne_of_lt (blk_lt (upB a4.out)) : b1 ≠ a7)); replace a4 := yaa (blk_below (upB a4.out) hb); have b3 := yaa a9.out.symm; clear hb hbox hg) | ((with_reducible refine gd_ 3 rfl ?_); refine bx_ 3 rfl #[.int .i64 0, .int .i64 0, .slice none 0 0] 158 ?_; intro b0 hg w5 hbox hb; have a8 := yaa (hbox); have c2 := yaa ((by rw [hg]; exact (below_size (by repeat (with_reducible first | exact HB.out | apply below_alloc | apply pw_below_drewN | apply below_drew1 | refine below_set ?_ (Aside0.out ‹_›)))) : w.heap.size ≤ b0)); replace HB := yaa (below_step (by repeat (with_reducible first | exact HB.out | apply below_alloc | apply pw_below_drewN | apply below_drew1 | refine below_set ?_ (Aside0.out ‹_›))) hb); have f2 := c2; have a6 := yaa ((by rw [hg]; exact Nat.ne_of_lt (blk_lt (upB a4.out)) : b1 ≠ b0)); replace a4 := yaa (blk_below (upB a4.out) hb); have b4 := yaa a6.out.symm; have a3 := yaa ((by rw [hg]; exact Nat.ne_of_lt (blk_lt (upB a5.out)) : a7 ≠ b0)); replace a5 := yaa (blk_below (upB a5.out) hb); have b5 := yaa a3.out.symm; clear hb hbox hg; have f3 := a9.out; have f4 := b3.out; have f5 := a6.out; have f6 := b4.out; obtain ⟨e1, e2, e3⟩ := cc3_ a4.out; obtain ⟨e4, e5, e6⟩ := cf3_ a4.out; have f7 := b5.out; have f8 := a3.out; obtain ⟨c3, c4, c5⟩ := cc3_ a8.out; obtain ⟨c6, c7⟩ := cf2_ a8.out; have c8 := blk_frozen a8.out 2) | ((with_reducible refine gc_ 66 rfl ?_); refine gl_ (some 12) rfl Try.func66 #[.slice A0_2 l0_2.length c0_2] ?_; (with_reducible refine (laws_toByteS.calls k _ _ l0_2 b2 _ ?side1 ?side2 A2.out).mono ?_); (case side1 => exact Kd.C_below HR0_2.out (by repeat (with_reducible first | exact HB.out | apply below_alloc | apply pw_below_drewN | apply below_drew1 | refine below_set ?_ (Aside0.out ‹_›)))); (case side2 => exact HC0_2.out); rintro e w11 ⟨f9, rfl, ho0, hb⟩; refine ⟨_, rfl, ?_⟩; have b6 := yaa (Kd.R_lower ho0 (below_size (by repeat (with_reducible first | exact HB.out | apply below_alloc | apply pw_below_drewN | apply below_drew1 | refine below_set ?_ (Aside0.out ‹_›))))); replace a4 := yaa (blk_below (g := b1) (o := .cells #[.int .i64 a0_0, .int .i64 a0_1, .slice A0_2 l0_2.length c0_2] 169 (0, 0)) (by repeat (with_reducible first | exact a4.out | refine oneB ?_ | refine blk_far ?_ a6.out _)) hb); replace a5 := yaa (blk_below (g := a7) (o := .cells #[.int .i64 0, .int .i64 0, .slice none 0 0] 158 (0, 0)) (by repeat (with_reducible first | exact a5.out | refine oneB ?_ | refine blk_far ?_ a3.out _)) hb); replace a8 := yaa (blk_below (g := b0) (o := .cells #[.int .i64 a0_0, .int .i64 a0_1, .slice none 0 0] 158 (0, 0)) (by (repeat refine oneB ?_); refine blk_put (cs := #[.int .i64 a0_0, .int .i64 0, .slice none 0 0]) ?_ 1 _ rfl; refine blk_put (cs := #[.int .i64 0, .int .i64 0, .slice none 0 0]) ?_ 0 _ rfl; exact upB a8.out) hb); replace HB := yaa (below_step (by repeat (with_reducible first | exact HB.out | apply below_alloc | apply pw_below_drewN | apply below_drew1 | refine below_set ?_ (Aside0.out ‹_›))) hb); (try clear hb ho0); obtain ⟨b8, b9, e9⟩ := Kd.R_slice b6.out; subst e9; obtain ⟨c9, d0, d1⟩ := cc3_ a8.out; obtain ⟨d2, d3, d4⟩ := cf3_ a8.out; obtain ⟨d5, d6, d7⟩ := cc3_ a5.out; obtain ⟨d8, d9⟩ := cf2_ a5.out; have e0 := blk_frozen a5.out 2))
 refine bodyPost_ret (results_cell_row rfl _ _ a7 158 #[.int .i64 a0_0, .int .i64 a0_1, .slice b8 b2.length b9] (0, 0) _ rfl (by (repeat refine oneB ?_); refine blk_put (cs := #[.int .i64 a0_0, .int .i64 a0_1, .slice none 0 0]) ?_ 2 _ rfl; refine blk_put (cs := #[.int .i64 a0_0, .int .i64 0, .slice none 0 0]) ?_ 1 _ rfl; refine blk_put (cs := #[.int .i64 0, .int .i64 0, .slice none 0 0]) ?_ 0 _ rfl; (repeat refine oneB ?_); refine blk_far ?_ a3.out _; exact upB a5.out) Try.underlying158 rfl (by kernel_rfl)) rfl ?_
 exact ⟨_, by first | rfl | (simp [*, errW_none, errW_some] <;> rfl), by (with_reducible repeat (first | apply Kd.R_alloc | apply Kd.R_drewN | apply Kd.R_drew)); exact Kd.R_mono (Kd.R_far (p := ⟨a7, 2, none⟩) (Kd.R_far (p := ⟨a7, 1, none⟩) (Kd.R_far (p := ⟨a7, 0, none⟩) (Kd.R_far (p := ⟨b0, 2, none⟩) (Kd.R_types (Kd.R_types b6.out a8.out (by decide)) a5.out (by decide)) (fun _ hk => hk.1.2) (.slice b8 b2.length b9)) (fun _ hk => hk.2) (.int .i64 a0_0)) (fun _ hk => hk.2) (.int .i64 a0_1)) (fun _ hk => hk.2) (.slice b8 b2.length b9)) (fun _ hk => trivial), by repeat (with_reducible first | exact HB.out | apply below_alloc | apply pw_below_drewN | apply below_drew1 | refine below_set ?_ (Aside0.out ‹_›))⟩
end
section
open Go.Proofs.YtgpkkkmapgnhkaaW.PrintWords.Aside0 renaming mk → yaa
def laws_toTenOutS.l0 : Nat → List (S169) → List (S158) → Int → Option ((List (S158)))
 | 0, _, _, _ => none
 | k + 1, x0, x3, x4 => if x4 < (x0.length : Int) then (if 0 ≤ x4 then ((laws_toTenOut.f k ((rd_T169 x0 x4).f0) ((rd_T169 x0 x4).f1) ((rd_T169 x0 x4).f2)).bind fun bt105 => (if x4 < (x3.length : Int) then (laws_toTenOutS.l0 k x0 (x3.set (x4 : Int).toNat (⟨bt105.1, bt105.2.1, bt105.2.2⟩ : S158)) (wrap64 (x4 + 1))) else (none))) else (none)) else (some x3)
def laws_toTenOutS.f (k : Nat) (l0 : List (S169)) : Option ((List (S158))) := if 0 ≤ (l0.length : Int) then (if ((l0.length : Int) : Int).toNat ≤ 7036874417766 then (laws_toTenOutS.l0 k l0 (List.replicate ((l0.length : Int) : Int).toNat z158) 0) else (none)) else (none)
set_option maxHeartbeats 8000000 in
set_option maxRecDepth 100000 in
theorem laws_toTenOutS.calls (k : Nat) (A0 : Option Addr) (c0 : Nat) (l0 : List (S169)) (r : List (S158)) (w : World) (hr0 : Kd.C k169 w A0 l0.length l0) (hc0 : l0.length ≤ c0) (h : laws_toTenOutS.f k l0 = some r) :
  Calls Try.prog 114 #[.slice A0 l0.length c0] w fun e w' => ∃ v0_ : Value, e = .returned (v0_) ∧ Kd.S k158 158 w' w.heap.size (fun _ => True) v0_ r ∧ Below w.heap.size w w' := by
 have hu169 := Try.underlying169; have hu158 := Try.underlying158; have HR0 := yaa hr0; have HC0 := yaa hc0; clear hr0 hc0; have HB := yaa (Below.refl w.heap.size w); have H : (if 0 ≤ (l0.length : Int) then (if ((l0.length : Int) : Int).toNat ≤ 7036874417766 then (laws_toTenOutS.l0 k l0 (List.replicate ((l0.length : Int) : Int).toNat z158) 0) else (none)) else (none)) = some r := h; clear h
 by_cases c2 : 0 ≤ (l0.length : Int)
 rotate_left
 ·
  rw [if_neg c2] at H
  exact absurd H (by simp)
 rw [if_pos c2] at H
 have d3 := eq_true c2; replace c2 := decide_eq_true c2
 by_cases c3 : ((l0.length : Int) : Int).toNat ≤ 7036874417766
 rotate_left
 ·
  rw [if_neg c3] at H
  exact absurd H (by simp)
 rw [if_pos c3] at H
 have d4 := eq_true c3; replace c3 := decide_eq_true c3; obtain ⟨y101, hy101⟩ : ∃ y_ : List (S158), y_ = (List.replicate ((l0.length : Int) : Int).toNat z158) := ⟨_, rfl⟩
 replace H : (laws_toTenOutS.l0 k l0 y101 0) = some r := by first | (rw [hy101]; with_reducible exact H) | (have H2_ := (Option.bind_some _ _).symm.trans H; rw [hy101]; with_reducible exact H2_) | (have H2_ := (Option.bind_some _ _).symm.trans H; with_reducible exact H2_) | with_reducible exact H | (rw [hy101]; exact H) | exact H
 have Ny101 := yaa hy101; clear hy101; have H' := yaa H; clear H
 go_enter Try.func114, Try.ntmps114
 go_wp2_with (first | ((with_reducible refine gd_ 7 rfl ?_); refine Kd.S_make k158 _ 158 rfl (N := 7) rfl 61 _ _ rfl (l0.length : Int) rfl rfl Try.underlying61 (.agg #[(.int .i64 0), (.int .i64 0), (.slice none 0 0)]) 40 info158 rfl (by decide) (by omega) z158 (ok := fun _ => True) (okp := fun _ => True) (k158_mkM _ _ _ z158 (Kd.R_nil _ _ _ _ _)) (fun _ hk => hk) trivial (of_decide_eq_true (by assumption)) (Nat.le_trans (Nat.mul_le_mul_right _ (of_decide_eq_true (by assumption) : (l0.length : Int).toNat ≤ 7036874417766)) (by omega)) (Below.refl _ _) (Nat.le_refl _) ?_; intro d5 w4 ho5 hb hg_ hnew_; clear hg_ hnew_; (first | rw [← Ny101.out] at ho5 | (simp only [Int.reduceToNat] at ho5; rw [← Ny101.out] at ho5)); have c8 := yaa (Kd.S_lower ho5 (below_size (upH HB.out))); replace HB := yaa (below_step (upH HB.out) hb); clear hb ho5))
 (try simp only [Act.put, List.setIfInBounds_toArray, List.set_cons_zero, List.set_cons_succ])
 go_loopg [4] k (fun kq v4 w' => ∃ (a3 : List (S158)) (a1 : Int), v4 = .int .i64 a1 ∧ Aside0 (laws_toTenOutS.l0 kq l0 a3 a1 = some r) ∧ Aside0 (kq ≤ k) ∧ Aside0 (Kd.S k158 158 w' w.heap.size (fun _ => True) d5 a3) ∧ Aside0 (Below w.heap.size w w'))
 case atStart => exact ⟨(y101), (0), (by first | rfl | (simp; done) | (simp [*]; done)), H', ⟨Nat.le_refl _⟩, ⟨by (with_reducible repeat (first | apply Kd.S_alloc | apply Kd.S_drewN | apply Kd.S_drew)); exact c8.out⟩, ⟨upH HB.out⟩⟩
 case round =>
  clear H'; (try clear c1); (try clear c2); (try clear d3); (try clear c2b1); (try clear p2); (try clear c3); (try clear d4); (try clear c3b1); obtain ⟨a3, a1, rfl, HA, HK1, a2, HB⟩ := hrel
  cases gk with
  | zero => exact absurd HA.out (by simp [laws_toTenOutS.l0])
  | succ k1 =>
   have H := HA.out; clear HA
   simp only [laws_toTenOutS.l0] at H
   by_cases c6 : a1 < (l0.length : Int)
   ·
    rw [if_pos c6] at H
    have d6 : decide (a1 < (l0.length : Int)) = true := decide_eq_true c6; clear c6
    by_cases c7 : 0 ≤ a1
    ·
     rw [if_pos c7] at H
     replace c7 := decide_eq_true c7; obtain ⟨⟨a9, b0, b1⟩, A8, H⟩ := bindA H; (try dsimp only at H)
     by_cases c9 : a1 < (a3.length : Int)
     ·
      rw [if_pos c9] at H
      replace c9 := decide_eq_true c9; obtain ⟨y110, hy110⟩ : ∃ y_ : List (S158), y_ = (a3.set (a1 : Int).toNat (⟨a9, b0, b1⟩ : S158)) := ⟨_, rfl⟩
      replace H : (laws_toTenOutS.l0 k1 l0 y110 (wrap64 (a1 + 1))) = some r := by first | (rw [hy110]; with_reducible exact H) | (have H2_ := (Option.bind_some _ _).symm.trans H; rw [hy110]; with_reducible exact H2_) | (have H2_ := (Option.bind_some _ _).symm.trans H; with_reducible exact H2_) | with_reducible exact H | (rw [hy110]; exact H) | exact H
      have Ny110 := yaa hy110; clear hy110; have H' := yaa H; clear H; have p104 : 0 ≤ (a1 : Int) := of_decide_eq_true (by assumption); have q104 : a1 < (l0.length : Int) := of_decide_eq_true (by assumption); obtain ⟨ad104, b3, b4, d7, a6, a7, a8, hl104_2, hi104_2⟩ := at_T169 HR0.out a1 p104 q104
      cases d7
      replace a6 := (upc_ HB.out a6 :); replace a7 := (upc_ HB.out a7 :); replace a8 := (upc_ HB.out a8 :); have HR104_2 := yaa hi104_2; have HC104_2 := yaa hl104_2; clear hi104_2 hl104_2; replace p104 := eq_true p104; replace q104 := eq_true q104
      go_wp2_with (first | ((with_reducible refine gc_ 142 rfl ?_); refine gl_ (some 20) rfl Try.func142 #[.agg #[.int .i64 ((rd_T169 l0 a1).f0), .int .i64 ((rd_T169 l0 a1).f1), .slice b3 ((rd_T169 l0 a1).f2).length b4]] ?_; (with_reducible refine (laws_toTenOut.calls k1 ((rd_T169 l0 a1).f0) ((rd_T169 l0 a1).f1) _ _ ((rd_T169 l0 a1).f2) a9 b0 b1 _ ?side1 ?side2 A8.out).mono ?_); (case side1 => repeat (first | exact (Kd.C_below HR104_2.out HB.out) | (with_reducible refine Kd.C_alloc ?_ _) | (with_reducible refine Kd.C_drewN ?_ _) | (with_reducible refine Kd.C_drew ?_))); (case side2 => exact HC104_2.out); rintro e w11 ⟨b2, rfl, ho0, hb⟩; refine ⟨_, rfl, ?_⟩; replace a2 := yaa (Kd.S_elder' (by (with_reducible repeat (first | apply Kd.S_alloc | apply Kd.S_drewN | apply Kd.S_drew)); exact a2.out) (Kd.R_base ho0) hb); have a4 := yaa (Kd.R_lower ho0 (below_size (upH HB.out))); replace HB := yaa (below_step (upH HB.out) hb); (try clear hb ho0); have p10 : 0 ≤ (a1 : Int) := of_decide_eq_true (by assumption); have q10 : (a1 : Int) < ((a3.length : Int) : Int) := of_decide_eq_true (by assumption); obtain ⟨go10, d0, d1, d2, gl10, e4, HG10⟩ := Kd.S_form a2.out (by omega); (first | cases d1 | (injection d1 with ea_ en_ ec_; (first | subst ea_ | (injection ea_ with ea_; subst ea_)); subst ec_; clear en_)); have GB10 := yaa d2; have GG10 := yaa HG10; clear d2 gl10 HG10; obtain ⟨_, e5, hcl10, hM10, hcc10, hfr10, _, _⟩ := Kd.S_elem a2.out z158 (a1 : Int) p10 q10; obtain ⟨b5, rfl, ge10_2⟩ := k158_openM hM10; have d8 : w11.cell? ⟨go10, (a1 : Int).toNat * 3, none⟩ = some (.int .i64 ((rd_T158 a3 a1).f0)) := hcc10 0 _ rfl; have d9 : w11.cell? ⟨go10, (a1 : Int).toNat * 3 + 1, none⟩ = some (.int .i64 ((rd_T158 a3 a1).f1)) := hcc10 1 _ rfl; have e0 : w11.cell? ⟨go10, (a1 : Int).toNat * 3 + 2, none⟩ = some (b5) := hcc10 2 _ rfl; have hf10_0 : w11.frozen? ⟨go10, (a1 : Int).toNat * 3, none⟩ = false := hfr10 0; have hf10_1 : w11.frozen? ⟨go10, (a1 : Int).toNat * 3 + 1, none⟩ = false := hfr10 1; have hf10_2 : w11.frozen? ⟨go10, (a1 : Int).toNat * 3 + 2, none⟩ = false := hfr10 2; clear hcl10 hcc10 hfr10 hM10; replace p10 := eq_true p10; replace q10 := eq_true q10; have n_ := yaa (Kd.S_mono (ok' := (fun k_ => some k_ ≠ (b2 : Value).ownBlock)) a2.out (fun k_ hk => hk.2)); clear a2; have a2 := n_; clear n_; have HX12 := yaa (show Kd.S k158 158 w11 w.heap.size (fun k_ => ((fun _ => True)) k_ ∧ ¬ ((fun k_ => some k_ = (b2 : Value).ownBlock)) k_) (.slice (some ⟨go10, 0, none⟩) a3.length d0) a3 from (by (with_reducible repeat (first | apply Kd.S_alloc | apply Kd.S_drewN | apply Kd.S_drew)); exact Kd.S_mono a2.out (fun k_ hk => ⟨trivial, fun e_ => hk e_⟩))); obtain ⟨oki12, e6, hcl12, hM12, hcc12, hfr12, b6, hH12⟩ := Kd.S_elem HX12.out z158 (a1 : Int) (of_decide_eq_true (by assumption)) (by have h_ : (a1 : Int) < ((a3.length : Int) : Int) := of_decide_eq_true (by assumption); first | exact h_ | (have e_ := (Kd.S_reads' a2.out).1; omega) | simpa using h_); obtain ⟨e1, rfl, ge12_2⟩ := k158_openM hM12; have HP12 := Kd.S_seg hH12 (of_decide_eq_true (by assumption)) (by have h_ : (a1 : Int) < ((a3.length : Int) : Int) := of_decide_eq_true (by assumption); first | exact h_ | (have e_ := (Kd.S_reads' a2.out).1; omega) | simpa using h_) (seg := [.int .i64 a9, .int .i64 b0, b2]) (j := 0) (show 3 ≤ 3 from by decide) (x' := (⟨a9, b0, b1⟩ : S158)) (k158_mkM _ _ _ (⟨a9, b0, b1⟩ : S158) (Kd.R_mono (Kd.R_tight rfl (Kd.R_mono (ok' := fun k_ => ((fun _ => True)) k_ ∧ k_ ≠ go10) (Kd.R_apart' (a4.out) (Kd.S_typed a2.out) (by decide)) (fun k_ hk => ⟨trivial, fun e_ => (hk.2) (by rw [e_]; rfl)⟩))) (fun _ h_ => Or.inr (h_)))) (fun _ hk => hk) (fun k_ hk_ => ((Kd.R_mono (ok' := fun k_ => ((fun _ => True)) k_ ∧ k_ ≠ go10) (Kd.R_apart' (a4.out) (Kd.S_typed a2.out) (by decide)) (fun k_ hk => ⟨trivial, fun e_ => (hk.2) (by rw [e_]; rfl)⟩))).1 k_ hk_.symm); have b7 := hcc12 0 _ rfl; (try simp only [show (k158).sz = 3 from rfl, Nat.mul_one, Nat.add_zero] at b7); have hf12_0 := hfr12 0; (try simp only [show (k158).sz = 3 from rfl, Nat.mul_one, Nat.add_zero] at hf12_0); have b8 := hcc12 1 _ rfl; (try simp only [show (k158).sz = 3 from rfl, Nat.mul_one, Nat.add_zero] at b8); have hf12_1 := hfr12 1; (try simp only [show (k158).sz = 3 from rfl, Nat.mul_one, Nat.add_zero] at hf12_1); have b9 := hcc12 2 _ rfl; (try simp only [show (k158).sz = 3 from rfl, Nat.mul_one, Nat.add_zero] at b9); have hf12_2 := hfr12 2; (try simp only [show (k158).sz = 3 from rfl, Nat.mul_one, Nat.add_zero] at hf12_2); clear hcl12 hcc12 hfr12 hM12 b6 hH12) | ((with_reducible refine gate_store (t := 158) (p := 21) rfl ?_); refine store_event (t := 158) (p := 21) (v := ?vo_w13) (w1 := (((w11.setCell ⟨go10, (a1 : Int).toNat * 3, none⟩ (.int .i64 a9)).setCell ⟨go10, (a1 : Int).toNat * 3 + 1, none⟩ (.int .i64 b0)).setCell ⟨go10, (a1 : Int).toNat * 3 + 2, none⟩ (b2))) ?hg ?ho ?hn ?hr ?_; (case ho => rfl); (case hg => rfl); (case hn => rfl); (case hr => first | (go_simp; done) | (go_simp; rfl) | (obtain ⟨c4, c5, a5⟩ := Kd.R_slice a4.out; simp only [a5]; go_simp; done) | (obtain ⟨c4, c5, a5⟩ := Kd.R_slice a4.out; simp only [a5]; go_simp; rfl)); intro w13 hw; have hg : w11.grownBy w13 (some go10) := (by rw [hw]; exact HP12.2); have hp_ : Kd.S k158 158 w13 w.heap.size (fun _ => True) (.slice (some ⟨go10, 0, none⟩) a3.length d0) y110 := (by rw [hw, Ny110.out]; exact HP12.1); clear HP12; replace a2 := yaa (hp_); replace HB := yaa ((by rw [hw]; exact below_set (below_set (below_set (HB.out) GB10.out) GB10.out) GB10.out : Below w.heap.size w w13)); clear a4; clear hg hw hp_))
      go_roundg k1
      case measure => have := HK1.out; omega
      case rel => exact ⟨(y110), (wrap64 (a1 + 1)), (by first | rfl | (simp; done) | (simp [*]; done)), H', ⟨by have := HK1.out; omega⟩, ⟨by (with_reducible repeat (first | apply Kd.S_alloc | apply Kd.S_drewN | apply Kd.S_drew)); exact a2.out⟩, ⟨upH HB.out⟩⟩
     rw [if_neg c9] at H
     exact absurd H (by simp)
    rw [if_neg c7] at H
    exact absurd H (by simp)
   rw [if_neg c6] at H
   have d6 : decide (a1 < (l0.length : Int)) = false := decide_eq_false c6; clear c6; obtain rfl := Option.some.inj H
   go_wp2
   go_ret
   exact ⟨_, by first | rfl | (simp [*, errW_none, errW_some] <;> rfl), by (with_reducible repeat (first | apply Kd.S_alloc | apply Kd.S_drewN | apply Kd.S_drew)); exact a2.out, upH HB.out⟩
end
section
open Go.Proofs.YtgpkkkmapgnhkaaW.PrintWords.Aside0 renaming mk → yaa
open Go.Proofs.YtgpkkkmapgnhkaaW.PrintWords renaming pw_below_drewN → yab, below_alloc → yad, below_drew1 → yae, below_set → yaf
open Go.Proofs.YtgpkkkmapgnhkaaW.PrintWords.Kd renaming S_far → yac
def laws_toTenState.f (k : Nat) (a0_0 : Int) (a0_1 : Int) (a0_2 : Int) (a0_3 : Int) (l0_4 : List (S165)) (l0_5 : List (S167)) (l0_6 : List ByteArray) (l0_7 : List (S169)) : Option (Int × Int × Int × Int × (List (S124)) × (List (S156)) × List ByteArray × (List (S158))) := (laws_toTenJobS.f k l0_4).bind fun t104 => ((laws_toTenFileS.f k l0_5).bind fun t107 => ((laws_toStringS.f k l0_6).bind fun t110 => ((laws_toTenOutS.f k l0_7).bind fun t113 => (some (a0_0, a0_1, a0_2, a0_3, t104, t107, t110, t113)))))
set_option maxHeartbeats 8000000 in
set_option maxRecDepth 100000 in
theorem laws_toTenState.calls (k : Nat) (a0_0 : Int) (a0_1 : Int) (a0_2 : Int) (a0_3 : Int) (A0_4 : Option Addr) (c0_4 : Nat) (l0_4 : List (S165)) (A0_5 : Option Addr) (c0_5 : Nat) (l0_5 : List (S167)) (A0_6 : Option Addr) (c0_6 : Nat) (l0_6 : List ByteArray) (A0_7 : Option Addr) (c0_7 : Nat) (l0_7 : List (S169)) (r1 : Int) (r2 : Int) (r3 : Int) (r4 : Int) (r5 : List (S124)) (r6 : List (S156)) (r7 : List ByteArray) (r8 : List (S158)) (w : World) (hr0_4 : Kd.C k165 w A0_4 l0_4.length l0_4) (hc0_4 : l0_4.length ≤ c0_4) (hr0_5 : Kd.C k167 w A0_5 l0_5.length l0_5) (hc0_5 : l0_5.length ≤ c0_5) (hr0_6 : Kd.C Kd.string w A0_6 l0_6.length l0_6) (hc0_6 : l0_6.length ≤ c0_6) (hr0_7 : Kd.C k169 w A0_7 l0_7.length l0_7) (hc0_7 : l0_7.length ≤ c0_7) (h : laws_toTenState.f k a0_0 a0_1 a0_2 a0_3 l0_4 l0_5 l0_6 l0_7 = some (r1, r2, r3, r4, r5, r6, r7, r8)) :
  Calls Try.prog 55 #[.agg #[.int .i64 a0_0, .int .i64 a0_1, .int .i64 a0_2, .int .i64 a0_3, .slice A0_4 l0_4.length c0_4, .slice A0_5 l0_5.length c0_5, .slice A0_6 l0_6.length c0_6, .slice A0_7 l0_7.length c0_7]] w fun e w' => ∃ v4_ v5_ v6_ v7_ : Value, e = .returned (.agg #[.int .i64 r1, .int .i64 r2, .int .i64 r3, .int .i64 r4, v4_, v5_, v6_, v7_]) ∧ Kd.S k124 124 w' w.heap.size (fun _ => True) v4_ r5 ∧ Kd.S k156 156 w' w.heap.size (fun _ => True) v5_ r6 ∧ Kd.R Kd.string 9 w' w.heap.size (fun _ => True) v6_ r7 ∧ Kd.S k158 158 w' w.heap.size (fun _ => True) v7_ r8 ∧ Below w.heap.size w w' := by
 have hu83 := Try.underlying83; have hu63 := Try.underlying63; have HR0_4 := yaa hr0_4; have HC0_4 := yaa hc0_4; clear hr0_4 hc0_4; have HR0_5 := yaa hr0_5; have HC0_5 := yaa hc0_5; clear hr0_5 hc0_5; have HR0_6 := yaa hr0_6; have HC0_6 := yaa hc0_6; clear hr0_6 hc0_6; have HR0_7 := yaa hr0_7; have HC0_7 := yaa hc0_7; clear hr0_7 hc0_7; have HB := yaa (Below.refl w.heap.size w); have H : ((laws_toTenJobS.f k l0_4).bind fun b5 => ((laws_toTenFileS.f k l0_5).bind fun b6 => ((laws_toStringS.f k l0_6).bind fun b9 => ((laws_toTenOutS.f k l0_7).bind fun c1 => (some (a0_0, a0_1, a0_2, a0_3, b5, b6, b9, c1)))))) = some (r1, r2, r3, r4, r5, r6, r7, r8) := h; clear h; obtain ⟨b5, A2, H⟩ := bindA H; (try dsimp only at H); obtain ⟨b6, A3, H⟩ := bindA H; (try dsimp only at H); obtain ⟨b9, A4, H⟩ := bindA H; (try dsimp only at H); obtain ⟨c1, A5, H⟩ := bindA H; (try dsimp only at H)
 simp only [Option.some.injEq, Prod.mk.injEq] at H
 obtain ⟨rfl, rfl, rfl, rfl, rfl, rfl, rfl, rfl⟩ := H
 go_enter Try.func55, Try.ntmps55
 go_wp2_with (first | ((with_reducible refine gd_ 1 rfl ?_); refine bx_ 1 rfl #[.int .i64 a0_0, .int .i64 a0_1, .int .i64 a0_2, .int .i64 a0_3, .slice A0_4 l0_4.length c0_4, .slice A0_5 l0_5.length c0_5, .slice A0_6 l0_6.length c0_6, .slice A0_7 l0_7.length c0_7] 83 ?_; intro c4 hg w6 hbox hb; have b0 := yaa (hbox); have d9 := yaa ((by rw [hg]; exact (below_size (upH HB.out)) : w.heap.size ≤ c4)); replace HB := yaa (below_step (upH HB.out) hb); have v4 := d9; clear hb hbox hg) | ((with_reducible refine gd_ 2 rfl ?_); refine bx_ 2 rfl #[.int .i64 0, .int .i64 0, .int .i64 0, .int .i64 0, .slice none 0 0, .slice none 0 0, .slice none 0 0, .slice none 0 0] 63 ?_; intro a8 hg w7 hbox hb; have b1 := yaa (hbox); have e0 := yaa ((by rw [hg]; exact (below_size (by repeat (with_reducible first | exact HB.out | apply yad | apply yab | apply yae | refine yaf ?_ (Aside0.out ‹_›)))) : w.heap.size ≤ a8)); replace HB := yaa (below_step (by repeat (with_reducible first | exact HB.out | apply yad | apply yab | apply yae | refine yaf ?_ (Aside0.out ‹_›))) hb); have v5 := e0; have c7 := yaa ((by rw [hg]; exact Nat.ne_of_lt (blk_lt (upB b0.out)) : c4 ≠ a8)); replace b0 := yaa (blk_below (upB b0.out) hb); have d3 := yaa c7.out.symm; clear hb hbox hg) | ((with_reducible refine gd_ 3 rfl ?_); refine bx_ 3 rfl #[.int .i64 0, .int .i64 0, .int .i64 0, .int .i64 0, .slice none 0 0, .slice none 0 0, .slice none 0 0, .slice none 0 0] 63 ?_; intro b3 hg w8 hbox hb; have a9 := yaa (hbox); have e1 := yaa ((by rw [hg]; exact (below_size (by repeat (with_reducible first | exact HB.out | apply yad | apply yab | apply yae | refine yaf ?_ (Aside0.out ‹_›)))) : w.heap.size ≤ b3)); replace HB := yaa (below_step (by repeat (with_reducible first | exact HB.out | apply yad | apply yab | apply yae | refine yaf ?_ (Aside0.out ‹_›))) hb); have v6 := e1; have b4 := yaa ((by rw [hg]; exact Nat.ne_of_lt (blk_lt (upB b0.out)) : c4 ≠ b3)); replace b0 := yaa (blk_below (upB b0.out) hb); have d4 := yaa b4.out.symm; have b2 := yaa ((by rw [hg]; exact Nat.ne_of_lt (blk_lt (upB b1.out)) : a8 ≠ b3)); replace b1 := yaa (blk_below (upB b1.out) hb); have d5 := yaa b2.out.symm; clear hb hbox hg; have w1 := c7.out; have w2 := d3.out; have v7 := b4.out; have v8 := d4.out; obtain ⟨e2, e3, e4, e5, e6, e7, e8, e9⟩ := cc8_ b0.out; obtain ⟨f0, f1, f2, f3, f4, f5, f6, f7⟩ := cf8_ b0.out; have v9 := d5.out; have w0 := b2.out; obtain ⟨f8, f9, g0, g1, g2, g3, g4, g5⟩ := cc8_ a9.out; obtain ⟨g6, g7, g8, g9, h0, h1, h2⟩ := cf7_ a9.out; have h3 := blk_frozen a9.out 7) | ((with_reducible refine gc_ 111 rfl ?_); refine gl_ (some 18) rfl Try.func111 #[.slice A0_4 l0_4.length c0_4] ?_; (with_reducible refine (laws_toTenJobS.calls k _ _ l0_4 b5 _ ?side1 ?side2 A2.out).mono ?_); (case side1 => exact Kd.C_below HR0_4.out (by repeat (with_reducible first | exact HB.out | apply yad | apply yab | apply yae | refine yaf ?_ (Aside0.out ‹_›)))); (case side2 => exact HC0_4.out); rintro e w14 ⟨w3, rfl, ho0, hb⟩; refine ⟨_, rfl, ?_⟩; have c0 := yaa (Kd.S_lower ho0 (below_size (by repeat (with_reducible first | exact HB.out | apply yad | apply yab | apply yae | refine yaf ?_ (Aside0.out ‹_›))))); replace b0 := yaa (blk_below (g := c4) (o := .cells #[.int .i64 a0_0, .int .i64 a0_1, .int .i64 a0_2, .int .i64 a0_3, .slice A0_4 l0_4.length c0_4, .slice A0_5 l0_5.length c0_5, .slice A0_6 l0_6.length c0_6, .slice A0_7 l0_7.length c0_7] 83 (0, 0)) (by repeat (with_reducible first | exact b0.out | refine oneB ?_ | refine blk_far ?_ b4.out _)) hb); replace b1 := yaa (blk_below (g := a8) (o := .cells #[.int .i64 0, .int .i64 0, .int .i64 0, .int .i64 0, .slice none 0 0, .slice none 0 0, .slice none 0 0, .slice none 0 0] 63 (0, 0)) (by repeat (with_reducible first | exact b1.out | refine oneB ?_ | refine blk_far ?_ b2.out _)) hb); replace a9 := yaa (blk_below (g := b3) (o := .cells #[.int .i64 a0_0, .int .i64 a0_1, .int .i64 a0_2, .int .i64 a0_3, .slice none 0 0, .slice none 0 0, .slice none 0 0, .slice none 0 0] 63 (0, 0)) (by (repeat refine oneB ?_); refine blk_put (cs := #[.int .i64 a0_0, .int .i64 a0_1, .int .i64 a0_2, .int .i64 0, .slice none 0 0, .slice none 0 0, .slice none 0 0, .slice none 0 0]) ?_ 3 _ rfl; refine blk_put (cs := #[.int .i64 a0_0, .int .i64 a0_1, .int .i64 0, .int .i64 0, .slice none 0 0, .slice none 0 0, .slice none 0 0, .slice none 0 0]) ?_ 2 _ rfl; refine blk_put (cs := #[.int .i64 a0_0, .int .i64 0, .int .i64 0, .int .i64 0, .slice none 0 0, .slice none 0 0, .slice none 0 0, .slice none 0 0]) ?_ 1 _ rfl; refine blk_put (cs := #[.int .i64 0, .int .i64 0, .int .i64 0, .int .i64 0, .slice none 0 0, .slice none 0 0, .slice none 0 0, .slice none 0 0]) ?_ 0 _ rfl; exact upB a9.out) hb); replace HB := yaa (below_step (by repeat (with_reducible first | exact HB.out | apply yad | apply yab | apply yae | refine yaf ?_ (Aside0.out ‹_›))) hb); (try clear hb ho0); obtain ⟨b7, b8, v0⟩ := Kd.S_slice c0.out; subst v0; obtain ⟨h4, h5, h6, h7, h8, h9, i0, i1⟩ := cc8_ a9.out; obtain ⟨i2, i3, i4, i5, i6, i7, i8, i9⟩ := cf8_ a9.out; obtain ⟨j0, j1, j2, j3, j4, j5, j6, j7⟩ := cc8_ b0.out; obtain ⟨j8, j9, k0, k1, k2, k3, k4⟩ := cf7_ b0.out; have k5 := blk_frozen b0.out 7) | ((with_reducible refine gc_ 112 rfl ?_); refine gl_ (some 22) rfl Try.func112 #[.slice A0_5 l0_5.length c0_5] ?_; (with_reducible refine (laws_toTenFileS.calls k _ _ l0_5 b6 _ ?side1 ?side2 A3.out).mono ?_); (case side1 => exact Kd.C_below HR0_5.out (by repeat (with_reducible first | exact HB.out | apply yad | apply yab | apply yae | refine yaf ?_ (Aside0.out ‹_›)))); (case side2 => exact HC0_5.out); rintro e w18 ⟨w4, rfl, ho0, hb⟩; refine ⟨_, rfl, ?_⟩; replace c0 := yaa (Kd.S_below (by (with_reducible repeat (first | apply Kd.S_alloc | apply Kd.S_drewN | apply Kd.S_drew)); exact (Kd.S_mono (yac (p := ⟨b3, 4, none⟩) (Kd.S_types c0.out a9.out (by decide)) (fun _ hk => hk.2) (.slice b7 b5.length b8)) (fun _ h_ => h_.1))) hb); have c8 := yaa (Kd.S_lower ho0 (below_size (by repeat (with_reducible first | exact HB.out | apply yad | apply yab | apply yae | refine yaf ?_ (Aside0.out ‹_›))))); replace b0 := yaa (blk_below (g := c4) (o := .cells #[.int .i64 a0_0, .int .i64 a0_1, .int .i64 a0_2, .int .i64 a0_3, .slice A0_4 l0_4.length c0_4, .slice A0_5 l0_5.length c0_5, .slice A0_6 l0_6.length c0_6, .slice A0_7 l0_7.length c0_7] 83 (0, 0)) (by repeat (with_reducible first | exact b0.out | refine oneB ?_ | refine blk_far ?_ b4.out _)) hb); replace b1 := yaa (blk_below (g := a8) (o := .cells #[.int .i64 0, .int .i64 0, .int .i64 0, .int .i64 0, .slice none 0 0, .slice none 0 0, .slice none 0 0, .slice none 0 0] 63 (0, 0)) (by repeat (with_reducible first | exact b1.out | refine oneB ?_ | refine blk_far ?_ b2.out _)) hb); replace a9 := yaa (blk_below (g := b3) (o := .cells #[.int .i64 a0_0, .int .i64 a0_1, .int .i64 a0_2, .int .i64 a0_3, .slice b7 b5.length b8, .slice none 0 0, .slice none 0 0, .slice none 0 0] 63 (0, 0)) (by (repeat refine oneB ?_); refine blk_put (cs := #[.int .i64 a0_0, .int .i64 a0_1, .int .i64 a0_2, .int .i64 a0_3, .slice none 0 0, .slice none 0 0, .slice none 0 0, .slice none 0 0]) ?_ 4 _ rfl; exact upB a9.out) hb); replace HB := yaa (below_step (by repeat (with_reducible first | exact HB.out | apply yad | apply yab | apply yae | refine yaf ?_ (Aside0.out ‹_›))) hb); (try clear hb ho0); obtain ⟨c2, c3, v1⟩ := Kd.S_slice c8.out; subst v1; obtain ⟨k6, k7, k8, k9, l0, l1, l2, l3⟩ := cc8_ a9.out; obtain ⟨l4, l5, l6, l7, l8, l9, m0, m1⟩ := cf8_ a9.out; obtain ⟨m2, m3, m4, m5, m6, m7, m8, m9⟩ := cc8_ b0.out; obtain ⟨n0, n1, n2, n3, n4, n5, n6⟩ := cf7_ b0.out; have n7 := blk_frozen b0.out 7) | ((with_reducible refine gc_ 113 rfl ?_); refine gl_ (some 26) rfl Try.func113 #[.slice A0_6 l0_6.length c0_6] ?_; (with_reducible refine (laws_toStringS.calls k _ _ l0_6 b9 _ ?side1 ?side2 A4.out).mono ?_); (case side1 => exact Kd.C_below HR0_6.out (by repeat (with_reducible first | exact HB.out | apply yad | apply yab | apply yae | refine yaf ?_ (Aside0.out ‹_›)))); (case side2 => exact HC0_6.out); rintro e w22 ⟨w5, rfl, ho0, hb⟩; refine ⟨_, rfl, ?_⟩; replace c0 := yaa (Kd.S_below (by (with_reducible repeat (first | apply Kd.S_alloc | apply Kd.S_drewN | apply Kd.S_drew)); exact (Kd.S_mono (yac (p := ⟨b3, 5, none⟩) (Kd.S_types c0.out a9.out (by decide)) (fun _ hk => hk.2) (.slice c2 b6.length c3)) (fun _ h_ => h_.1))) hb); replace c8 := yaa (Kd.S_below (by (with_reducible repeat (first | apply Kd.S_alloc | apply Kd.S_drewN | apply Kd.S_drew)); exact (Kd.S_mono (yac (p := ⟨b3, 5, none⟩) (Kd.S_types c8.out a9.out (by decide)) (fun _ hk => hk.2) (.slice c2 b6.length c3)) (fun _ h_ => h_.1))) hb); have d2 := yaa (Kd.R_lower ho0 (below_size (by repeat (with_reducible first | exact HB.out | apply yad | apply yab | apply yae | refine yaf ?_ (Aside0.out ‹_›))))); replace b0 := yaa (blk_below (g := c4) (o := .cells #[.int .i64 a0_0, .int .i64 a0_1, .int .i64 a0_2, .int .i64 a0_3, .slice A0_4 l0_4.length c0_4, .slice A0_5 l0_5.length c0_5, .slice A0_6 l0_6.length c0_6, .slice A0_7 l0_7.length c0_7] 83 (0, 0)) (by repeat (with_reducible first | exact b0.out | refine oneB ?_ | refine blk_far ?_ b4.out _)) hb); replace b1 := yaa (blk_below (g := a8) (o := .cells #[.int .i64 0, .int .i64 0, .int .i64 0, .int .i64 0, .slice none 0 0, .slice none 0 0, .slice none 0 0, .slice none 0 0] 63 (0, 0)) (by repeat (with_reducible first | exact b1.out | refine oneB ?_ | refine blk_far ?_ b2.out _)) hb); replace a9 := yaa (blk_below (g := b3) (o := .cells #[.int .i64 a0_0, .int .i64 a0_1, .int .i64 a0_2, .int .i64 a0_3, .slice b7 b5.length b8, .slice c2 b6.length c3, .slice none 0 0, .slice none 0 0] 63 (0, 0)) (by (repeat refine oneB ?_); refine blk_put (cs := #[.int .i64 a0_0, .int .i64 a0_1, .int .i64 a0_2, .int .i64 a0_3, .slice b7 b5.length b8, .slice none 0 0, .slice none 0 0, .slice none 0 0]) ?_ 5 _ rfl; exact upB a9.out) hb); replace HB := yaa (below_step (by repeat (with_reducible first | exact HB.out | apply yad | apply yab | apply yae | refine yaf ?_ (Aside0.out ‹_›))) hb); (try clear hb ho0); obtain ⟨c5, c6, v2⟩ := Kd.R_slice d2.out; subst v2; obtain ⟨n8, n9, o0, o1, o2, o3, o4, o5⟩ := cc8_ a9.out; obtain ⟨o6, o7, o8, o9, p0, p1, p2, p3⟩ := cf8_ a9.out; obtain ⟨p4, p5, p6, p7, p8, p9, q0, q1⟩ := cc8_ b0.out; obtain ⟨q2, q3, q4, q5, q6, q7, q8⟩ := cf7_ b0.out; have q9 := blk_frozen b0.out 7) | ((with_reducible refine gc_ 114 rfl ?_); refine gl_ (some 30) rfl Try.func114 #[.slice A0_7 l0_7.length c0_7] ?_; (with_reducible refine (laws_toTenOutS.calls k _ _ l0_7 c1 _ ?side1 ?side2 A5.out).mono ?_); (case side1 => exact Kd.C_below HR0_7.out (by repeat (with_reducible first | exact HB.out | apply yad | apply yab | apply yae | refine yaf ?_ (Aside0.out ‹_›)))); (case side2 => exact HC0_7.out); rintro e w26 ⟨w9, rfl, ho0, hb⟩; refine ⟨_, rfl, ?_⟩; replace c0 := yaa (Kd.S_below (by (with_reducible repeat (first | apply Kd.S_alloc | apply Kd.S_drewN | apply Kd.S_drew)); exact (Kd.S_mono (yac (p := ⟨b3, 6, none⟩) (Kd.S_types c0.out a9.out (by decide)) (fun _ hk => hk.2) (.slice c5 b9.length c6)) (fun _ h_ => h_.1))) hb); replace c8 := yaa (Kd.S_below (by (with_reducible repeat (first | apply Kd.S_alloc | apply Kd.S_drewN | apply Kd.S_drew)); exact (Kd.S_mono (yac (p := ⟨b3, 6, none⟩) (Kd.S_types c8.out a9.out (by decide)) (fun _ hk => hk.2) (.slice c5 b9.length c6)) (fun _ h_ => h_.1))) hb); replace d2 := yaa (Kd.R_below (by (with_reducible repeat (first | apply Kd.R_alloc | apply Kd.R_drewN | apply Kd.R_drew)); exact (Kd.R_mono (Kd.R_far (p := ⟨b3, 6, none⟩) (Kd.R_types d2.out a9.out (by decide)) (fun _ hk => hk.2) (.slice c5 b9.length c6)) (fun _ h_ => h_.1))) hb); have d8 := yaa (Kd.S_lower ho0 (below_size (by repeat (with_reducible first | exact HB.out | apply yad | apply yab | apply yae | refine yaf ?_ (Aside0.out ‹_›))))); replace b0 := yaa (blk_below (g := c4) (o := .cells #[.int .i64 a0_0, .int .i64 a0_1, .int .i64 a0_2, .int .i64 a0_3, .slice A0_4 l0_4.length c0_4, .slice A0_5 l0_5.length c0_5, .slice A0_6 l0_6.length c0_6, .slice A0_7 l0_7.length c0_7] 83 (0, 0)) (by repeat (with_reducible first | exact b0.out | refine oneB ?_ | refine blk_far ?_ b4.out _)) hb); replace b1 := yaa (blk_below (g := a8) (o := .cells #[.int .i64 0, .int .i64 0, .int .i64 0, .int .i64 0, .slice none 0 0, .slice none 0 0, .slice none 0 0, .slice none 0 0] 63 (0, 0)) (by repeat (with_reducible first | exact b1.out | refine oneB ?_ | refine blk_far ?_ b2.out _)) hb); replace a9 := yaa (blk_below (g := b3) (o := .cells #[.int .i64 a0_0, .int .i64 a0_1, .int .i64 a0_2, .int .i64 a0_3, .slice b7 b5.length b8, .slice c2 b6.length c3, .slice c5 b9.length c6, .slice none 0 0] 63 (0, 0)) (by (repeat refine oneB ?_); refine blk_put (cs := #[.int .i64 a0_0, .int .i64 a0_1, .int .i64 a0_2, .int .i64 a0_3, .slice b7 b5.length b8, .slice c2 b6.length c3, .slice none 0 0, .slice none 0 0]) ?_ 6 _ rfl; exact upB a9.out) hb); replace HB := yaa (below_step (by repeat (with_reducible first | exact HB.out | apply yad | apply yab | apply yae | refine yaf ?_ (Aside0.out ‹_›))) hb); (try clear hb ho0); obtain ⟨d0, d1, v3⟩ := Kd.S_slice d8.out; subst v3; obtain ⟨r0, r9, s0, s1, s2, s3, s4, s5⟩ := cc8_ a9.out; obtain ⟨s6, s7, s8, s9, t0, t1, t2, t3⟩ := cf8_ a9.out; obtain ⟨t4, t5, t6, t7, t8, t9, u0, u1⟩ := cc8_ b1.out; obtain ⟨u2, u3, u4, u5, u6, u7, u8⟩ := cf7_ b1.out; have u9 := blk_frozen b1.out 7))
 refine bodyPost_ret (results_cell_row rfl _ _ a8 63 #[.int .i64 a0_0, .int .i64 a0_1, .int .i64 a0_2, .int .i64 a0_3, .slice b7 b5.length b8, .slice c2 b6.length c3, .slice c5 b9.length c6, .slice d0 c1.length d1] (0, 0) _ rfl (by (repeat refine oneB ?_); refine blk_put (cs := #[.int .i64 a0_0, .int .i64 a0_1, .int .i64 a0_2, .int .i64 a0_3, .slice b7 b5.length b8, .slice c2 b6.length c3, .slice c5 b9.length c6, .slice none 0 0]) ?_ 7 _ rfl; refine blk_put (cs := #[.int .i64 a0_0, .int .i64 a0_1, .int .i64 a0_2, .int .i64 a0_3, .slice b7 b5.length b8, .slice c2 b6.length c3, .slice none 0 0, .slice none 0 0]) ?_ 6 _ rfl; refine blk_put (cs := #[.int .i64 a0_0, .int .i64 a0_1, .int .i64 a0_2, .int .i64 a0_3, .slice b7 b5.length b8, .slice none 0 0, .slice none 0 0, .slice none 0 0]) ?_ 5 _ rfl; refine blk_put (cs := #[.int .i64 a0_0, .int .i64 a0_1, .int .i64 a0_2, .int .i64 a0_3, .slice none 0 0, .slice none 0 0, .slice none 0 0, .slice none 0 0]) ?_ 4 _ rfl; refine blk_put (cs := #[.int .i64 a0_0, .int .i64 a0_1, .int .i64 a0_2, .int .i64 0, .slice none 0 0, .slice none 0 0, .slice none 0 0, .slice none 0 0]) ?_ 3 _ rfl; refine blk_put (cs := #[.int .i64 a0_0, .int .i64 a0_1, .int .i64 0, .int .i64 0, .slice none 0 0, .slice none 0 0, .slice none 0 0, .slice none 0 0]) ?_ 2 _ rfl; refine blk_put (cs := #[.int .i64 a0_0, .int .i64 0, .int .i64 0, .int .i64 0, .slice none 0 0, .slice none 0 0, .slice none 0 0, .slice none 0 0]) ?_ 1 _ rfl; refine blk_put (cs := #[.int .i64 0, .int .i64 0, .int .i64 0, .int .i64 0, .slice none 0 0, .slice none 0 0, .slice none 0 0, .slice none 0 0]) ?_ 0 _ rfl; (repeat refine oneB ?_); refine blk_far ?_ b2.out _; exact upB b1.out) Try.underlying63 rfl (by kernel_rfl)) rfl ?_
 exact ⟨_, _, _, _, by first | rfl | (simp [*, errW_none, errW_some] <;> rfl), by (with_reducible repeat (first | apply Kd.S_alloc | apply Kd.S_drewN | apply Kd.S_drew)); exact Kd.S_mono (yac (p := ⟨a8, 7, none⟩) (yac (p := ⟨a8, 6, none⟩) (yac (p := ⟨a8, 5, none⟩) (yac (p := ⟨a8, 4, none⟩) (yac (p := ⟨a8, 3, none⟩) (yac (p := ⟨a8, 2, none⟩) (yac (p := ⟨a8, 1, none⟩) (yac (p := ⟨a8, 0, none⟩) (yac (p := ⟨b3, 7, none⟩) (Kd.S_types (Kd.S_types c0.out a9.out (by decide)) b1.out (by decide)) (fun _ hk => hk.1.2) (.slice d0 c1.length d1)) (fun _ hk => hk.2) (.int .i64 a0_0)) (fun _ hk => hk.2) (.int .i64 a0_1)) (fun _ hk => hk.2) (.int .i64 a0_2)) (fun _ hk => hk.2) (.int .i64 a0_3)) (fun _ hk => hk.2) (.slice b7 b5.length b8)) (fun _ hk => hk.2) (.slice c2 b6.length c3)) (fun _ hk => hk.2) (.slice c5 b9.length c6)) (fun _ hk => hk.2) (.slice d0 c1.length d1)) (fun _ hk => trivial), by (with_reducible repeat (first | apply Kd.S_alloc | apply Kd.S_drewN | apply Kd.S_drew)); exact Kd.S_mono (yac (p := ⟨a8, 7, none⟩) (yac (p := ⟨a8, 6, none⟩) (yac (p := ⟨a8, 5, none⟩) (yac (p := ⟨a8, 4, none⟩) (yac (p := ⟨a8, 3, none⟩) (yac (p := ⟨a8, 2, none⟩) (yac (p := ⟨a8, 1, none⟩) (yac (p := ⟨a8, 0, none⟩) (yac (p := ⟨b3, 7, none⟩) (Kd.S_types (Kd.S_types c8.out a9.out (by decide)) b1.out (by decide)) (fun _ hk => hk.1.2) (.slice d0 c1.length d1)) (fun _ hk => hk.2) (.int .i64 a0_0)) (fun _ hk => hk.2) (.int .i64 a0_1)) (fun _ hk => hk.2) (.int .i64 a0_2)) (fun _ hk => hk.2) (.int .i64 a0_3)) (fun _ hk => hk.2) (.slice b7 b5.length b8)) (fun _ hk => hk.2) (.slice c2 b6.length c3)) (fun _ hk => hk.2) (.slice c5 b9.length c6)) (fun _ hk => hk.2) (.slice d0 c1.length d1)) (fun _ hk => trivial), by (with_reducible repeat (first | apply Kd.R_alloc | apply Kd.R_drewN | apply Kd.R_drew)); exact Kd.R_mono (Kd.R_far (p := ⟨a8, 7, none⟩) (Kd.R_far (p := ⟨a8, 6, none⟩) (Kd.R_far (p := ⟨a8, 5, none⟩) (Kd.R_far (p := ⟨a8, 4, none⟩) (Kd.R_far (p := ⟨a8, 3, none⟩) (Kd.R_far (p := ⟨a8, 2, none⟩) (Kd.R_far (p := ⟨a8, 1, none⟩) (Kd.R_far (p := ⟨a8, 0, none⟩) (Kd.R_far (p := ⟨b3, 7, none⟩) (Kd.R_types (Kd.R_types d2.out a9.out (by decide)) b1.out (by decide)) (fun _ hk => hk.1.2) (.slice d0 c1.length d1)) (fun _ hk => hk.2) (.int .i64 a0_0)) (fun _ hk => hk.2) (.int .i64 a0_1)) (fun _ hk => hk.2) (.int .i64 a0_2)) (fun _ hk => hk.2) (.int .i64 a0_3)) (fun _ hk => hk.2) (.slice b7 b5.length b8)) (fun _ hk => hk.2) (.slice c2 b6.length c3)) (fun _ hk => hk.2) (.slice c5 b9.length c6)) (fun _ hk => hk.2) (.slice d0 c1.length d1)) (fun _ hk => trivial), by (with_reducible repeat (first | apply Kd.S_alloc | apply Kd.S_drewN | apply Kd.S_drew)); exact Kd.S_mono (yac (p := ⟨a8, 7, none⟩) (yac (p := ⟨a8, 6, none⟩) (yac (p := ⟨a8, 5, none⟩) (yac (p := ⟨a8, 4, none⟩) (yac (p := ⟨a8, 3, none⟩) (yac (p := ⟨a8, 2, none⟩) (yac (p := ⟨a8, 1, none⟩) (yac (p := ⟨a8, 0, none⟩) (yac (p := ⟨b3, 7, none⟩) (Kd.S_types (Kd.S_types d8.out a9.out (by decide)) b1.out (by decide)) (fun _ hk => hk.1.2) (.slice d0 c1.length d1)) (fun _ hk => hk.2) (.int .i64 a0_0)) (fun _ hk => hk.2) (.int .i64 a0_1)) (fun _ hk => hk.2) (.int .i64 a0_2)) (fun _ hk => hk.2) (.int .i64 a0_3)) (fun _ hk => hk.2) (.slice b7 b5.length b8)) (fun _ hk => hk.2) (.slice c2 b6.length c3)) (fun _ hk => hk.2) (.slice c5 b9.length c6)) (fun _ hk => hk.2) (.slice d0 c1.length d1)) (fun _ hk => trivial), by repeat (with_reducible first | exact HB.out | apply yad | apply yab | apply yae | refine yaf ?_ (Aside0.out ‹_›))⟩
end
section
open Go.Proofs.YtgpkkkmapgnhkaaW.PrintWords.Aside0 renaming mk → yaa
def laws_toTenStateS.l0 : Nat → List (S83) → List (S63) → Int → Option ((List (S63)))
 | 0, _, _, _ => none
 | k + 1, x0, x3, x4 => if x4 < (x0.length : Int) then (if 0 ≤ x4 then ((laws_toTenState.f k ((rd_T83 x0 x4).f0) ((rd_T83 x0 x4).f1) ((rd_T83 x0 x4).f2) ((rd_T83 x0 x4).f3) ((rd_T83 x0 x4).f4) ((rd_T83 x0 x4).f5) ((rd_T83 x0 x4).f6) ((rd_T83 x0 x4).f7)).bind fun bt105 => (if x4 < (x3.length : Int) then (laws_toTenStateS.l0 k x0 (x3.set (x4 : Int).toNat (⟨bt105.1, bt105.2.1, bt105.2.2.1, bt105.2.2.2.1, bt105.2.2.2.2.1, bt105.2.2.2.2.2.1, bt105.2.2.2.2.2.2.1, bt105.2.2.2.2.2.2.2⟩ : S63)) (wrap64 (x4 + 1))) else (none))) else (none)) else (some x3)
def laws_toTenStateS.f (k : Nat) (l0 : List (S83)) : Option ((List (S63))) := if 0 ≤ (l0.length : Int) then (if ((l0.length : Int) : Int).toNat ≤ 2199023255552 then (laws_toTenStateS.l0 k l0 (List.replicate ((l0.length : Int) : Int).toNat z63) 0) else (none)) else (none)
set_option maxHeartbeats 8000000 in
set_option maxRecDepth 100000 in
theorem laws_toTenStateS.calls (k : Nat) (A0 : Option Addr) (c0 : Nat) (l0 : List (S83)) (r : List (S63)) (w : World) (hr0 : Kd.C k83 w A0 l0.length l0) (hc0 : l0.length ≤ c0) (h : laws_toTenStateS.f k l0 = some r) :
  Calls Try.prog 58 #[.slice A0 l0.length c0] w fun e w' => ∃ v0_ : Value, e = .returned (v0_) ∧ Kd.R k63 63 w' w.heap.size (fun _ => True) v0_ r ∧ Below w.heap.size w w' := by
 have hu83 := Try.underlying83; have hu63 := Try.underlying63; have HR0 := yaa hr0; have HC0 := yaa hc0; clear hr0 hc0; have HB := yaa (Below.refl w.heap.size w); have H : (if 0 ≤ (l0.length : Int) then (if ((l0.length : Int) : Int).toNat ≤ 2199023255552 then (laws_toTenStateS.l0 k l0 (List.replicate ((l0.length : Int) : Int).toNat z63) 0) else (none)) else (none)) = some r := h; clear h
 by_cases c2 : 0 ≤ (l0.length : Int)
 rotate_left
 ·
  rw [if_neg c2] at H
  exact absurd H (by simp)
 rw [if_pos c2] at H
 have h9 := eq_true c2; replace c2 := decide_eq_true c2
 by_cases c3 : ((l0.length : Int) : Int).toNat ≤ 2199023255552
 rotate_left
 ·
  rw [if_neg c3] at H
  exact absurd H (by simp)
 rw [if_pos c3] at H
 have i0 := eq_true c3; replace c3 := decide_eq_true c3; obtain ⟨y101, hy101⟩ : ∃ y_ : List (S63), y_ = (List.replicate ((l0.length : Int) : Int).toNat z63) := ⟨_, rfl⟩
 replace H : (laws_toTenStateS.l0 k l0 y101 0) = some r := by first | (rw [hy101]; with_reducible exact H) | (have H2_ := (Option.bind_some _ _).symm.trans H; rw [hy101]; with_reducible exact H2_) | (have H2_ := (Option.bind_some _ _).symm.trans H; with_reducible exact H2_) | with_reducible exact H | (rw [hy101]; exact H) | exact H
 have Ny101 := yaa hy101; clear hy101; have H' := yaa H; clear H
 go_enter Try.func58, Try.ntmps58
 go_wp2_with (first | ((with_reducible refine gd_ 7 rfl ?_); refine Kd.R_make k63 _ 63 rfl (N := 7) rfl 71 _ _ rfl (l0.length : Int) rfl rfl Try.underlying71 (.agg #[(.int .i64 0), (.int .i64 0), (.int .i64 0), (.int .i64 0), (.slice none 0 0), (.slice none 0 0), (.slice none 0 0), (.slice none 0 0)]) 128 info63 rfl (by decide) (by omega) z63 (ok := fun _ => True) (okp := fun _ => True) (k63_mkM _ _ _ z63 (Kd.R_nil _ _ _ _ _) (Kd.R_nil _ _ _ _ _) (Kd.R_nil _ _ _ _ _) (Kd.R_nil _ _ _ _ _)) (fun _ hk => hk) trivial (of_decide_eq_true (by assumption)) (Nat.le_trans (Nat.mul_le_mul_right _ (of_decide_eq_true (by assumption) : (l0.length : Int).toNat ≤ 2199023255552)) (by omega)) (Below.refl _ _) (Nat.le_refl _) ?_; intro i1 w4 ho5 hb hg_ hnew_; clear hg_ hnew_; (first | rw [← Ny101.out] at ho5 | (simp only [Int.reduceToNat] at ho5; rw [← Ny101.out] at ho5)); have d5 := yaa (Kd.R_lower ho5 (below_size (upH HB.out))); replace HB := yaa (below_step (upH HB.out) hb); clear hb ho5))
 (try simp only [Act.put, List.setIfInBounds_toArray, List.set_cons_zero, List.set_cons_succ])
 go_loopg [4] k (fun kq v4 w' => ∃ (a3 : List (S63)) (a1 : Int), v4 = .int .i64 a1 ∧ Aside0 (laws_toTenStateS.l0 kq l0 a3 a1 = some r) ∧ Aside0 (kq ≤ k) ∧ Aside0 (Kd.R k63 63 w' w.heap.size (fun _ => True) i1 a3) ∧ Aside0 (Below w.heap.size w w'))
 case atStart => exact ⟨(y101), (0), (by first | rfl | (simp; done) | (simp [*]; done)), H', ⟨Nat.le_refl _⟩, ⟨by first | exact d5.out | exact upR d5.out⟩, ⟨upH HB.out⟩⟩
 case round =>
  clear H'; (try clear c2); (try clear h9); (try clear c2b1); (try clear p2); (try clear c3); (try clear i0); (try clear c3b1); (try clear c5); obtain ⟨a3, a1, rfl, HA, HK1, a2, HB⟩ := hrel
  cases gk with
  | zero => exact absurd HA.out (by simp [laws_toTenStateS.l0])
  | succ k1 =>
   have H := HA.out; clear HA
   simp only [laws_toTenStateS.l0] at H
   by_cases c6 : a1 < (l0.length : Int)
   ·
    rw [if_pos c6] at H
    have i2 : decide (a1 < (l0.length : Int)) = true := decide_eq_true c6; clear c6
    by_cases c7 : 0 ≤ a1
    ·
     rw [if_pos c7] at H
     replace c7 := decide_eq_true c7; obtain ⟨⟨c1, c4, c8, d0, d1, d2, d3, d4⟩, A8, H⟩ := bindA H; (try dsimp only at H)
     by_cases c9 : a1 < (a3.length : Int)
     ·
      rw [if_pos c9] at H
      replace c9 := decide_eq_true c9; obtain ⟨y121, hy121⟩ : ∃ y_ : List (S63), y_ = (a3.set (a1 : Int).toNat (⟨c1, c4, c8, d0, d1, d2, d3, d4⟩ : S63)) := ⟨_, rfl⟩
      replace H : (laws_toTenStateS.l0 k1 l0 y121 (wrap64 (a1 + 1))) = some r := by first | (rw [hy121]; with_reducible exact H) | (have H2_ := (Option.bind_some _ _).symm.trans H; rw [hy121]; with_reducible exact H2_) | (have H2_ := (Option.bind_some _ _).symm.trans H; with_reducible exact H2_) | with_reducible exact H | (rw [hy121]; exact H) | exact H
      have Ny121 := yaa hy121; clear hy121; have H' := yaa H; clear H; have p104 : 0 ≤ (a1 : Int) := of_decide_eq_true (by assumption); have q104 : a1 < (l0.length : Int) := of_decide_eq_true (by assumption); obtain ⟨ad104, d6, d7, d8, d9, e0, e1, e2, e3, i3, a8, a9, b0, b1, b2, b3, b4, b5, hl104_4, hi104_4, hl104_5, hi104_5, hl104_6, hi104_6, hl104_7, hi104_7⟩ := at_T83 HR0.out a1 p104 q104
      cases i3
      replace a8 := (upc_ HB.out a8 :); replace a9 := (upc_ HB.out a9 :); replace b0 := (upc_ HB.out b0 :); replace b1 := (upc_ HB.out b1 :); replace b2 := (upc_ HB.out b2 :); replace b3 := (upc_ HB.out b3 :); replace b4 := (upc_ HB.out b4 :); replace b5 := (upc_ HB.out b5 :); have HR104_4 := yaa hi104_4; have HC104_4 := yaa hl104_4; clear hi104_4 hl104_4; have HR104_5 := yaa hi104_5; have HC104_5 := yaa hl104_5; clear hi104_5 hl104_5; have HR104_6 := yaa hi104_6; have HC104_6 := yaa hl104_6; clear hi104_6 hl104_6; have HR104_7 := yaa hi104_7; have HC104_7 := yaa hl104_7; clear hi104_7 hl104_7; replace p104 := eq_true p104; replace q104 := eq_true q104
      go_wp2_with (first | ((with_reducible refine gc_ 55 rfl ?_); refine gl_ (some 20) rfl Try.func55 #[.agg #[.int .i64 ((rd_T83 l0 a1).f0), .int .i64 ((rd_T83 l0 a1).f1), .int .i64 ((rd_T83 l0 a1).f2), .int .i64 ((rd_T83 l0 a1).f3), .slice d6 ((rd_T83 l0 a1).f4).length d7, .slice d8 ((rd_T83 l0 a1).f5).length d9, .slice e0 ((rd_T83 l0 a1).f6).length e1, .slice e2 ((rd_T83 l0 a1).f7).length e3]] ?_; (with_reducible refine (laws_toTenState.calls k1 ((rd_T83 l0 a1).f0) ((rd_T83 l0 a1).f1) ((rd_T83 l0 a1).f2) ((rd_T83 l0 a1).f3) _ _ ((rd_T83 l0 a1).f4) _ _ ((rd_T83 l0 a1).f5) _ _ ((rd_T83 l0 a1).f6) _ _ ((rd_T83 l0 a1).f7) c1 c4 c8 d0 d1 d2 d3 d4 _ ?side1 ?side2 ?side3 ?side4 ?side5 ?side6 ?side7 ?side8 A8.out).mono ?_); (case side1 => repeat (first | exact (Kd.C_below HR104_4.out HB.out) | (with_reducible refine Kd.C_alloc ?_ _) | (with_reducible refine Kd.C_drewN ?_ _) | (with_reducible refine Kd.C_drew ?_))); (case side2 => exact HC104_4.out); (case side3 => repeat (first | exact (Kd.C_below HR104_5.out HB.out) | (with_reducible refine Kd.C_alloc ?_ _) | (with_reducible refine Kd.C_drewN ?_ _) | (with_reducible refine Kd.C_drew ?_))); (case side4 => exact HC104_5.out); (case side5 => repeat (first | exact (Kd.C_below HR104_6.out HB.out) | (with_reducible refine Kd.C_alloc ?_ _) | (with_reducible refine Kd.C_drewN ?_ _) | (with_reducible refine Kd.C_drew ?_))); (case side6 => exact HC104_6.out); (case side7 => repeat (first | exact (Kd.C_below HR104_7.out HB.out) | (with_reducible refine Kd.C_alloc ?_ _) | (with_reducible refine Kd.C_drewN ?_ _) | (with_reducible refine Kd.C_drew ?_))); (case side8 => exact HC104_7.out); rintro e w11 ⟨e4, e5, e6, e7, rfl, ho0, ho1, ho2, ho3, hb⟩; refine ⟨_, rfl, ?_⟩; replace a2 := yaa (Kd.R_mono (Kd.R_told (Kd.R_told (Kd.R_told (Kd.R_told (Kd.R_old (upR a2.out) hb) (Kd.S_base ho0)) (Kd.S_base ho1)) (Kd.R_base ho2)) (Kd.S_base ho3)) (fun _ h_ => h_.1)); have b6 := yaa (Kd.S_lower ho0 (below_size (upH HB.out))); have b7 := yaa (Kd.S_lower ho1 (below_size (upH HB.out))); have b8 := yaa (Kd.R_lower ho2 (below_size (upH HB.out))); have b9 := yaa (Kd.S_lower ho3 (below_size (upH HB.out))); replace HB := yaa (below_step (upH HB.out) hb); (try clear hb ho0 ho1 ho2 ho3); have p10 : 0 ≤ (a1 : Int) := of_decide_eq_true (by assumption); have q10 : (a1 : Int) < ((a3.length : Int) : Int) := of_decide_eq_true (by assumption); obtain ⟨go10, h6, h7, h8, gl10, j8, HG10⟩ := Kd.R_form a2.out (by omega); (first | cases h7 | (injection h7 with ea_ en_ ec_; (first | subst ea_ | (injection ea_ with ea_; subst ea_)); subst ec_; clear en_)); have GB10 := yaa h8; have GG10 := yaa HG10; clear h8 gl10 HG10; obtain ⟨j9, hcl10, hM10, hcc10, hfr10⟩ := Kd.R_elem a2.out z63 (a1 : Int) p10 q10; obtain ⟨e8, e9, f8, f9, rfl, ge10_4, ge10_5, ge10_6, ge10_7⟩ := k63_openM hM10; have i4 : w11.cell? ⟨go10, (a1 : Int).toNat * 8, none⟩ = some (.int .i64 ((rd_T63 a3 a1).f0)) := hcc10 0 _ rfl; have i5 : w11.cell? ⟨go10, (a1 : Int).toNat * 8 + 1, none⟩ = some (.int .i64 ((rd_T63 a3 a1).f1)) := hcc10 1 _ rfl; have i6 : w11.cell? ⟨go10, (a1 : Int).toNat * 8 + 2, none⟩ = some (.int .i64 ((rd_T63 a3 a1).f2)) := hcc10 2 _ rfl; have i7 : w11.cell? ⟨go10, (a1 : Int).toNat * 8 + 3, none⟩ = some (.int .i64 ((rd_T63 a3 a1).f3)) := hcc10 3 _ rfl; have i8 : w11.cell? ⟨go10, (a1 : Int).toNat * 8 + 4, none⟩ = some (e8) := hcc10 4 _ rfl; have i9 : w11.cell? ⟨go10, (a1 : Int).toNat * 8 + 5, none⟩ = some (e9) := hcc10 5 _ rfl; have j0 : w11.cell? ⟨go10, (a1 : Int).toNat * 8 + 6, none⟩ = some (f8) := hcc10 6 _ rfl; have j1 : w11.cell? ⟨go10, (a1 : Int).toNat * 8 + 7, none⟩ = some (f9) := hcc10 7 _ rfl; have hf10_0 : w11.frozen? ⟨go10, (a1 : Int).toNat * 8, none⟩ = false := hfr10 0; have hf10_1 : w11.frozen? ⟨go10, (a1 : Int).toNat * 8 + 1, none⟩ = false := hfr10 1; have hf10_2 : w11.frozen? ⟨go10, (a1 : Int).toNat * 8 + 2, none⟩ = false := hfr10 2; have hf10_3 : w11.frozen? ⟨go10, (a1 : Int).toNat * 8 + 3, none⟩ = false := hfr10 3; have hf10_4 : w11.frozen? ⟨go10, (a1 : Int).toNat * 8 + 4, none⟩ = false := hfr10 4; have hf10_5 : w11.frozen? ⟨go10, (a1 : Int).toNat * 8 + 5, none⟩ = false := hfr10 5; have hf10_6 : w11.frozen? ⟨go10, (a1 : Int).toNat * 8 + 6, none⟩ = false := hfr10 6; have hf10_7 : w11.frozen? ⟨go10, (a1 : Int).toNat * 8 + 7, none⟩ = false := hfr10 7; clear hcl10 hcc10 hfr10 hM10; replace p10 := eq_true p10; replace q10 := eq_true q10; have n_ := yaa (Kd.R_mono (ok' := (fun k_ => some k_ ≠ (e4 : Value).ownBlock ∧ some k_ ≠ (e5 : Value).ownBlock ∧ some k_ ≠ (e6 : Value).ownBlock ∧ some k_ ≠ (e7 : Value).ownBlock)) a2.out (fun k_ hk => ⟨hk.1.1.1.2, ⟨hk.1.1.2, ⟨hk.1.2, hk.2⟩⟩⟩)); clear a2; have a2 := n_; clear n_; have HX12 := yaa (show Kd.R k63 63 w11 w.heap.size (fun _ => True) (.slice (some ⟨go10, 0, none⟩) a3.length h6) a3 from (by (with_reducible repeat (first | apply Kd.R_alloc | apply Kd.R_drewN | apply Kd.R_drew)); exact Kd.R_mono a2.out (fun _ hk => trivial))); obtain ⟨k0, hcl12, hM12, hcc12, hfr12⟩ := Kd.R_elem HX12.out z63 (a1 : Int) (of_decide_eq_true (by assumption)) (by have h_ : (a1 : Int) < ((a3.length : Int) : Int) := of_decide_eq_true (by assumption); first | exact h_ | (have e_ := (Kd.R_reads' a2.out).1; omega) | simpa using h_); obtain ⟨j2, j3, j4, j5, rfl, ge12_4, ge12_5, ge12_6, ge12_7⟩ := k63_openM hM12; have HP12 := Kd.R_seg HX12.out (a1 : Int) (of_decide_eq_true (by assumption)) (by have h_ : (a1 : Int) < ((a3.length : Int) : Int) := of_decide_eq_true (by assumption); first | exact h_ | (have e_ := (Kd.R_reads' a2.out).1; omega) | simpa using h_) (seg := [.int .i64 c1, .int .i64 c4, .int .i64 c8, .int .i64 d0, e4, e5, e6, e7]) (j := 0) hcl12 hcc12 (show 8 ≤ 8 from by decide) (x' := (⟨c1, c4, c8, d0, d1, d2, d3, d4⟩ : S63)) (k63_mkM _ _ _ (⟨c1, c4, c8, d0, d1, d2, d3, d4⟩ : S63) (Kd.R_mono (Kd.R_apart' ((Kd.S_R b6.out)) (Kd.R_typed a2.out) (by decide)) (fun k_ hk => ⟨trivial, fun e_ => (hk.2) (by rw [e_]; rfl)⟩)) (Kd.R_mono (Kd.R_apart' ((Kd.S_R b7.out)) (Kd.R_typed a2.out) (by decide)) (fun k_ hk => ⟨trivial, fun e_ => (hk.2) (by rw [e_]; rfl)⟩)) (Kd.R_mono (Kd.R_apart' (b8.out) (Kd.R_typed a2.out) (by decide)) (fun k_ hk => ⟨trivial, fun e_ => (hk.2) (by rw [e_]; rfl)⟩)) (Kd.R_mono (Kd.R_apart' ((Kd.S_R b9.out)) (Kd.R_typed a2.out) (by decide)) (fun k_ hk => ⟨trivial, fun e_ => (hk.2) (by rw [e_]; rfl)⟩))) (fun _ hk => hk); have g0 := hcc12 0 _ rfl; (try simp only [show (k63).sz = 8 from rfl, Nat.mul_one, Nat.add_zero] at g0); have hf12_0 := hfr12 0; (try simp only [show (k63).sz = 8 from rfl, Nat.mul_one, Nat.add_zero] at hf12_0); have g1 := hcc12 1 _ rfl; (try simp only [show (k63).sz = 8 from rfl, Nat.mul_one, Nat.add_zero] at g1); have hf12_1 := hfr12 1; (try simp only [show (k63).sz = 8 from rfl, Nat.mul_one, Nat.add_zero] at hf12_1); have g2 := hcc12 2 _ rfl; (try simp only [show (k63).sz = 8 from rfl, Nat.mul_one, Nat.add_zero] at g2); have hf12_2 := hfr12 2; (try simp only [show (k63).sz = 8 from rfl, Nat.mul_one, Nat.add_zero] at hf12_2); have g3 := hcc12 3 _ rfl; (try simp only [show (k63).sz = 8 from rfl, Nat.mul_one, Nat.add_zero] at g3); have hf12_3 := hfr12 3; (try simp only [show (k63).sz = 8 from rfl, Nat.mul_one, Nat.add_zero] at hf12_3); have g4 := hcc12 4 _ rfl; (try simp only [show (k63).sz = 8 from rfl, Nat.mul_one, Nat.add_zero] at g4); have hf12_4 := hfr12 4; (try simp only [show (k63).sz = 8 from rfl, Nat.mul_one, Nat.add_zero] at hf12_4); have g5 := hcc12 5 _ rfl; (try simp only [show (k63).sz = 8 from rfl, Nat.mul_one, Nat.add_zero] at g5); have hf12_5 := hfr12 5; (try simp only [show (k63).sz = 8 from rfl, Nat.mul_one, Nat.add_zero] at hf12_5); have g6 := hcc12 6 _ rfl; (try simp only [show (k63).sz = 8 from rfl, Nat.mul_one, Nat.add_zero] at g6); have hf12_6 := hfr12 6; (try simp only [show (k63).sz = 8 from rfl, Nat.mul_one, Nat.add_zero] at hf12_6); have g7 := hcc12 7 _ rfl; (try simp only [show (k63).sz = 8 from rfl, Nat.mul_one, Nat.add_zero] at g7); have hf12_7 := hfr12 7; (try simp only [show (k63).sz = 8 from rfl, Nat.mul_one, Nat.add_zero] at hf12_7); clear hcl12 hcc12 hfr12 hM12) | ((with_reducible refine gate_store (t := 63) (p := 21) rfl ?_); refine store_event (t := 63) (p := 21) (v := ?vo_w13) (w1 := ((((((((w11.setCell ⟨go10, (a1 : Int).toNat * 8, none⟩ (.int .i64 c1)).setCell ⟨go10, (a1 : Int).toNat * 8 + 1, none⟩ (.int .i64 c4)).setCell ⟨go10, (a1 : Int).toNat * 8 + 2, none⟩ (.int .i64 c8)).setCell ⟨go10, (a1 : Int).toNat * 8 + 3, none⟩ (.int .i64 d0)).setCell ⟨go10, (a1 : Int).toNat * 8 + 4, none⟩ (e4)).setCell ⟨go10, (a1 : Int).toNat * 8 + 5, none⟩ (e5)).setCell ⟨go10, (a1 : Int).toNat * 8 + 6, none⟩ (e6)).setCell ⟨go10, (a1 : Int).toNat * 8 + 7, none⟩ (e7))) ?hg ?ho ?hn ?hr ?_; (case ho => rfl); (case hg => rfl); (case hn => rfl); (case hr => first | (go_simp; done) | (go_simp; rfl) | (obtain ⟨fv110_, hv110_⟩ := b6.out; obtain ⟨g8, g9, a4⟩ := Kd.R_slice hv110_; obtain ⟨fv113_, hv113_⟩ := b7.out; obtain ⟨h0, h1, a5⟩ := Kd.R_slice hv113_; obtain ⟨h2, h3, a6⟩ := Kd.R_slice b8.out; obtain ⟨fv119_, hv119_⟩ := b9.out; obtain ⟨h4, h5, a7⟩ := Kd.R_slice hv119_; simp only [a4, a5, a6, a7]; go_simp; done) | (obtain ⟨fv110_, hv110_⟩ := b6.out; obtain ⟨g8, g9, a4⟩ := Kd.R_slice hv110_; obtain ⟨fv113_, hv113_⟩ := b7.out; obtain ⟨h0, h1, a5⟩ := Kd.R_slice hv113_; obtain ⟨h2, h3, a6⟩ := Kd.R_slice b8.out; obtain ⟨fv119_, hv119_⟩ := b9.out; obtain ⟨h4, h5, a7⟩ := Kd.R_slice hv119_; simp only [a4, a5, a6, a7]; go_simp; rfl)); intro w13 hw; have hg : w11.grownBy w13 (some go10) := (by rw [hw]; exact HP12.2); have hp_ : Kd.R k63 63 w13 w.heap.size (fun _ => True) (.slice (some ⟨go10, 0, none⟩) a3.length h6) y121 := (by rw [hw, Ny121.out]; exact HP12.1); clear HP12; replace a2 := yaa (hp_); replace HB := yaa ((by rw [hw]; exact below_set (below_set (below_set (below_set (below_set (below_set (below_set (below_set (HB.out) GB10.out) GB10.out) GB10.out) GB10.out) GB10.out) GB10.out) GB10.out) GB10.out : Below w.heap.size w w13)); clear b6 b7 b8 b9; clear hg hw hp_))
      go_roundg k1
      case measure => have := HK1.out; omega
      case rel => exact ⟨(y121), (wrap64 (a1 + 1)), (by first | rfl | (simp; done) | (simp [*]; done)), H', ⟨by have := HK1.out; omega⟩, ⟨by first | exact a2.out | exact upR a2.out⟩, ⟨upH HB.out⟩⟩
     rw [if_neg c9] at H
     exact absurd H (by simp)
    rw [if_neg c7] at H
    exact absurd H (by simp)
   rw [if_neg c6] at H
   have i2 : decide (a1 < (l0.length : Int)) = false := decide_eq_false c6; clear c6; obtain rfl := Option.some.inj H
   go_wp2
   go_ret
   exact ⟨_, by first | rfl | (simp [*, errW_none, errW_some] <;> rfl), by first | exact a2.out | exact upR a2.out, upH HB.out⟩
end
section
def impl_within.f (a0 : Int) (a1 : Int) (a2 : Int) : Option (Bool) := if a0 ≥ a1 then (some (decide (a0 ≤ a2))) else (some false)
set_option maxHeartbeats 8000000 in
set_option maxRecDepth 100000 in
theorem impl_within.calls (a0 : Int) (a1 : Int) (a2 : Int) (r : Bool) (w : World) (h : impl_within.f a0 a1 a2 = some r) :
    Calls Try.prog 62 #[.int .i64 a0, .int .i64 a1, .int .i64 a2] w fun e w' => e = .returned (.bool r) ∧ Drawn0 w w' := by
  have H : (if a0 ≥ a1 then (some (decide (a0 ≤ a2))) else (some false)) = some r := h; clear h
  by_cases c4 : a0 ≥ a1
  · rw [if_pos c4] at H
    have c4b0 : decide (a1 ≤ a0) = true := decide_eq_true c4; clear c4; obtain rfl := Option.some.inj H
    go_enter Try.func62, Try.ntmps62
    go_wp2
    go_ret
    exact ⟨by first | rfl | (simp; done) | (simp [*]; done), by repeat (first | exact Drawn0.refl _ | apply Drawn0.step)⟩
  · rw [if_neg c4] at H
    have c4b0 : decide (a1 ≤ a0) = false := decide_eq_false c4; clear c4; obtain rfl := Option.some.inj H
    go_enter Try.func62, Try.ntmps62
    go_wp2
    go_ret
    exact ⟨by first | rfl | (simp; done) | (simp [*]; done), by repeat (first | exact Drawn0.refl _ | apply Drawn0.step)⟩
end
section
open Go.Proofs.YtgpkkkmapgnhkaaW.PrintWords.Aside0 renaming mk → yaa
def impl_CfgOk.f (l0_0 : List Int) (a0_1 : Int) (a0_2 : Int) (a0_3 : Int) (a0_4 : Int) (a0_5 : Int) (a0_6 : Int) : Option (Bool) := if (l0_0.length : Int) ≤ 32 then ((impl_within.f a0_1 1 9).bind fun t102 => (if t102 = true then ((impl_within.f a0_2 1 99).bind fun t103 => (if t103 = true then ((impl_within.f a0_3 1 4).bind fun t104 => (if t104 = true then ((impl_within.f a0_4 1 999).bind fun t105 => (if t105 = true then ((impl_within.f a0_5 1 3).bind fun t106 => (if t106 = true then ((impl_within.f a0_6 1 999).bind fun t107 => (some t107)) else (some false))) else (some false))) else (some false))) else (some false))) else (some false))) else (some false)
set_option maxHeartbeats 8000000 in
set_option maxRecDepth 100000 in
theorem impl_CfgOk.calls (A0_0 : Option Addr) (c0_0 : Nat) (l0_0 : List Int) (a0_1 : Int) (a0_2 : Int) (a0_3 : Int) (a0_4 : Int) (a0_5 : Int) (a0_6 : Int) (r : Bool) (w : World) (hr0_0 : Kd.C (Kd.int .u8) w A0_0 l0_0.length l0_0) (hc0_0 : l0_0.length ≤ c0_0) (h : impl_CfgOk.f l0_0 a0_1 a0_2 a0_3 a0_4 a0_5 a0_6 = some r) :
  Calls Try.prog 14 #[.agg #[.slice A0_0 l0_0.length c0_0, .int .i64 a0_1, .int .i64 a0_2, .int .i64 a0_3, .int .i64 a0_4, .int .i64 a0_5, .int .i64 a0_6]] w fun e w' => e = .returned (.bool r) ∧ Below w.heap.size w w' := by
 have hu24 := Try.underlying24; have HR0_0 := yaa hr0_0; have HC0_0 := yaa hc0_0; clear hr0_0 hc0_0; have HB := yaa (Below.refl w.heap.size w); have H : (if (l0_0.length : Int) ≤ 32 then ((impl_within.f a0_1 1 9).bind fun a6 => (if a6 = true then ((impl_within.f a0_2 1 99).bind fun a7 => (if a7 = true then ((impl_within.f a0_3 1 4).bind fun a8 => (if a8 = true then ((impl_within.f a0_4 1 999).bind fun a9 => (if a9 = true then ((impl_within.f a0_5 1 3).bind fun b0 => (if b0 = true then ((impl_within.f a0_6 1 999).bind fun b1 => (some b1)) else (some false))) else (some false))) else (some false))) else (some false))) else (some false))) else (some false)) = some r := h; clear h
 by_cases c2 : (l0_0.length : Int) ≤ 32
 rotate_left
 ·
  rw [if_neg c2] at H
  have l4 : decide ((l0_0.length : Int) ≤ 32) = false := decide_eq_false c2; have l5 : decide (l0_0.length ≤ 32) = false := decide_eq_false (by omega); clear c2; obtain rfl := Option.some.inj H
  go_enter Try.func14, Try.ntmps14
  go_wp2_with (first | ((with_reducible refine gd_ 1 rfl ?_); refine bx_ 1 rfl #[.slice A0_0 l0_0.length c0_0, .int .i64 a0_1, .int .i64 a0_2, .int .i64 a0_3, .int .i64 a0_4, .int .i64 a0_5, .int .i64 a0_6] 24 ?_; intro a1 hg w26 hbox hb; have a0 := yaa (hbox); have a2 := yaa ((by rw [hg]; exact (below_size (upH HB.out)) : w.heap.size ≤ a1)); replace HB := yaa (below_step (upH HB.out) hb); have a3 := a2; clear hb hbox hg; obtain ⟨k0, k1, k2, k3, k4, k5, k6⟩ := cc7_ a0.out; obtain ⟨k7, k8, k9, l0, l1, l2⟩ := cf6_ a0.out; have l3 := blk_frozen a0.out 6))
  go_ret
  exact ⟨by first | rfl | (simp [*, errW_none, errW_some] <;> rfl), by repeat (with_reducible first | exact HB.out | apply below_alloc | apply pw_below_drewN | apply below_drew1 | refine below_set ?_ (Aside0.out ‹_›))⟩
 rw [if_pos c2] at H
 have l4 : decide ((l0_0.length : Int) ≤ 32) = true := decide_eq_true c2; have l5 : decide (l0_0.length ≤ 32) = true := decide_eq_true (by omega); clear c2; obtain ⟨a6, A3, H⟩ := bindA H; (try dsimp only at H)
 by_cases c4 : a6 = true
 rotate_left
 ·
  replace c4 := Bool.eq_false_iff.mpr c4
  subst c4
  rw [if_neg (show ¬ (false = true) by decide)] at H
  obtain rfl := Option.some.inj H
  go_enter Try.func14, Try.ntmps14
  go_wp2_with (first | ((with_reducible refine gd_ 1 rfl ?_); refine bx_ 1 rfl #[.slice A0_0 l0_0.length c0_0, .int .i64 a0_1, .int .i64 a0_2, .int .i64 a0_3, .int .i64 a0_4, .int .i64 a0_5, .int .i64 a0_6] 24 ?_; intro a1 hg w24 hbox hb; have a0 := yaa (hbox); have a2 := yaa ((by rw [hg]; exact (below_size (upH HB.out)) : w.heap.size ≤ a1)); replace HB := yaa (below_step (upH HB.out) hb); have a3 := a2; clear hb hbox hg; obtain ⟨i6, i7, i8, i9, j0, j1, j2⟩ := cc7_ a0.out; obtain ⟨j3, j4, j5, j6, j7, j8⟩ := cf6_ a0.out; have j9 := blk_frozen a0.out 6) | (go_at_call 62; (with_reducible refine (impl_within.calls a0_1 1 9 false _ A3.out).mono ?_); rintro e w' ⟨rfl, ⟨nd, rfl⟩⟩))
  go_ret
  exact ⟨by first | rfl | (simp [*, errW_none, errW_some] <;> rfl), by repeat (with_reducible first | exact HB.out | apply below_alloc | apply pw_below_drewN | apply below_drew1 | refine below_set ?_ (Aside0.out ‹_›))⟩
 subst c4
 rw [if_pos rfl] at H
 obtain ⟨a7, A5, H⟩ := bindA H; (try dsimp only at H)
 by_cases c6 : a7 = true
 rotate_left
 ·
  replace c6 := Bool.eq_false_iff.mpr c6
  subst c6
  rw [if_neg (show ¬ (false = true) by decide)] at H
  obtain rfl := Option.some.inj H
  go_enter Try.func14, Try.ntmps14
  go_wp2_with (first | ((with_reducible refine gd_ 1 rfl ?_); refine bx_ 1 rfl #[.slice A0_0 l0_0.length c0_0, .int .i64 a0_1, .int .i64 a0_2, .int .i64 a0_3, .int .i64 a0_4, .int .i64 a0_5, .int .i64 a0_6] 24 ?_; intro a1 hg w22 hbox hb; have a0 := yaa (hbox); have a2 := yaa ((by rw [hg]; exact (below_size (upH HB.out)) : w.heap.size ≤ a1)); replace HB := yaa (below_step (upH HB.out) hb); have a3 := a2; clear hb hbox hg; obtain ⟨h2, h3, h4, h5, h6, h7, h8⟩ := cc7_ a0.out; obtain ⟨h9, i0, i1, i2, i3, i4⟩ := cf6_ a0.out; have i5 := blk_frozen a0.out 6) | (go_at_call 62; (with_reducible refine (impl_within.calls a0_1 1 9 true _ A3.out).mono ?_); rintro e w' ⟨rfl, ⟨nd, rfl⟩⟩) | (go_at_call 62; (with_reducible refine (impl_within.calls a0_2 1 99 false _ A5.out).mono ?_); rintro e w' ⟨rfl, ⟨nd, rfl⟩⟩))
  go_ret
  exact ⟨by first | rfl | (simp [*, errW_none, errW_some] <;> rfl), by repeat (with_reducible first | exact HB.out | apply below_alloc | apply pw_below_drewN | apply below_drew1 | refine below_set ?_ (Aside0.out ‹_›))⟩
 subst c6
 rw [if_pos rfl] at H
 obtain ⟨a8, A7, H⟩ := bindA H; (try dsimp only at H)
 by_cases c8 : a8 = true
 rotate_left
 ·
  replace c8 := Bool.eq_false_iff.mpr c8
  subst c8
  rw [if_neg (show ¬ (false = true) by decide)] at H
  obtain rfl := Option.some.inj H
  go_enter Try.func14, Try.ntmps14
  go_wp2_with (first | ((with_reducible refine gd_ 1 rfl ?_); refine bx_ 1 rfl #[.slice A0_0 l0_0.length c0_0, .int .i64 a0_1, .int .i64 a0_2, .int .i64 a0_3, .int .i64 a0_4, .int .i64 a0_5, .int .i64 a0_6] 24 ?_; intro a1 hg w20 hbox hb; have a0 := yaa (hbox); have a2 := yaa ((by rw [hg]; exact (below_size (upH HB.out)) : w.heap.size ≤ a1)); replace HB := yaa (below_step (upH HB.out) hb); have a3 := a2; clear hb hbox hg; obtain ⟨f8, f9, g0, g1, g2, g3, g4⟩ := cc7_ a0.out; obtain ⟨g5, g6, g7, g8, g9, h0⟩ := cf6_ a0.out; have h1 := blk_frozen a0.out 6) | (go_at_call 62; (with_reducible refine (impl_within.calls a0_1 1 9 true _ A3.out).mono ?_); rintro e w' ⟨rfl, ⟨nd, rfl⟩⟩) | (go_at_call 62; (with_reducible refine (impl_within.calls a0_2 1 99 true _ A5.out).mono ?_); rintro e w' ⟨rfl, ⟨nd, rfl⟩⟩) | (go_at_call 62; (with_reducible refine (impl_within.calls a0_3 1 4 false _ A7.out).mono ?_); rintro e w' ⟨rfl, ⟨nd, rfl⟩⟩))
  go_ret
  exact ⟨by first | rfl | (simp [*, errW_none, errW_some] <;> rfl), by repeat (with_reducible first | exact HB.out | apply below_alloc | apply pw_below_drewN | apply below_drew1 | refine below_set ?_ (Aside0.out ‹_›))⟩
 subst c8
 rw [if_pos rfl] at H
 obtain ⟨a9, A9, H⟩ := bindA H; (try dsimp only at H)
 by_cases c10 : a9 = true
 ·
  subst c10
  rw [if_pos rfl] at H
  obtain ⟨b0, A11, H⟩ := bindA H; (try dsimp only at H)
  by_cases c12 : b0 = true
  ·
   subst c12
   rw [if_pos rfl] at H
   obtain ⟨b1, A13, H⟩ := bindA H; (try dsimp only at H); obtain rfl := Option.some.inj H
   go_enter Try.func14, Try.ntmps14
   go_wp2_with (first | ((with_reducible refine gd_ 1 rfl ?_); refine bx_ 1 rfl #[.slice A0_0 l0_0.length c0_0, .int .i64 a0_1, .int .i64 a0_2, .int .i64 a0_3, .int .i64 a0_4, .int .i64 a0_5, .int .i64 a0_6] 24 ?_; intro a1 hg w14 hbox hb; have a0 := yaa (hbox); have a2 := yaa ((by rw [hg]; exact (below_size (upH HB.out)) : w.heap.size ≤ a1)); replace HB := yaa (below_step (upH HB.out) hb); have a3 := a2; clear hb hbox hg; obtain ⟨b2, b3, b4, b5, b6, b7, b8⟩ := cc7_ a0.out; obtain ⟨b9, c0, c1, c3, c5, c7⟩ := cf6_ a0.out; have c9 := blk_frozen a0.out 6) | (go_at_call 62; (with_reducible refine (impl_within.calls a0_1 1 9 true _ A3.out).mono ?_); rintro e w' ⟨rfl, ⟨nd, rfl⟩⟩) | (go_at_call 62; (with_reducible refine (impl_within.calls a0_2 1 99 true _ A5.out).mono ?_); rintro e w' ⟨rfl, ⟨nd, rfl⟩⟩) | (go_at_call 62; (with_reducible refine (impl_within.calls a0_3 1 4 true _ A7.out).mono ?_); rintro e w' ⟨rfl, ⟨nd, rfl⟩⟩) | (go_at_call 62; (with_reducible refine (impl_within.calls a0_4 1 999 true _ A9.out).mono ?_); rintro e w' ⟨rfl, ⟨nd, rfl⟩⟩) | (go_at_call 62; (with_reducible refine (impl_within.calls a0_5 1 3 true _ A11.out).mono ?_); rintro e w' ⟨rfl, ⟨nd, rfl⟩⟩) | (go_at_call 62; (with_reducible refine (impl_within.calls a0_6 1 999 b1 _ A13.out).mono ?_); rintro e w' ⟨rfl, ⟨nd, rfl⟩⟩))
   go_ret
   exact ⟨by first | rfl | (simp [*, errW_none, errW_some] <;> rfl), by repeat (with_reducible first | exact HB.out | apply below_alloc | apply pw_below_drewN | apply below_drew1 | refine below_set ?_ (Aside0.out ‹_›))⟩
  replace c12 := Bool.eq_false_iff.mpr c12
  subst c12
  rw [if_neg (show ¬ (false = true) by decide)] at H
  obtain rfl := Option.some.inj H
  go_enter Try.func14, Try.ntmps14
  go_wp2_with (first | ((with_reducible refine gd_ 1 rfl ?_); refine bx_ 1 rfl #[.slice A0_0 l0_0.length c0_0, .int .i64 a0_1, .int .i64 a0_2, .int .i64 a0_3, .int .i64 a0_4, .int .i64 a0_5, .int .i64 a0_6] 24 ?_; intro a1 hg w16 hbox hb; have a0 := yaa (hbox); have a2 := yaa ((by rw [hg]; exact (below_size (upH HB.out)) : w.heap.size ≤ a1)); replace HB := yaa (below_step (upH HB.out) hb); have a3 := a2; clear hb hbox hg; obtain ⟨d0, d1, d2, d3, d4, d5, d6⟩ := cc7_ a0.out; obtain ⟨d7, d8, d9, e0, e1, e2⟩ := cf6_ a0.out; have e3 := blk_frozen a0.out 6) | (go_at_call 62; (with_reducible refine (impl_within.calls a0_1 1 9 true _ A3.out).mono ?_); rintro e w' ⟨rfl, ⟨nd, rfl⟩⟩) | (go_at_call 62; (with_reducible refine (impl_within.calls a0_2 1 99 true _ A5.out).mono ?_); rintro e w' ⟨rfl, ⟨nd, rfl⟩⟩) | (go_at_call 62; (with_reducible refine (impl_within.calls a0_3 1 4 true _ A7.out).mono ?_); rintro e w' ⟨rfl, ⟨nd, rfl⟩⟩) | (go_at_call 62; (with_reducible refine (impl_within.calls a0_4 1 999 true _ A9.out).mono ?_); rintro e w' ⟨rfl, ⟨nd, rfl⟩⟩) | (go_at_call 62; (with_reducible refine (impl_within.calls a0_5 1 3 false _ A11.out).mono ?_); rintro e w' ⟨rfl, ⟨nd, rfl⟩⟩))
  go_ret
  exact ⟨by first | rfl | (simp [*, errW_none, errW_some] <;> rfl), by repeat (with_reducible first | exact HB.out | apply below_alloc | apply pw_below_drewN | apply below_drew1 | refine below_set ?_ (Aside0.out ‹_›))⟩
 replace c10 := Bool.eq_false_iff.mpr c10
 subst c10
 rw [if_neg (show ¬ (false = true) by decide)] at H
 obtain rfl := Option.some.inj H
 go_enter Try.func14, Try.ntmps14
 go_wp2_with (first | ((with_reducible refine gd_ 1 rfl ?_); refine bx_ 1 rfl #[.slice A0_0 l0_0.length c0_0, .int .i64 a0_1, .int .i64 a0_2, .int .i64 a0_3, .int .i64 a0_4, .int .i64 a0_5, .int .i64 a0_6] 24 ?_; intro a1 hg w18 hbox hb; have a0 := yaa (hbox); have a2 := yaa ((by rw [hg]; exact (below_size (upH HB.out)) : w.heap.size ≤ a1)); replace HB := yaa (below_step (upH HB.out) hb); have a3 := a2; clear hb hbox hg; obtain ⟨e4, e5, e6, e7, e8, e9, f0⟩ := cc7_ a0.out; obtain ⟨f1, f2, f3, f4, f5, f6⟩ := cf6_ a0.out; have f7 := blk_frozen a0.out 6) | (go_at_call 62; (with_reducible refine (impl_within.calls a0_1 1 9 true _ A3.out).mono ?_); rintro e w' ⟨rfl, ⟨nd, rfl⟩⟩) | (go_at_call 62; (with_reducible refine (impl_within.calls a0_2 1 99 true _ A5.out).mono ?_); rintro e w' ⟨rfl, ⟨nd, rfl⟩⟩) | (go_at_call 62; (with_reducible refine (impl_within.calls a0_3 1 4 true _ A7.out).mono ?_); rintro e w' ⟨rfl, ⟨nd, rfl⟩⟩) | (go_at_call 62; (with_reducible refine (impl_within.calls a0_4 1 999 false _ A9.out).mono ?_); rintro e w' ⟨rfl, ⟨nd, rfl⟩⟩))
 go_ret
 exact ⟨by first | rfl | (simp [*, errW_none, errW_some] <;> rfl), by repeat (with_reducible first | exact HB.out | apply below_alloc | apply pw_below_drewN | apply below_drew1 | refine below_set ?_ (Aside0.out ‹_›))⟩
end
section
theorem eqA146 (d : Nat) (w : World) (x0 y0 : Int) (x1 y1 : Int) (x2 y2 : Int) (x3 y3 : Int) (x4 y4 : Int) :
    (Op.equalIn (d + 2) 146 (.agg #[.int .i64 x0, .int .i64 x1, .int .i64 x2, .int .i64 x3, .int .i64 x4]) (.agg #[.int .i64 y0, .int .i64 y1, .int .i64 y2, .int .i64 y3, .int .i64 y4])).run Try.prog w = .ok (x0 == y0 && (x1 == y1 && (x2 == y2 && (x3 == y3 && (x4 == y4))))) w := by
  refine eqA_of Try.underlying146 (by kernel_rfl) ?_
  refine eqf_cons (by rfl) (by go_simp; rfl) (by go_simp; rfl) (by go_simp) ?_
  refine eqf_cons (by rfl) (by go_simp; rfl) (by go_simp; rfl) (by go_simp) ?_
  refine eqf_cons (by rfl) (by go_simp; rfl) (by go_simp; rfl) (by go_simp) ?_
  refine eqf_cons (by rfl) (by go_simp; rfl) (by go_simp; rfl) (by go_simp) ?_
  exact eqf_last (by rfl) (by go_simp; rfl) (by go_simp; rfl) (by go_simp)
end
section
def impl_partOk.f (a0 : Int) : Option (Bool) := if a0 ≥ 0 then (some (decide (a0 ≤ 255))) else (some false)
set_option maxHeartbeats 8000000 in
set_option maxRecDepth 100000 in
theorem impl_partOk.calls (a0 : Int) (r : Bool) (w : World) (h : impl_partOk.f a0 = some r) :
    Calls Try.prog 118 #[.int .i64 a0] w fun e w' => e = .returned (.bool r) ∧ Drawn0 w w' := by
  have H : (if a0 ≥ 0 then (some (decide (a0 ≤ 255))) else (some false)) = some r := h; clear h
  by_cases c2 : a0 ≥ 0
  · rw [if_pos c2] at H
    have c2b0 : decide (0 ≤ a0) = true := decide_eq_true c2; clear c2; obtain rfl := Option.some.inj H
    go_enter Try.func118, Try.ntmps118
    go_wp2
    go_ret
    exact ⟨by first | rfl | (simp; done) | (simp [*]; done), by repeat (first | exact Drawn0.refl _ | apply Drawn0.step)⟩
  · rw [if_neg c2] at H
    have c2b0 : decide (0 ≤ a0) = false := decide_eq_false c2; clear c2; obtain rfl := Option.some.inj H
    go_enter Try.func118, Try.ntmps118
    go_wp2
    go_ret
    exact ⟨by first | rfl | (simp; done) | (simp [*]; done), by repeat (first | exact Drawn0.refl _ | apply Drawn0.step)⟩
end
section
def impl_sizeOk.f (a0 : Int) : Option (Bool) := if a0 ≥ 1 then (some (decide (a0 ≤ 6))) else (some false)
set_option maxHeartbeats 8000000 in
set_option maxRecDepth 100000 in
theorem impl_sizeOk.calls (a0 : Int) (r : Bool) (w : World) (h : impl_sizeOk.f a0 = some r) :
    Calls Try.prog 143 #[.int .i64 a0] w fun e w' => e = .returned (.bool r) ∧ Drawn0 w w' := by
  have H : (if a0 ≥ 1 then (some (decide (a0 ≤ 6))) else (some false)) = some r := h; clear h
  by_cases c2 : a0 ≥ 1
  · rw [if_pos c2] at H
    have c2b0 : decide (1 ≤ a0) = true := decide_eq_true c2; clear c2; obtain rfl := Option.some.inj H
    go_enter Try.func143, Try.ntmps143
    go_wp2
    go_ret
    exact ⟨by first | rfl | (simp; done) | (simp [*]; done), by repeat (first | exact Drawn0.refl _ | apply Drawn0.step)⟩
  · rw [if_neg c2] at H
    have c2b0 : decide (1 ≤ a0) = false := decide_eq_false c2; clear c2; obtain rfl := Option.some.inj H
    go_enter Try.func143, Try.ntmps143
    go_wp2
    go_ret
    exact ⟨by first | rfl | (simp; done) | (simp [*]; done), by repeat (first | exact Drawn0.refl _ | apply Drawn0.step)⟩
end
section
attribute [local go_sem high] eqA146
open Go.Proofs.YtgpkkkmapgnhkaaW.PrintWords renaming pw_below_drewN → yaa, below_alloc → yab, below_drew1 → yac, below_set → yae
open Go.Proofs.YtgpkkkmapgnhkaaW.PrintWords.Aside0 renaming mk → yad
def impl_OpOk.j0 : Nat → Int → Bool → Int → Int → Int → Int → Int → Option (Bool)
 | 0, _, _, _, _, _, _, _ => none
 | k + 1, x4, x25, x102000, x102001, x102002, x102003, x102004 => if x25 = true then (some (x102001 == 0 && (x102002 == 0 && (x102003 == 0 && (x102004 == 0))))) else (if x4 = 7 then ((impl_sizeOk.f x102001).bind fun t106 => (if t106 = true then ((impl_sizeOk.f x102002).bind fun t107 => (if t107 = true then (if x102003 = 0 then (some (x102004 == 0)) else (some false)) else (some false))) else (some false))) else (if x4 = 8 then ((impl_partOk.f x102001).bind fun t108 => (if t108 = true then ((impl_partOk.f x102002).bind fun t109 => (if t109 = true then ((impl_partOk.f x102003).bind fun t110 => (if t110 = true then (some (x102004 == 0)) else (some false))) else (some false))) else (some false))) else (some false)))
def impl_OpOk.f (k : Nat) (a0_0 : Int) (a0_1 : Int) (a0_2 : Int) (a0_3 : Int) (a0_4 : Int) : Option (Bool) := if a0_0 = 1 then ((impl_within.f a0_1 0 5).bind fun t102 => (if t102 = true then ((impl_within.f a0_2 0 5).bind fun t103 => (if t103 = true then ((impl_sizeOk.f a0_3).bind fun t104 => (if t104 = true then ((impl_sizeOk.f a0_4).bind fun t105 => (some t105)) else (some false))) else (some false))) else (some false))) else (if a0_0 = 2 then (impl_OpOk.j0 k a0_0 (a0_0 == 2) a0_0 a0_1 a0_2 a0_3 a0_4) else (if a0_0 = 3 then (impl_OpOk.j0 k a0_0 (a0_0 == 3) a0_0 a0_1 a0_2 a0_3 a0_4) else (if a0_0 = 4 then (impl_OpOk.j0 k a0_0 (a0_0 == 4) a0_0 a0_1 a0_2 a0_3 a0_4) else (if a0_0 = 5 then (impl_OpOk.j0 k a0_0 (a0_0 == 5) a0_0 a0_1 a0_2 a0_3 a0_4) else (impl_OpOk.j0 k a0_0 (a0_0 == 6) a0_0 a0_1 a0_2 a0_3 a0_4)))))
set_option maxHeartbeats 8000000 in
set_option maxRecDepth 100000 in
theorem impl_OpOk.calls (k : Nat) (a0_0 : Int) (a0_1 : Int) (a0_2 : Int) (a0_3 : Int) (a0_4 : Int) (r : Bool) (w : World) (h : impl_OpOk.f k a0_0 a0_1 a0_2 a0_3 a0_4 = some r) :
  Calls Try.prog 121 #[.agg #[.int .i64 a0_0, .int .i64 a0_1, .int .i64 a0_2, .int .i64 a0_3, .int .i64 a0_4]] w fun e w' => e = .returned (.bool r) ∧ Below w.heap.size w w' := by
 have hu146 := Try.underlying146; have HB := yad (Below.refl w.heap.size w); have H : (if a0_0 = 1 then ((impl_within.f a0_1 0 5).bind fun h6 => (if h6 = true then ((impl_within.f a0_2 0 5).bind fun h7 => (if h7 = true then ((impl_sizeOk.f a0_3).bind fun h8 => (if h8 = true then ((impl_sizeOk.f a0_4).bind fun h9 => (some h9)) else (some false))) else (some false))) else (some false))) else (if a0_0 = 2 then (impl_OpOk.j0 k a0_0 (a0_0 == 2) a0_0 a0_1 a0_2 a0_3 a0_4) else (if a0_0 = 3 then (impl_OpOk.j0 k a0_0 (a0_0 == 3) a0_0 a0_1 a0_2 a0_3 a0_4) else (if a0_0 = 4 then (impl_OpOk.j0 k a0_0 (a0_0 == 4) a0_0 a0_1 a0_2 a0_3 a0_4) else (if a0_0 = 5 then (impl_OpOk.j0 k a0_0 (a0_0 == 5) a0_0 a0_1 a0_2 a0_3 a0_4) else (impl_OpOk.j0 k a0_0 (a0_0 == 6) a0_0 a0_1 a0_2 a0_3 a0_4)))))) = some r := h; clear h
 by_cases c2 : a0_0 = 1
 ·
  rw [if_pos c2] at H
  have i0 := beq_iff_eq.mpr c2; have i1 := bne_eq_false_iff_eq.mpr c2; clear c2; obtain ⟨h6, A3, H⟩ := bindA H; (try dsimp only at H)
  by_cases c4 : h6 = true
  rotate_left
  ·
   replace c4 := Bool.eq_false_iff.mpr c4
   subst c4
   rw [if_neg (show ¬ (false = true) by decide)] at H
   obtain rfl := Option.some.inj H
   go_enter Try.func121, Try.ntmps121
   go_wp2_with (first | ((with_reducible refine gd_ 1 rfl ?_); refine bx_ 1 rfl #[.int .i64 a0_0, .int .i64 a0_1, .int .i64 a0_2, .int .i64 a0_3, .int .i64 a0_4] 146 ?_; intro a6 hg w16 hbox hb; have a5 := yad (hbox); have a7 := yad ((by rw [hg]; exact (below_size (upH HB.out)) : w.heap.size ≤ a6)); replace HB := yad (below_step (upH HB.out) hb); have b2 := a7; clear hb hbox hg; obtain ⟨e9, f0, f1, f2, f3⟩ := cc5_ a5.out; obtain ⟨f4, f5, f6, f7⟩ := cf4_ a5.out; have f8 := blk_frozen a5.out 4) | ((with_reducible refine gc_ 62 rfl ?_); refine gl_ (some 9) rfl Try.func62 #[.int .i64 a0_1, .int .i64 0, .int .i64 5] ?_; (with_reducible refine (impl_within.calls a0_1 0 5 false _ A3.out).mono ?_); rintro e w' ⟨rfl, ⟨nd, rfl⟩⟩; refine ⟨_, rfl, ?_⟩))
   go_ret
   exact ⟨by first | rfl | (simp [*, errW_none, errW_some] <;> rfl), by repeat (with_reducible first | exact HB.out | apply yab | apply yaa | apply yac | refine yae ?_ (Aside0.out ‹_›))⟩
  subst c4
  rw [if_pos rfl] at H
  obtain ⟨h7, A5, H⟩ := bindA H; (try dsimp only at H)
  by_cases c6 : h7 = true
  ·
   subst c6
   rw [if_pos rfl] at H
   obtain ⟨h8, A7, H⟩ := bindA H; (try dsimp only at H)
   by_cases c8 : h8 = true
   ·
    subst c8
    rw [if_pos rfl] at H
    obtain ⟨h9, A9, H⟩ := bindA H; (try dsimp only at H); obtain rfl := Option.some.inj H
    go_enter Try.func121, Try.ntmps121
    go_wp2_with (first | ((with_reducible refine gd_ 1 rfl ?_); refine bx_ 1 rfl #[.int .i64 a0_0, .int .i64 a0_1, .int .i64 a0_2, .int .i64 a0_3, .int .i64 a0_4] 146 ?_; intro a6 hg w10 hbox hb; have a5 := yad (hbox); have a7 := yad ((by rw [hg]; exact (below_size (upH HB.out)) : w.heap.size ≤ a6)); replace HB := yad (below_step (upH HB.out) hb); have b2 := a7; clear hb hbox hg; obtain ⟨b3, b4, b5, b6, b7⟩ := cc5_ a5.out; obtain ⟨b8, b9, c0, c3⟩ := cf4_ a5.out; have c7 := blk_frozen a5.out 4) | ((with_reducible refine gc_ 62 rfl ?_); refine gl_ (some 9) rfl Try.func62 #[.int .i64 a0_1, .int .i64 0, .int .i64 5] ?_; (with_reducible refine (impl_within.calls a0_1 0 5 true _ A3.out).mono ?_); rintro e w' ⟨rfl, ⟨nd, rfl⟩⟩; refine ⟨_, rfl, ?_⟩) | (go_at_call 62; (with_reducible refine (impl_within.calls a0_2 0 5 true _ A5.out).mono ?_); rintro e w' ⟨rfl, ⟨nd, rfl⟩⟩) | (go_at_call 143; (with_reducible refine (impl_sizeOk.calls a0_3 true _ A7.out).mono ?_); rintro e w' ⟨rfl, ⟨nd, rfl⟩⟩) | (go_at_call 143; (with_reducible refine (impl_sizeOk.calls a0_4 h9 _ A9.out).mono ?_); rintro e w' ⟨rfl, ⟨nd, rfl⟩⟩))
    go_ret
    exact ⟨by first | rfl | (simp [*, errW_none, errW_some] <;> rfl), by repeat (with_reducible first | exact HB.out | apply yab | apply yaa | apply yac | refine yae ?_ (Aside0.out ‹_›))⟩
   replace c8 := Bool.eq_false_iff.mpr c8
   subst c8
   rw [if_neg (show ¬ (false = true) by decide)] at H
   obtain rfl := Option.some.inj H
   go_enter Try.func121, Try.ntmps121
   go_wp2_with (first | ((with_reducible refine gd_ 1 rfl ?_); refine bx_ 1 rfl #[.int .i64 a0_0, .int .i64 a0_1, .int .i64 a0_2, .int .i64 a0_3, .int .i64 a0_4] 146 ?_; intro a6 hg w12 hbox hb; have a5 := yad (hbox); have a7 := yad ((by rw [hg]; exact (below_size (upH HB.out)) : w.heap.size ≤ a6)); replace HB := yad (below_step (upH HB.out) hb); have b2 := a7; clear hb hbox hg; obtain ⟨c9, d0, d1, d2, d3⟩ := cc5_ a5.out; obtain ⟨d4, d5, d6, d7⟩ := cf4_ a5.out; have d8 := blk_frozen a5.out 4) | ((with_reducible refine gc_ 62 rfl ?_); refine gl_ (some 9) rfl Try.func62 #[.int .i64 a0_1, .int .i64 0, .int .i64 5] ?_; (with_reducible refine (impl_within.calls a0_1 0 5 true _ A3.out).mono ?_); rintro e w' ⟨rfl, ⟨nd, rfl⟩⟩; refine ⟨_, rfl, ?_⟩) | (go_at_call 62; (with_reducible refine (impl_within.calls a0_2 0 5 true _ A5.out).mono ?_); rintro e w' ⟨rfl, ⟨nd, rfl⟩⟩) | (go_at_call 143; (with_reducible refine (impl_sizeOk.calls a0_3 false _ A7.out).mono ?_); rintro e w' ⟨rfl, ⟨nd, rfl⟩⟩))
   go_ret
   exact ⟨by first | rfl | (simp [*, errW_none, errW_some] <;> rfl), by repeat (with_reducible first | exact HB.out | apply yab | apply yaa | apply yac | refine yae ?_ (Aside0.out ‹_›))⟩
  replace c6 := Bool.eq_false_iff.mpr c6
  subst c6
  rw [if_neg (show ¬ (false = true) by decide)] at H
  obtain rfl := Option.some.inj H
  go_enter Try.func121, Try.ntmps121
  go_wp2_with (first | ((with_reducible refine gd_ 1 rfl ?_); refine bx_ 1 rfl #[.int .i64 a0_0, .int .i64 a0_1, .int .i64 a0_2, .int .i64 a0_3, .int .i64 a0_4] 146 ?_; intro a6 hg w14 hbox hb; have a5 := yad (hbox); have a7 := yad ((by rw [hg]; exact (below_size (upH HB.out)) : w.heap.size ≤ a6)); replace HB := yad (below_step (upH HB.out) hb); have b2 := a7; clear hb hbox hg; obtain ⟨d9, e0, e1, e2, e3⟩ := cc5_ a5.out; obtain ⟨e4, e5, e6, e7⟩ := cf4_ a5.out; have e8 := blk_frozen a5.out 4) | ((with_reducible refine gc_ 62 rfl ?_); refine gl_ (some 9) rfl Try.func62 #[.int .i64 a0_1, .int .i64 0, .int .i64 5] ?_; (with_reducible refine (impl_within.calls a0_1 0 5 true _ A3.out).mono ?_); rintro e w' ⟨rfl, ⟨nd, rfl⟩⟩; refine ⟨_, rfl, ?_⟩) | (go_at_call 62; (with_reducible refine (impl_within.calls a0_2 0 5 false _ A5.out).mono ?_); rintro e w' ⟨rfl, ⟨nd, rfl⟩⟩))
  go_ret
  exact ⟨by first | rfl | (simp [*, errW_none, errW_some] <;> rfl), by repeat (with_reducible first | exact HB.out | apply yab | apply yaa | apply yac | refine yae ?_ (Aside0.out ‹_›))⟩
 rw [if_neg c2] at H
 have i0 := beq_eq_false_iff_ne.mpr c2; have i1 := bne_iff_ne.mpr c2; have HC18 := yad H; clear H
 go_enter Try.func121, Try.ntmps121
 go_upto_if 25 with (first | ((with_reducible refine gd_ 1 rfl ?_); refine bx_ 1 rfl #[.int .i64 a0_0, .int .i64 a0_1, .int .i64 a0_2, .int .i64 a0_3, .int .i64 a0_4] 146 ?_; intro a6 hg w19 hbox hb; have a5 := yad (hbox); have a7 := yad ((by rw [hg]; exact (below_size (upH HB.out)) : w.heap.size ≤ a6)); replace HB := yad (below_step (upH HB.out) hb); have b2 := a7; clear hb hbox hg; obtain ⟨f9, g0, g1, g2, g3⟩ := cc5_ a5.out; obtain ⟨g4, g5, g6, g7⟩ := cf4_ a5.out; have g8 := blk_frozen a5.out 4))
 (try simp only [Act.put, List.setIfInBounds_toArray, List.set_cons_zero, List.set_cons_succ])
 go_cut [25] (fun v25 wc => ∃ (kq : Nat) (b0 : Bool), v25 = .bool b0 ∧ Aside0 (impl_OpOk.j0 kq a0_0 b0 a0_0 a0_1 a0_2 a0_3 a0_4 = some r) ∧ Aside0 (kq ≤ k) ∧ Aside0 (wc.heap[a6]? = some (.cells #[.int .i64 a0_0, .int .i64 a0_1, .int .i64 a0_2, .int .i64 a0_3, .int .i64 a0_4] 146 (0, 0))) ∧ Aside0 (Below w.heap.size w wc))
 case first =>
  have H := HC18.out; clear HC18
  by_cases c21 : a0_0 = 2
  ·
   rw [if_pos c21] at H
   have a9 := beq_iff_eq.mpr c21; have g9 := bne_eq_false_iff_eq.mpr c21; clear c21
   (first | rw [a9] | (simp only [i64_w, i32_w]; rw [a9]) | skip)
   have H' := yad H; clear H
   go_wp2
   go_meet
   case rel => exact ⟨_, ((a0_0 == 2)), (by first | rfl | (simp; done) | (simp [*]; done)), H', ⟨by first | omega | exact Nat.le_refl _⟩, ⟨by exact upB a5.out⟩, ⟨by repeat (with_reducible first | exact HB.out | apply yab | apply yaa | apply yac | refine yae ?_ (Aside0.out ‹_›))⟩⟩
  rw [if_neg c21] at H
  have a9 := beq_eq_false_iff_ne.mpr c21; have g9 := bne_iff_ne.mpr c21
  (first | rw [a9] | (simp only [i64_w, i32_w]; rw [a9]) | skip)
  by_cases c22 : a0_0 = 3
  ·
   rw [if_pos c22] at H
   have h0 := beq_iff_eq.mpr c22; have h1 := bne_eq_false_iff_eq.mpr c22; clear c22; have H' := yad H; clear H
   go_wp2
   go_meet
   case rel => exact ⟨_, ((a0_0 == 3)), (by first | rfl | (simp; done) | (simp [*]; done)), H', ⟨by first | omega | exact Nat.le_refl _⟩, ⟨by exact upB a5.out⟩, ⟨by repeat (with_reducible first | exact HB.out | apply yab | apply yaa | apply yac | refine yae ?_ (Aside0.out ‹_›))⟩⟩
  rw [if_neg c22] at H
  have h0 := beq_eq_false_iff_ne.mpr c22; have h1 := bne_iff_ne.mpr c22
  by_cases c23 : a0_0 = 4
  ·
   rw [if_pos c23] at H
   have h2 := beq_iff_eq.mpr c23; have h3 := bne_eq_false_iff_eq.mpr c23; clear c23; have H' := yad H; clear H
   go_wp2
   go_meet
   case rel => exact ⟨_, ((a0_0 == 4)), (by first | rfl | (simp; done) | (simp [*]; done)), H', ⟨by first | omega | exact Nat.le_refl _⟩, ⟨by exact upB a5.out⟩, ⟨by repeat (with_reducible first | exact HB.out | apply yab | apply yaa | apply yac | refine yae ?_ (Aside0.out ‹_›))⟩⟩
  rw [if_neg c23] at H
  have h2 := beq_eq_false_iff_ne.mpr c23; have h3 := bne_iff_ne.mpr c23
  by_cases c24 : a0_0 = 5
  ·
   rw [if_pos c24] at H
   have h4 := beq_iff_eq.mpr c24; have h5 := bne_eq_false_iff_eq.mpr c24; clear c24; have H' := yad H; clear H
   go_wp2
   go_meet
   case rel => exact ⟨_, ((a0_0 == 5)), (by first | rfl | (simp; done) | (simp [*]; done)), H', ⟨by first | omega | exact Nat.le_refl _⟩, ⟨by exact upB a5.out⟩, ⟨by repeat (with_reducible first | exact HB.out | apply yab | apply yaa | apply yac | refine yae ?_ (Aside0.out ‹_›))⟩⟩
  rw [if_neg c24] at H
  have h4 := beq_eq_false_iff_ne.mpr c24; have h5 := bne_iff_ne.mpr c24; have H' := yad H; clear H
  go_wp2
  go_meet
  case rel => exact ⟨_, ((a0_0 == 6)), (by first | rfl | (simp; done) | (simp [*]; done)), H', ⟨by first | omega | exact Nat.le_refl _⟩, ⟨by exact upB a5.out⟩, ⟨by repeat (with_reducible first | exact HB.out | apply yab | apply yaa | apply yac | refine yae ?_ (Aside0.out ‹_›))⟩⟩
 case rest =>
  clear HC18; (try clear c1); (try clear c2); (try clear i0); (try clear i1); (try clear p2); (try clear c4); (try clear c6); (try clear c8); (try clear c12); (try clear c21); (try clear a9); (try clear g9); (try clear c22); (try clear h0); (try clear h1); (try clear c23); (try clear h2); (try clear h3); (try clear c24); (try clear h4); (try clear h5); (try clear b3); (try clear b4); (try clear b5); (try clear b6); (try clear b7); (try clear c9); (try clear d0); (try clear d1); (try clear d2); (try clear d3); (try clear d9); (try clear e0); (try clear e1); (try clear e2); (try clear e3); (try clear e9); (try clear f0); (try clear f1); (try clear f2); (try clear f3); (try clear f9); (try clear g0); (try clear g1); (try clear g2); (try clear g3); (try clear b8); (try clear b9); (try clear c0); (try clear c3); (try clear c7); (try clear d4); (try clear d5); (try clear d6); (try clear d7); (try clear d8); (try clear e4); (try clear e5); (try clear e6); (try clear e7); (try clear e8); (try clear f4); (try clear f5); (try clear f6); (try clear f7); (try clear f8); (try clear g4); (try clear g5); (try clear g6); (try clear g7); (try clear g8); obtain ⟨kq, b0, rfl, HA, HJ17, a5, HB⟩ := hcut
  cases kq with
  | zero => exact absurd HA.out (by simp [impl_OpOk.j0])
  | succ kj17 =>
   have H := HA.out; clear HA
   simp only [impl_OpOk.j0] at H
   by_cases c25 : b0 = true
   ·
    subst c25
    rw [if_pos rfl] at H
    obtain rfl := Option.some.inj H; obtain ⟨i8, i9, j1, j2, j3⟩ := cc5_ a5.out; obtain ⟨j4, j5, j6, j7, j8⟩ := cf5_ a5.out
    go_wp2
    go_ret
    exact ⟨by first | rfl | (simp [*, errW_none, errW_some] <;> rfl), by repeat (with_reducible first | exact HB.out | apply yab | apply yaa | apply yac | refine yae ?_ (Aside0.out ‹_›))⟩
   replace c25 := Bool.eq_false_iff.mpr c25
   subst c25
   rw [if_neg (show ¬ (false = true) by decide)] at H
   by_cases c27 : a0_0 = 7
   ·
    rw [if_pos c27] at H
    have i2 := beq_iff_eq.mpr c27; have i3 := bne_eq_false_iff_eq.mpr c27; clear c27; obtain ⟨s0, A28, H⟩ := bindA H; (try dsimp only at H)
    by_cases c29 : s0 = true
    rotate_left
    ·
     replace c29 := Bool.eq_false_iff.mpr c29
     subst c29
     rw [if_neg (show ¬ (false = true) by decide)] at H
     obtain rfl := Option.some.inj H; obtain ⟨m9, n0, n1, n2, n3⟩ := cc5_ a5.out; obtain ⟨n4, n5, n6, n7, n8⟩ := cf5_ a5.out
     go_wp2_with (first | ((with_reducible refine gc_ 143 rfl ?_); refine gl_ (some 40) rfl Try.func143 #[.int .i64 a0_1] ?_; (with_reducible refine (impl_sizeOk.calls a0_1 false _ A28.out).mono ?_); rintro e w' ⟨rfl, ⟨nd, rfl⟩⟩; refine ⟨_, rfl, ?_⟩))
     go_ret
     exact ⟨by first | rfl | (simp [*, errW_none, errW_some] <;> rfl), by repeat (with_reducible first | exact HB.out | apply yab | apply yaa | apply yac | refine yae ?_ (Aside0.out ‹_›))⟩
    subst c29
    rw [if_pos rfl] at H
    obtain ⟨s1, A30, H⟩ := bindA H; (try dsimp only at H)
    by_cases c31 : s1 = true
    ·
     subst c31
     rw [if_pos rfl] at H
     by_cases c32 : a0_3 = 0
     ·
      rw [if_pos c32] at H
      have i4 := beq_iff_eq.mpr c32; have i5 := bne_eq_false_iff_eq.mpr c32; clear c32; obtain rfl := Option.some.inj H; obtain ⟨j9, k0, k1, k2, k3⟩ := cc5_ a5.out; obtain ⟨k4, k5, k6, k7, k8⟩ := cf5_ a5.out
      go_wp2_with (first | ((with_reducible refine gc_ 143 rfl ?_); refine gl_ (some 40) rfl Try.func143 #[.int .i64 a0_1] ?_; (with_reducible refine (impl_sizeOk.calls a0_1 true _ A28.out).mono ?_); rintro e w' ⟨rfl, ⟨nd, rfl⟩⟩; refine ⟨_, rfl, ?_⟩) | (go_at_call 143; (with_reducible refine (impl_sizeOk.calls a0_2 true _ A30.out).mono ?_); rintro e w' ⟨rfl, ⟨nd, rfl⟩⟩))
      go_ret
      exact ⟨by first | rfl | (simp [*, errW_none, errW_some] <;> rfl), by repeat (with_reducible first | exact HB.out | apply yab | apply yaa | apply yac | refine yae ?_ (Aside0.out ‹_›))⟩
     rw [if_neg c32] at H
     have i4 := beq_eq_false_iff_ne.mpr c32; have i5 := bne_iff_ne.mpr c32; obtain rfl := Option.some.inj H; obtain ⟨k9, l0, l1, l2, l3⟩ := cc5_ a5.out; obtain ⟨l4, l5, l6, l7, l8⟩ := cf5_ a5.out
     go_wp2_with (first | ((with_reducible refine gc_ 143 rfl ?_); refine gl_ (some 40) rfl Try.func143 #[.int .i64 a0_1] ?_; (with_reducible refine (impl_sizeOk.calls a0_1 true _ A28.out).mono ?_); rintro e w' ⟨rfl, ⟨nd, rfl⟩⟩; refine ⟨_, rfl, ?_⟩) | (go_at_call 143; (with_reducible refine (impl_sizeOk.calls a0_2 true _ A30.out).mono ?_); rintro e w' ⟨rfl, ⟨nd, rfl⟩⟩))
     go_ret
     exact ⟨by first | rfl | (simp [*, errW_none, errW_some] <;> rfl), by repeat (with_reducible first | exact HB.out | apply yab | apply yaa | apply yac | refine yae ?_ (Aside0.out ‹_›))⟩
    replace c31 := Bool.eq_false_iff.mpr c31
    subst c31
    rw [if_neg (show ¬ (false = true) by decide)] at H
    obtain rfl := Option.some.inj H; obtain ⟨l9, m0, m1, m2, m3⟩ := cc5_ a5.out; obtain ⟨m4, m5, m6, m7, m8⟩ := cf5_ a5.out
    go_wp2_with (first | ((with_reducible refine gc_ 143 rfl ?_); refine gl_ (some 40) rfl Try.func143 #[.int .i64 a0_1] ?_; (with_reducible refine (impl_sizeOk.calls a0_1 true _ A28.out).mono ?_); rintro e w' ⟨rfl, ⟨nd, rfl⟩⟩; refine ⟨_, rfl, ?_⟩) | (go_at_call 143; (with_reducible refine (impl_sizeOk.calls a0_2 false _ A30.out).mono ?_); rintro e w' ⟨rfl, ⟨nd, rfl⟩⟩))
    go_ret
    exact ⟨by first | rfl | (simp [*, errW_none, errW_some] <;> rfl), by repeat (with_reducible first | exact HB.out | apply yab | apply yaa | apply yac | refine yae ?_ (Aside0.out ‹_›))⟩
   rw [if_neg c27] at H
   have i2 := beq_eq_false_iff_ne.mpr c27; have i3 := bne_iff_ne.mpr c27
   by_cases c37 : a0_0 = 8
   rotate_left
   ·
    rw [if_neg c37] at H
    have i6 := beq_eq_false_iff_ne.mpr c37; have i7 := bne_iff_ne.mpr c37; obtain rfl := Option.some.inj H
    go_wp2
    go_ret
    exact ⟨by first | rfl | (simp [*, errW_none, errW_some] <;> rfl), by repeat (with_reducible first | exact HB.out | apply yab | apply yaa | apply yac | refine yae ?_ (Aside0.out ‹_›))⟩
   rw [if_pos c37] at H
   have i6 := beq_iff_eq.mpr c37; have i7 := bne_eq_false_iff_eq.mpr c37; clear c37; obtain ⟨s2, A38, H⟩ := bindA H; (try dsimp only at H)
   by_cases c39 : s2 = true
   rotate_left
   ·
    replace c39 := Bool.eq_false_iff.mpr c39
    subst c39
    rw [if_neg (show ¬ (false = true) by decide)] at H
    obtain rfl := Option.some.inj H; obtain ⟨r0, r1, r2, r3, r4⟩ := cc5_ a5.out; obtain ⟨r5, r6, r7, r8, r9⟩ := cf5_ a5.out
    go_wp2_with (first | ((with_reducible refine gc_ 118 rfl ?_); refine gl_ (some 60) rfl Try.func118 #[.int .i64 a0_1] ?_; (with_reducible refine (impl_partOk.calls a0_1 false _ A38.out).mono ?_); rintro e w' ⟨rfl, ⟨nd, rfl⟩⟩; refine ⟨_, rfl, ?_⟩))
    go_ret
    exact ⟨by first | rfl | (simp [*, errW_none, errW_some] <;> rfl), by repeat (with_reducible first | exact HB.out | apply yab | apply yaa | apply yac | refine yae ?_ (Aside0.out ‹_›))⟩
   subst c39
   rw [if_pos rfl] at H
   obtain ⟨s3, A40, H⟩ := bindA H; (try dsimp only at H)
   by_cases c41 : s3 = true
   ·
    subst c41
    rw [if_pos rfl] at H
    obtain ⟨s4, A42, H⟩ := bindA H; (try dsimp only at H)
    by_cases c43 : s4 = true
    ·
     subst c43
     rw [if_pos rfl] at H
     obtain rfl := Option.some.inj H; obtain ⟨n9, o0, o1, o2, o3⟩ := cc5_ a5.out; obtain ⟨o4, o5, o6, o7, o8⟩ := cf5_ a5.out
     go_wp2_with (first | ((with_reducible refine gc_ 118 rfl ?_); refine gl_ (some 60) rfl Try.func118 #[.int .i64 a0_1] ?_; (with_reducible refine (impl_partOk.calls a0_1 true _ A38.out).mono ?_); rintro e w' ⟨rfl, ⟨nd, rfl⟩⟩; refine ⟨_, rfl, ?_⟩) | (go_at_call 118; (with_reducible refine (impl_partOk.calls a0_2 true _ A40.out).mono ?_); rintro e w' ⟨rfl, ⟨nd, rfl⟩⟩) | (go_at_call 118; (with_reducible refine (impl_partOk.calls a0_3 true _ A42.out).mono ?_); rintro e w' ⟨rfl, ⟨nd, rfl⟩⟩))
     go_ret
     exact ⟨by first | rfl | (simp [*, errW_none, errW_some] <;> rfl), by repeat (with_reducible first | exact HB.out | apply yab | apply yaa | apply yac | refine yae ?_ (Aside0.out ‹_›))⟩
    replace c43 := Bool.eq_false_iff.mpr c43
    subst c43
    rw [if_neg (show ¬ (false = true) by decide)] at H
    obtain rfl := Option.some.inj H; obtain ⟨o9, p0, p1, p3, p4⟩ := cc5_ a5.out; obtain ⟨p5, p6, p7, p8, p9⟩ := cf5_ a5.out
    go_wp2_with (first | ((with_reducible refine gc_ 118 rfl ?_); refine gl_ (some 60) rfl Try.func118 #[.int .i64 a0_1] ?_; (with_reducible refine (impl_partOk.calls a0_1 true _ A38.out).mono ?_); rintro e w' ⟨rfl, ⟨nd, rfl⟩⟩; refine ⟨_, rfl, ?_⟩) | (go_at_call 118; (with_reducible refine (impl_partOk.calls a0_2 true _ A40.out).mono ?_); rintro e w' ⟨rfl, ⟨nd, rfl⟩⟩) | (go_at_call 118; (with_reducible refine (impl_partOk.calls a0_3 false _ A42.out).mono ?_); rintro e w' ⟨rfl, ⟨nd, rfl⟩⟩))
    go_ret
    exact ⟨by first | rfl | (simp [*, errW_none, errW_some] <;> rfl), by repeat (with_reducible first | exact HB.out | apply yab | apply yaa | apply yac | refine yae ?_ (Aside0.out ‹_›))⟩
   replace c41 := Bool.eq_false_iff.mpr c41
   subst c41
   rw [if_neg (show ¬ (false = true) by decide)] at H
   obtain rfl := Option.some.inj H; obtain ⟨q0, q1, q2, q3, q4⟩ := cc5_ a5.out; obtain ⟨q5, q6, q7, q8, q9⟩ := cf5_ a5.out
   go_wp2_with (first | ((with_reducible refine gc_ 118 rfl ?_); refine gl_ (some 60) rfl Try.func118 #[.int .i64 a0_1] ?_; (with_reducible refine (impl_partOk.calls a0_1 true _ A38.out).mono ?_); rintro e w' ⟨rfl, ⟨nd, rfl⟩⟩; refine ⟨_, rfl, ?_⟩) | (go_at_call 118; (with_reducible refine (impl_partOk.calls a0_2 false _ A40.out).mono ?_); rintro e w' ⟨rfl, ⟨nd, rfl⟩⟩))
   go_ret
   exact ⟨by first | rfl | (simp [*, errW_none, errW_some] <;> rfl), by repeat (with_reducible first | exact HB.out | apply yab | apply yaa | apply yac | refine yae ?_ (Aside0.out ‹_›))⟩
end
section
open Go.Proofs.Ytgpkkkmapgnhkaa.X renaming rd_T146 → yaa
def impl_opsOk.l0 : Nat → List (S146) → Int → Int → Option (Bool)
 | 0, _, _, _ => none
 | k + 1, x8, x9, x10 => if x10 < x9 then (if 0 ≤ x10 then (if x10 < (x8.length : Int) then ((impl_OpOk.f k ((rd_T146 x8 x10).f0) ((rd_T146 x8 x10).f1) ((rd_T146 x8 x10).f2) ((rd_T146 x8 x10).f3) ((rd_T146 x8 x10).f4)).bind fun t103 => (if t103 = true then (impl_opsOk.l0 k x8 x9 (wrap64 (x10 + 1))) else (some false))) else (none)) else (none)) else (some true)
def impl_opsOk.f (k : Nat) (l0 : List (S146)) : Option (Bool) := if (l0.length : Int) > 5 then (some false) else (impl_opsOk.l0 k l0 (l0.length : Int) 0)
set_option maxHeartbeats 8000000 in
set_option maxRecDepth 100000 in
theorem impl_opsOk.calls (k : Nat) (A0 : Option Addr) (c0 : Nat) (l0 : List (S146)) (r : Bool) (w : World) (hr0 : Kd.C k146 w A0 l0.length l0) (hc0 : l0.length ≤ c0) (h : impl_opsOk.f k l0 = some r) :
  Calls Try.prog 72 #[.slice A0 l0.length c0] w fun e w' => e = .returned (.bool r) ∧ Below w.heap.size w w' := by
 have hu146 := Try.underlying146; have HR0 := Aside0.mk hr0; have HC0 := Aside0.mk hc0; clear hr0 hc0; have HB := Aside0.mk (Below.refl w.heap.size w); have H : (if (l0.length : Int) > 5 then (some false) else (impl_opsOk.l0 k l0 (l0.length : Int) 0)) = some r := h; clear h
 by_cases c2 : (l0.length : Int) > 5
 ·
  rw [if_pos c2] at H
  have b1 : decide (5 < (l0.length : Int)) = true := decide_eq_true c2; have b2 : decide (5 < l0.length) = true := decide_eq_true (by omega); clear c2; obtain rfl := Option.some.inj H
  go_enter Try.func72, Try.ntmps72
  go_wp2
  go_ret
  exact ⟨by first | rfl | (simp [*, errW_none, errW_some] <;> rfl), upH HB.out⟩
 rw [if_neg c2] at H
 have b1 : decide (5 < (l0.length : Int)) = false := decide_eq_false c2; have b2 : decide (5 < l0.length) = false := decide_eq_false (by omega); clear c2; have H' := Aside0.mk H; clear H
 go_enter Try.func72, Try.ntmps72
 go_wp2
 (try simp only [Act.put, List.setIfInBounds_toArray, List.set_cons_zero, List.set_cons_succ])
 go_loopg [10] k (fun kq v10 w' => ∃ (a1 : Int), v10 = .int .i64 a1 ∧ Aside0 (impl_opsOk.l0 kq l0 (l0.length : Int) a1 = some r) ∧ Aside0 (kq ≤ k) ∧ Aside0 (Below w.heap.size w w'))
 case atStart => exact ⟨(0), (by first | rfl | (simp; done) | (simp [*]; done)), H', ⟨Nat.le_refl _⟩, ⟨upH HB.out⟩⟩
 case round =>
  clear H'; (try clear c2); (try clear b1); (try clear b2); (try clear p2); obtain ⟨a1, rfl, HA, HK1, HB⟩ := hrel
  cases gk with
  | zero => exact absurd HA.out (by simp [impl_opsOk.l0])
  | succ k1 =>
   have H := HA.out; clear HA
   simp only [impl_opsOk.l0] at H
   by_cases c3 : a1 < (l0.length : Int)
   rotate_left
   ·
    rw [if_neg c3] at H
    have d0 : decide (a1 < (l0.length : Int)) = false := decide_eq_false c3; clear c3; obtain rfl := Option.some.inj H
    go_wp2
    go_ret
    exact ⟨by first | rfl | (simp [*, errW_none, errW_some] <;> rfl), upH HB.out⟩
   rw [if_pos c3] at H
   have d0 : decide (a1 < (l0.length : Int)) = true := decide_eq_true c3; clear c3
   by_cases c4 : 0 ≤ a1
   rotate_left
   ·
    rw [if_neg c4] at H
    exact absurd H (by simp)
   rw [if_pos c4] at H
   replace c4 := decide_eq_true c4
   by_cases c5 : a1 < (l0.length : Int)
   rotate_left
   ·
    rw [if_neg c5] at H
    exact absurd H (by simp)
   rw [if_pos c5] at H
   replace c5 := decide_eq_true c5; obtain ⟨d1, A6, H⟩ := bindA H; (try dsimp only at H)
   by_cases c7 : d1 = true
   ·
    subst c7
    rw [if_pos rfl] at H
    have H' := Aside0.mk H; clear H; have p101 : 0 ≤ (a1 : Int) := of_decide_eq_true (by assumption); have q101 : a1 < (l0.length : Int) := of_decide_eq_true (by assumption); obtain ⟨ad101, b0, a3, a4, a5, a6, a7⟩ := at_T146 HR0.out a1 p101 q101
    cases b0
    replace a3 := (upc_ HB.out a3 :); replace a4 := (upc_ HB.out a4 :); replace a5 := (upc_ HB.out a5 :); replace a6 := (upc_ HB.out a6 :); replace a7 := (upc_ HB.out a7 :); replace p101 := eq_true p101; replace q101 := eq_true q101
    go_wp2_with (first | ((with_reducible refine gd_ 4 rfl ?_); refine bx_ 4 rfl #[.int .i64 0, .int .i64 0, .int .i64 0, .int .i64 0, .int .i64 0] 146 ?_; intro a8 hg w8 hbox hb; have a2 := Aside0.mk (hbox); have a9 := Aside0.mk ((by rw [hg]; exact (below_size (upH HB.out)) : w.heap.size ≤ a8)); replace HB := Aside0.mk (below_step (upH HB.out) hb); have b3 := a9; clear hb hbox hg; obtain ⟨d2, d3, d4, d5, d6⟩ := cc5_ a2.out; obtain ⟨d8, d9, e0, e1⟩ := cf4_ a2.out; have e3 := blk_frozen a2.out 4) | ((with_reducible refine gc_ 121 rfl ?_); refine gl_ (some 15) rfl Try.func121 #[.agg #[.int .i64 ((yaa l0 a1).f0), .int .i64 ((yaa l0 a1).f1), .int .i64 ((yaa l0 a1).f2), .int .i64 ((yaa l0 a1).f3), .int .i64 ((yaa l0 a1).f4)]] ?_; (with_reducible refine (impl_OpOk.calls k1 ((yaa l0 a1).f0) ((yaa l0 a1).f1) ((yaa l0 a1).f2) ((yaa l0 a1).f3) ((yaa l0 a1).f4) true _ A6.out).mono ?_); rintro e w10 ⟨rfl, hb⟩; refine ⟨_, rfl, ?_⟩; replace a2 := Aside0.mk (blk_below (g := a8) (o := .cells #[.int .i64 ((yaa l0 a1).f0), .int .i64 ((yaa l0 a1).f1), .int .i64 ((yaa l0 a1).f2), .int .i64 ((yaa l0 a1).f3), .int .i64 ((yaa l0 a1).f4)] 146 (0, 0)) (by (repeat refine oneB ?_); refine blk_put (cs := #[.int .i64 ((yaa l0 a1).f0), .int .i64 ((yaa l0 a1).f1), .int .i64 ((yaa l0 a1).f2), .int .i64 ((yaa l0 a1).f3), .int .i64 0]) ?_ 4 _ rfl; refine blk_put (cs := #[.int .i64 ((yaa l0 a1).f0), .int .i64 ((yaa l0 a1).f1), .int .i64 ((yaa l0 a1).f2), .int .i64 0, .int .i64 0]) ?_ 3 _ rfl; refine blk_put (cs := #[.int .i64 ((yaa l0 a1).f0), .int .i64 ((yaa l0 a1).f1), .int .i64 0, .int .i64 0, .int .i64 0]) ?_ 2 _ rfl; refine blk_put (cs := #[.int .i64 ((yaa l0 a1).f0), .int .i64 0, .int .i64 0, .int .i64 0, .int .i64 0]) ?_ 1 _ rfl; refine blk_put (cs := #[.int .i64 0, .int .i64 0, .int .i64 0, .int .i64 0, .int .i64 0]) ?_ 0 _ rfl; exact upB a2.out) hb); replace HB := Aside0.mk (below_step (by repeat (with_reducible first | exact HB.out | apply below_alloc | apply pw_below_drewN | apply below_drew1 | refine below_set ?_ (Aside0.out ‹_›))) hb); (try clear hb)))
    go_roundg k1
    case measure => have := HK1.out; omega
    case rel => exact ⟨(wrap64 (a1 + 1)), (by first | rfl | (simp; done) | (simp [*]; done)), H', ⟨by have := HK1.out; omega⟩, ⟨by repeat (with_reducible first | exact HB.out | apply below_alloc | apply pw_below_drewN | apply below_drew1 | refine below_set ?_ (Aside0.out ‹_›))⟩⟩
   replace c7 := Bool.eq_false_iff.mpr c7
   subst c7
   rw [if_neg (show ¬ (false = true) by decide)] at H
   obtain rfl := Option.some.inj H; have p101 : 0 ≤ (a1 : Int) := of_decide_eq_true (by assumption); have q101 : a1 < (l0.length : Int) := of_decide_eq_true (by assumption); obtain ⟨ad101, b0, a3, a4, a5, a6, a7⟩ := at_T146 HR0.out a1 p101 q101
   cases b0
   replace a3 := (upc_ HB.out a3 :); replace a4 := (upc_ HB.out a4 :); replace a5 := (upc_ HB.out a5 :); replace a6 := (upc_ HB.out a6 :); replace a7 := (upc_ HB.out a7 :); replace p101 := eq_true p101; replace q101 := eq_true q101
   go_wp2_with (first | ((with_reducible refine gd_ 4 rfl ?_); refine bx_ 4 rfl #[.int .i64 0, .int .i64 0, .int .i64 0, .int .i64 0, .int .i64 0] 146 ?_; intro a8 hg w11 hbox hb; have a2 := Aside0.mk (hbox); have a9 := Aside0.mk ((by rw [hg]; exact (below_size (upH HB.out)) : w.heap.size ≤ a8)); replace HB := Aside0.mk (below_step (upH HB.out) hb); have b3 := a9; clear hb hbox hg; obtain ⟨b4, b5, b6, b7, b8⟩ := cc5_ a2.out; obtain ⟨b9, c1, c6, c8⟩ := cf4_ a2.out; have c9 := blk_frozen a2.out 4) | ((with_reducible refine gc_ 121 rfl ?_); refine gl_ (some 15) rfl Try.func121 #[.agg #[.int .i64 ((yaa l0 a1).f0), .int .i64 ((yaa l0 a1).f1), .int .i64 ((yaa l0 a1).f2), .int .i64 ((yaa l0 a1).f3), .int .i64 ((yaa l0 a1).f4)]] ?_; (with_reducible refine (impl_OpOk.calls k1 ((yaa l0 a1).f0) ((yaa l0 a1).f1) ((yaa l0 a1).f2) ((yaa l0 a1).f3) ((yaa l0 a1).f4) false _ A6.out).mono ?_); rintro e w13 ⟨rfl, hb⟩; refine ⟨_, rfl, ?_⟩; replace a2 := Aside0.mk (blk_below (g := a8) (o := .cells #[.int .i64 ((yaa l0 a1).f0), .int .i64 ((yaa l0 a1).f1), .int .i64 ((yaa l0 a1).f2), .int .i64 ((yaa l0 a1).f3), .int .i64 ((yaa l0 a1).f4)] 146 (0, 0)) (by (repeat refine oneB ?_); refine blk_put (cs := #[.int .i64 ((yaa l0 a1).f0), .int .i64 ((yaa l0 a1).f1), .int .i64 ((yaa l0 a1).f2), .int .i64 ((yaa l0 a1).f3), .int .i64 0]) ?_ 4 _ rfl; refine blk_put (cs := #[.int .i64 ((yaa l0 a1).f0), .int .i64 ((yaa l0 a1).f1), .int .i64 ((yaa l0 a1).f2), .int .i64 0, .int .i64 0]) ?_ 3 _ rfl; refine blk_put (cs := #[.int .i64 ((yaa l0 a1).f0), .int .i64 ((yaa l0 a1).f1), .int .i64 0, .int .i64 0, .int .i64 0]) ?_ 2 _ rfl; refine blk_put (cs := #[.int .i64 ((yaa l0 a1).f0), .int .i64 0, .int .i64 0, .int .i64 0, .int .i64 0]) ?_ 1 _ rfl; refine blk_put (cs := #[.int .i64 0, .int .i64 0, .int .i64 0, .int .i64 0, .int .i64 0]) ?_ 0 _ rfl; exact upB a2.out) hb); replace HB := Aside0.mk (below_step (by repeat (with_reducible first | exact HB.out | apply below_alloc | apply pw_below_drewN | apply below_drew1 | refine below_set ?_ (Aside0.out ‹_›))) hb); (try clear hb)))
   go_ret
   exact ⟨by first | rfl | (simp [*, errW_none, errW_some] <;> rfl), by repeat (with_reducible first | exact HB.out | apply below_alloc | apply pw_below_drewN | apply below_drew1 | refine below_set ?_ (Aside0.out ‹_›))⟩
end
end Go.Proofs.Ytgpkkkmapgnhkaa.X
