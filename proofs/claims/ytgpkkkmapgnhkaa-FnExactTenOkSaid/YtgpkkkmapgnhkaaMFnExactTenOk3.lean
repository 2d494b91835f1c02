/- Lemmas and contracts for the law FnExactTenOk, part 3: of the program's functions, and over data alone. No condition. -/
import Derived.Test.YtgpkkkmapgnhkaaMFnExactTenOk2
namespace Go.Proofs.Ytgpkkkmapgnhkaa.X
open Go.RowKit Go.Proofs.YtgpkkkmapgnhkaaW.PrintWords Go.Proofs.YtgpkkkmapgnhkaaW.PrintLast Go.Proofs.YtgpkkkmapgnhkaaW.PrintMore
attribute [local go_sem] max2_int min2_int max_two min_two max_three min_three max_four min_four
set_option linter.unusedVariables false
set_option linter.unusedSimpArgs false

section
open Go.Proofs.YtgpkkkmapgnhkaaW.PrintWords.Aside0 renaming mk → yaa
open Go.Proofs.YtgpkkkmapgnhkaaW.PrintWords.Kd renaming C_below → yab, C_alloc → yac, C_drewN → yad, C_drew → yae
open Go.Proofs.YtgpkkkmapgnhkaaW.PrintWords renaming pw_below_drewN → yaf, below_alloc → yag, below_drew1 → yah, blk_below → yai, below_set → yaj, below_step → yak

mutual
def impl_TenOk.j0 : Nat → Bool → List Int → Int → Int → Int → Int → Int → Int → Int → Int → Int → Int → List (S124) → List (S156) → List ByteArray → List (S158) → Option (Bool)
 | 0, _, _, _, _, _, _, _, _, _, _, _, _, _, _, _, _ => none
 | k + 1, x21, x102000, x102001, x102002, x102003, x102004, x102005, x102006, x103000, x103001, x103002, x103003, x103004, x103005, x103006, x103007 => if x21 = true then (some false) else ((impl_within.f x103002 0 x103000).bind fun t106 => (if t106 = true then ((impl_within.f x103003 0 9999).bind fun t107 => (impl_TenOk.j1 k (!t107) x102000 x102001 x102002 x102003 x102004 x102005 x102006 x103000 x103001 x103002 x103003 x103004 x103005 x103006 x103007)) else (impl_TenOk.j1 k true x102000 x102001 x102002 x102003 x102004 x102005 x102006 x103000 x103001 x103002 x103003 x103004 x103005 x103006 x103007)))
def impl_TenOk.j1 : Nat → Bool → List Int → Int → Int → Int → Int → Int → Int → Int → Int → Int → Int → List (S124) → List (S156) → List ByteArray → List (S158) → Option (Bool)
 | 0, _, _, _, _, _, _, _, _, _, _, _, _, _, _, _, _ => none
 | k + 1, x33, x102000, x102001, x102002, x102003, x102004, x102005, x102006, x103000, x103001, x103002, x103003, x103004, x103005, x103006, x103007 => if x33 = true then (some false) else ((impl_jobsOk.f k x102000 x102001 x102002 x102003 x102004 x102005 x102006 x103000 x103001 x103002 x103003 x103004 x103005 x103006 x103007).bind fun t108 => (if t108 = true then ((impl_filesOk.f k x102000 x102001 x102002 x102003 x102004 x102005 x102006 x103000 x103001 x103002 x103003 x103004 x103005 x103006 x103007).bind fun t109 => (if t109 = true then ((impl_askedOk.f k x103000 x103001 x103002 x103003 x103004 x103005 x103006 x103007).bind fun t110 => (if t110 = true then ((impl_outsOk.f k x103000 x103001 x103002 x103003 x103004 x103005 x103006 x103007).bind fun t111 => (some t111)) else (some false))) else (some false))) else (some false)))
end
def impl_TenOk.f (k : Nat) (l0_0 : List Int) (a0_1 : Int) (a0_2 : Int) (a0_3 : Int) (a0_4 : Int) (a0_5 : Int) (a0_6 : Int) (a1_0 : Int) (a1_1 : Int) (a1_2 : Int) (a1_3 : Int) (l1_4 : List (S124)) (l1_5 : List (S156)) (l1_6 : List ByteArray) (l1_7 : List (S158)) : Option (Bool) := (impl_CfgOk.f l0_0 a0_1 a0_2 a0_3 a0_4 a0_5 a0_6).bind fun t103 => (if t103 = true then ((impl_within.f a1_0 0 9999).bind fun t104 => (if t104 = true then ((impl_within.f a1_1 0 a0_1).bind fun t105 => (impl_TenOk.j0 k (!t105) l0_0 a0_1 a0_2 a0_3 a0_4 a0_5 a0_6 a1_0 a1_1 a1_2 a1_3 l1_4 l1_5 l1_6 l1_7)) else (impl_TenOk.j0 k true l0_0 a0_1 a0_2 a0_3 a0_4 a0_5 a0_6 a1_0 a1_1 a1_2 a1_3 l1_4 l1_5 l1_6 l1_7))) else (impl_TenOk.j0 k true l0_0 a0_1 a0_2 a0_3 a0_4 a0_5 a0_6 a1_0 a1_1 a1_2 a1_3 l1_4 l1_5 l1_6 l1_7))
set_option maxHeartbeats 8000000 in
set_option maxRecDepth 100000 in
theorem impl_TenOk.calls (k : Nat) (A0_0 : Option Addr) (c0_0 : Nat) (l0_0 : List Int) (a0_1 : Int) (a0_2 : Int) (a0_3 : Int) (a0_4 : Int) (a0_5 : Int) (a0_6 : Int) (a1_0 : Int) (a1_1 : Int) (a1_2 : Int) (a1_3 : Int) (A1_4 : Option Addr) (c1_4 : Nat) (l1_4 : List (S124)) (A1_5 : Option Addr) (c1_5 : Nat) (l1_5 : List (S156)) (A1_6 : Option Addr) (c1_6 : Nat) (l1_6 : List ByteArray) (A1_7 : Option Addr) (c1_7 : Nat) (l1_7 : List (S158)) (r : Bool) (w : World) (hr0_0 : Kd.C (Kd.int .u8) w A0_0 l0_0.length l0_0) (hc0_0 : l0_0.length ≤ c0_0) (hr1_4 : Kd.C k124 w A1_4 l1_4.length l1_4) (hc1_4 : l1_4.length ≤ c1_4) (hr1_5 : Kd.C k156 w A1_5 l1_5.length l1_5) (hc1_5 : l1_5.length ≤ c1_5) (hr1_6 : Kd.C Kd.string w A1_6 l1_6.length l1_6) (hc1_6 : l1_6.length ≤ c1_6) (hr1_7 : Kd.C k158 w A1_7 l1_7.length l1_7) (hc1_7 : l1_7.length ≤ c1_7) (h : impl_TenOk.f k l0_0 a0_1 a0_2 a0_3 a0_4 a0_5 a0_6 a1_0 a1_1 a1_2 a1_3 l1_4 l1_5 l1_6 l1_7 = some r) :
  Calls Try.prog 39 #[.agg #[.slice A0_0 l0_0.length c0_0, .int .i64 a0_1, .int .i64 a0_2, .int .i64 a0_3, .int .i64 a0_4, .int .i64 a0_5, .int .i64 a0_6], .agg #[.int .i64 a1_0, .int .i64 a1_1, .int .i64 a1_2, .int .i64 a1_3, .slice A1_4 l1_4.length c1_4, .slice A1_5 l1_5.length c1_5, .slice A1_6 l1_6.length c1_6, .slice A1_7 l1_7.length c1_7]] w fun e w' => e = .returned (.bool r) ∧ Below w.heap.size w w' := by
 have hu24 := Try.underlying24; have hu63 := Try.underlying63; have HR0_0 := yaa hr0_0; have HC0_0 := yaa hc0_0; clear hr0_0 hc0_0; have HR1_4 := yaa hr1_4; have HC1_4 := yaa hc1_4; clear hr1_4 hc1_4; have HR1_5 := yaa hr1_5; have HC1_5 := yaa hc1_5; clear hr1_5 hc1_5; have HR1_6 := yaa hr1_6; have HC1_6 := yaa hc1_6; clear hr1_6 hc1_6; have HR1_7 := yaa hr1_7; have HC1_7 := yaa hc1_7; clear hr1_7 hc1_7; have HB := yaa (Below.refl w.heap.size w); have H : ((impl_CfgOk.f l0_0 a0_1 a0_2 a0_3 a0_4 a0_5 a0_6).bind fun p1 => (if p1 = true then ((impl_within.f a1_0 0 9999).bind fun p3 => (if p3 = true then ((impl_within.f a1_1 0 a0_1).bind fun l8 => (impl_TenOk.j0 k (!l8) l0_0 a0_1 a0_2 a0_3 a0_4 a0_5 a0_6 a1_0 a1_1 a1_2 a1_3 l1_4 l1_5 l1_6 l1_7)) else (impl_TenOk.j0 k true l0_0 a0_1 a0_2 a0_3 a0_4 a0_5 a0_6 a1_0 a1_1 a1_2 a1_3 l1_4 l1_5 l1_6 l1_7))) else (impl_TenOk.j0 k true l0_0 a0_1 a0_2 a0_3 a0_4 a0_5 a0_6 a1_0 a1_1 a1_2 a1_3 l1_4 l1_5 l1_6 l1_7))) = some r := h; clear h; have HC3 := yaa H; clear H
 go_enter Try.func39, Try.ntmps39
 go_upto_region 1 with (first | ((with_reducible refine gd_ 2 rfl ?_); refine bx_ 2 rfl #[.slice A0_0 l0_0.length c0_0, .int .i64 a0_1, .int .i64 a0_2, .int .i64 a0_3, .int .i64 a0_4, .int .i64 a0_5, .int .i64 a0_6] 24 ?_; intro b8 hg w4 hbox hb; have b1 := yaa (hbox); have p4 := yaa ((by rw [hg]; exact (below_size (upH HB.out)) : w.heap.size ≤ b8)); replace HB := yaa (yak (upH HB.out) hb); have R6 := p4; clear hb hbox hg) | ((with_reducible refine gd_ 3 rfl ?_); refine bx_ 3 rfl #[.int .i64 a1_0, .int .i64 a1_1, .int .i64 a1_2, .int .i64 a1_3, .slice A1_4 l1_4.length c1_4, .slice A1_5 l1_5.length c1_5, .slice A1_6 l1_6.length c1_6, .slice A1_7 l1_7.length c1_7] 63 ?_; intro b9 hg w5 hbox hb; have b0 := yaa (hbox); have p5 := yaa ((by rw [hg]; exact (below_size (by repeat (with_reducible first | exact HB.out | apply yag | apply yaf | apply yah | refine yaj ?_ (Aside0.out ‹_›)))) : w.heap.size ≤ b9)); replace HB := yaa (yak (by repeat (with_reducible first | exact HB.out | apply yag | apply yaf | apply yah | refine yaj ?_ (Aside0.out ‹_›))) hb); have R7 := p5; have b2 := yaa ((by rw [hg]; exact Nat.ne_of_lt (blk_lt (upB b1.out)) : b8 ≠ b9)); replace b1 := yaa (yai (upB b1.out) hb); have b3 := yaa b2.out.symm; clear hb hbox hg))
 (try simp only [Act.put, List.setIfInBounds_toArray, List.set_cons_zero, List.set_cons_succ])
 go_cut [21] (fun v21 wc => ∃ (kq : Nat) (c0 : Bool), v21 = .bool c0 ∧ Aside0 (impl_TenOk.j0 kq c0 l0_0 a0_1 a0_2 a0_3 a0_4 a0_5 a0_6 a1_0 a1_1 a1_2 a1_3 l1_4 l1_5 l1_6 l1_7 = some r) ∧ Aside0 (kq ≤ k) ∧ Aside0 (wc.heap[b8]? = some (.cells #[(.slice A0_0 l0_0.length c0_0), .int .i64 a0_1, .int .i64 a0_2, .int .i64 a0_3, .int .i64 a0_4, .int .i64 a0_5, .int .i64 a0_6] 24 (0, 0))) ∧ Aside0 (wc.heap[b9]? = some (.cells #[.int .i64 a1_0, .int .i64 a1_1, .int .i64 a1_2, .int .i64 a1_3, (.slice A1_4 l1_4.length c1_4), (.slice A1_5 l1_5.length c1_5), (.slice A1_6 l1_6.length c1_6), (.slice A1_7 l1_7.length c1_7)] 63 (0, 0))) ∧ Aside0 (Below w.heap.size w wc))
 case first =>
  have H := HC3.out; clear HC3; obtain ⟨p1, A6, H⟩ := bindA H; (try dsimp only at H)
  by_cases c7 : p1 = true
  ·
   subst c7
   rw [if_pos rfl] at H
   obtain ⟨p3, A8, H⟩ := bindA H; (try dsimp only at H)
   by_cases c9 : p3 = true
   ·
    subst c9
    rw [if_pos rfl] at H
    obtain ⟨l8, A10, H⟩ := bindA H; (try dsimp only at H); have H' := yaa H; clear H; have R8 := b2.out; have R9 := b3.out; obtain ⟨c4, c5, c8, d0, d1, d2, d3⟩ := cc7_ b1.out; obtain ⟨d4, d5, d6, d7, d8, d9, e0⟩ := cf7_ b1.out
    go_wp2_with (first | ((with_reducible refine gc_ 14 rfl ?_); refine gl_ (some 6) rfl Try.func14 #[.agg #[.slice A0_0 l0_0.length c0_0, .int .i64 a0_1, .int .i64 a0_2, .int .i64 a0_3, .int .i64 a0_4, .int .i64 a0_5, .int .i64 a0_6]] ?_; (with_reducible refine (impl_CfgOk.calls _ _ l0_0 a0_1 a0_2 a0_3 a0_4 a0_5 a0_6 true _ ?side1 ?side2 A6.out).mono ?_); (case side1 => repeat (first | exact (yab HR0_0.out HB.out) | (with_reducible refine yac ?_ _) | (with_reducible refine yad ?_ _) | (with_reducible refine yae ?_))); (case side2 => exact HC0_0.out); rintro e w13 ⟨rfl, hb⟩; refine ⟨_, rfl, ?_⟩; replace b1 := yaa (yai (upB b1.out) hb); replace b0 := yaa (yai (upB b0.out) hb); replace HB := yaa (yak (by repeat (with_reducible first | exact HB.out | apply yag | apply yaf | apply yah | refine yaj ?_ (Aside0.out ‹_›))) hb); (try clear hb); obtain ⟨e1, e2, e3, e4, e5, e6, e7, e8⟩ := cc8_ b0.out; obtain ⟨e9, f0, f1, f2, f3, f4, f5⟩ := cf7_ b0.out; have f6 := blk_frozen b0.out 7) | (go_at_call 62; (with_reducible refine (impl_within.calls a1_0 0 9999 true _ A8.out).mono ?_); rintro e w' ⟨rfl, ⟨nd, rfl⟩⟩; obtain ⟨f7, f8, f9, g0, g1, g2, g3⟩ := cc7_ b1.out; obtain ⟨g4, g5, g6, g7, g8, g9⟩ := cf6_ b1.out; have h0 := blk_frozen b1.out 6) | (go_at_call 62; (with_reducible refine (impl_within.calls a1_1 0 a0_1 l8 _ A10.out).mono ?_); rintro e w' ⟨rfl, ⟨nd, rfl⟩⟩))
    go_meet
    case rel => exact ⟨_, (!l8), (by first | rfl | (simp; done) | (simp [*]; done)), H', ⟨by first | omega | exact Nat.le_refl _⟩, ⟨by exact upB b1.out⟩, ⟨by exact upB b0.out⟩, ⟨by repeat (with_reducible first | exact HB.out | apply yag | apply yaf | apply yah | refine yaj ?_ (Aside0.out ‹_›))⟩⟩
   ·
    replace c9 := Bool.eq_false_iff.mpr c9
    subst c9
    rw [if_neg (show ¬ (false = true) by decide)] at H
    have H' := yaa H; clear H; have S0 := b2.out; have S1 := b3.out; obtain ⟨h1, h2, h3, h4, h5, h6, h7⟩ := cc7_ b1.out; obtain ⟨h8, h9, i0, i1, i2, i3, i4⟩ := cf7_ b1.out
    go_wp2_with (first | ((with_reducible refine gc_ 14 rfl ?_); refine gl_ (some 6) rfl Try.func14 #[.agg #[.slice A0_0 l0_0.length c0_0, .int .i64 a0_1, .int .i64 a0_2, .int .i64 a0_3, .int .i64 a0_4, .int .i64 a0_5, .int .i64 a0_6]] ?_; (with_reducible refine (impl_CfgOk.calls _ _ l0_0 a0_1 a0_2 a0_3 a0_4 a0_5 a0_6 true _ ?side1 ?side2 A6.out).mono ?_); (case side1 => repeat (first | exact (yab HR0_0.out HB.out) | (with_reducible refine yac ?_ _) | (with_reducible refine yad ?_ _) | (with_reducible refine yae ?_))); (case side2 => exact HC0_0.out); rintro e w18 ⟨rfl, hb⟩; refine ⟨_, rfl, ?_⟩; replace b1 := yaa (yai (upB b1.out) hb); replace b0 := yaa (yai (upB b0.out) hb); replace HB := yaa (yak (by repeat (with_reducible first | exact HB.out | apply yag | apply yaf | apply yah | refine yaj ?_ (Aside0.out ‹_›))) hb); (try clear hb); obtain ⟨i5, i6, i7, i8, i9, j2, j3, j4⟩ := cc8_ b0.out; obtain ⟨j5, j6, j7, j8, j9, k0, k1⟩ := cf7_ b0.out; have k2 := blk_frozen b0.out 7) | (go_at_call 62; (with_reducible refine (impl_within.calls a1_0 0 9999 false _ A8.out).mono ?_); rintro e w' ⟨rfl, ⟨nd, rfl⟩⟩))
    go_meet
    case rel => exact ⟨_, (true), (by first | rfl | (simp; done) | (simp [*]; done)), H', ⟨by first | omega | exact Nat.le_refl _⟩, ⟨by exact upB b1.out⟩, ⟨by exact upB b0.out⟩, ⟨by repeat (with_reducible first | exact HB.out | apply yag | apply yaf | apply yah | refine yaj ?_ (Aside0.out ‹_›))⟩⟩
  ·
   replace c7 := Bool.eq_false_iff.mpr c7
   subst c7
   rw [if_neg (show ¬ (false = true) by decide)] at H
   have H' := yaa H; clear H; have S2 := b2.out; have S3 := b3.out; obtain ⟨k3, k4, k5, k6, k7, k8, k9⟩ := cc7_ b1.out; obtain ⟨l0, l1, l2, l3, l4, l5, l6⟩ := cf7_ b1.out
   go_wp2_with (first | ((with_reducible refine gc_ 14 rfl ?_); refine gl_ (some 6) rfl Try.func14 #[.agg #[.slice A0_0 l0_0.length c0_0, .int .i64 a0_1, .int .i64 a0_2, .int .i64 a0_3, .int .i64 a0_4, .int .i64 a0_5, .int .i64 a0_6]] ?_; (with_reducible refine (impl_CfgOk.calls _ _ l0_0 a0_1 a0_2 a0_3 a0_4 a0_5 a0_6 false _ ?side1 ?side2 A6.out).mono ?_); (case side1 => repeat (first | exact (yab HR0_0.out HB.out) | (with_reducible refine yac ?_ _) | (with_reducible refine yad ?_ _) | (with_reducible refine yae ?_))); (case side2 => exact HC0_0.out); rintro e w22 ⟨rfl, hb⟩; refine ⟨_, rfl, ?_⟩; replace b1 := yaa (yai (upB b1.out) hb); replace b0 := yaa (yai (upB b0.out) hb); replace HB := yaa (yak (by repeat (with_reducible first | exact HB.out | apply yag | apply yaf | apply yah | refine yaj ?_ (Aside0.out ‹_›))) hb); (try clear hb)))
   go_meet
   case rel => exact ⟨_, (true), (by first | rfl | (simp; done) | (simp [*]; done)), H', ⟨by first | omega | exact Nat.le_refl _⟩, ⟨by exact upB b1.out⟩, ⟨by exact upB b0.out⟩, ⟨by repeat (with_reducible first | exact HB.out | apply yag | apply yaf | apply yah | refine yaj ?_ (Aside0.out ‹_›))⟩⟩
 case rest =>
  clear HC3; (try clear c1); (try clear c2); (try clear p2); (try clear c3); (try clear c7); (try clear c9); (try clear c11); (try clear c14); (try clear c16); (try clear c20); (try clear c4); (try clear c5); (try clear c8); (try clear d0); (try clear d1); (try clear d2); (try clear d3); (try clear e1); (try clear e2); (try clear e3); (try clear e4); (try clear e5); (try clear e6); (try clear e7); (try clear e8); (try clear f7); (try clear f8); (try clear f9); (try clear g0); (try clear g1); (try clear g2); (try clear g3); (try clear h1); (try clear h2); (try clear h3); (try clear h4); (try clear h5); (try clear h6); (try clear h7); (try clear i5); (try clear i6); (try clear i7); (try clear i8); (try clear i9); (try clear j2); (try clear j3); (try clear j4); (try clear k3); (try clear k4); (try clear k5); (try clear k6); (try clear k7); (try clear k8); (try clear k9); (try clear d4); (try clear d5); (try clear d6); (try clear d7); (try clear d8); (try clear d9); (try clear e0); (try clear e9); (try clear f0); (try clear f1); (try clear f2); (try clear f3); (try clear f4); (try clear f5); (try clear f6); (try clear g4); (try clear g5); (try clear g6); (try clear g7); (try clear g8); (try clear g9); (try clear h0); (try clear h8); (try clear h9); (try clear i0); (try clear i1); (try clear i2); (try clear i3); (try clear i4); (try clear j5); (try clear j6); (try clear j7); (try clear j8); (try clear j9); (try clear k0); (try clear k1); (try clear k2); (try clear l0); (try clear l1); (try clear l2); (try clear l3); (try clear l4); (try clear l5); (try clear l6); obtain ⟨kq, c0, rfl, HA, HJ2, b1, b0, HB⟩ := hcut
  cases kq with
  | zero => exact absurd HA.out (by simp [impl_TenOk.j0])
  | succ kj2 =>
   have H := HA.out; clear HA
   simp only [impl_TenOk.j0] at H
   by_cases c23 : c0 = true
   ·
    subst c23
    rw [if_pos rfl] at H
    obtain rfl := Option.some.inj H
    go_wp2
    go_ret
    exact ⟨by first | rfl | (simp [*, errW_none, errW_some] <;> rfl), by repeat (with_reducible first | exact HB.out | apply yag | apply yaf | apply yah | refine yaj ?_ (Aside0.out ‹_›))⟩
   ·
    replace c23 := Bool.eq_false_iff.mpr c23
    subst c23
    rw [if_neg (show ¬ (false = true) by decide)] at H
    have HC24 := yaa H; clear H
    go_upto_region 3 with (fail)
    go_cut [33] (fun v33 wc => ∃ (kq : Nat) (b7 : Bool), v33 = .bool b7 ∧ Aside0 (impl_TenOk.j1 kq b7 l0_0 a0_1 a0_2 a0_3 a0_4 a0_5 a0_6 a1_0 a1_1 a1_2 a1_3 l1_4 l1_5 l1_6 l1_7 = some r) ∧ Aside0 (kq ≤ kj2) ∧ Aside0 (wc.heap[b8]? = some (.cells #[(.slice A0_0 l0_0.length c0_0), .int .i64 a0_1, .int .i64 a0_2, .int .i64 a0_3, .int .i64 a0_4, .int .i64 a0_5, .int .i64 a0_6] 24 (0, 0))) ∧ Aside0 (wc.heap[b9]? = some (.cells #[.int .i64 a1_0, .int .i64 a1_1, .int .i64 a1_2, .int .i64 a1_3, (.slice A1_4 l1_4.length c1_4), (.slice A1_5 l1_5.length c1_5), (.slice A1_6 l1_6.length c1_6), (.slice A1_7 l1_7.length c1_7)] 63 (0, 0))) ∧ Aside0 (Below w.heap.size w wc))
    case first =>
     have H := HC24.out; clear HC24; obtain ⟨R1, A25, H⟩ := bindA H; (try dsimp only at H)
     by_cases c26 : R1 = true
     ·
      subst c26
      rw [if_pos rfl] at H
      obtain ⟨p6, A27, H⟩ := bindA H; (try dsimp only at H); have H' := yaa H; clear H; have S4 := b3.out; have S5 := b2.out; obtain ⟨l9, m0, m1, m2, m3, m4, m5, m6⟩ := cc8_ b0.out; obtain ⟨m7, m8, m9, n0, n1, n2, n3, n4⟩ := cf8_ b0.out
      go_wp2_with (first | ((with_reducible refine gc_ 62 rfl ?_); refine gl_ (some 26) rfl Try.func62 #[.int .i64 a1_2, .int .i64 0, .int .i64 a1_0] ?_; (with_reducible refine (impl_within.calls a1_2 0 a1_0 true _ A25.out).mono ?_); rintro e w' ⟨rfl, ⟨nd, rfl⟩⟩; refine ⟨_, rfl, ?_⟩) | (go_at_call 62; (with_reducible refine (impl_within.calls a1_3 0 9999 p6 _ A27.out).mono ?_); rintro e w' ⟨rfl, ⟨nd, rfl⟩⟩))
      go_meet
      case rel => exact ⟨_, (!p6), (by first | rfl | (simp; done) | (simp [*]; done)), H', ⟨by have := HJ2.out; first | omega | exact Nat.le_refl _⟩, ⟨by exact upB b1.out⟩, ⟨by exact upB b0.out⟩, ⟨by repeat (with_reducible first | exact HB.out | apply yag | apply yaf | apply yah | refine yaj ?_ (Aside0.out ‹_›))⟩⟩
     ·
      replace c26 := Bool.eq_false_iff.mpr c26
      subst c26
      rw [if_neg (show ¬ (false = true) by decide)] at H
      have H' := yaa H; clear H; have S6 := b3.out; have S7 := b2.out; obtain ⟨n5, n6, n7, n8, n9, o0, o1, o2⟩ := cc8_ b0.out; obtain ⟨o3, o4, o5, o6, o7, o8, o9, p0⟩ := cf8_ b0.out
      go_wp2_with (first | ((with_reducible refine gc_ 62 rfl ?_); refine gl_ (some 26) rfl Try.func62 #[.int .i64 a1_2, .int .i64 0, .int .i64 a1_0] ?_; (with_reducible refine (impl_within.calls a1_2 0 a1_0 false _ A25.out).mono ?_); rintro e w' ⟨rfl, ⟨nd, rfl⟩⟩; refine ⟨_, rfl, ?_⟩))
      go_meet
      case rel => exact ⟨_, (true), (by first | rfl | (simp; done) | (simp [*]; done)), H', ⟨by have := HJ2.out; first | omega | exact Nat.le_refl _⟩, ⟨by exact upB b1.out⟩, ⟨by exact upB b0.out⟩, ⟨by repeat (with_reducible first | exact HB.out | apply yag | apply yaf | apply yah | refine yaj ?_ (Aside0.out ‹_›))⟩⟩
    case rest =>
     clear HC24; (try clear c1); (try clear c2); (try clear p2); (try clear c3); (try clear c6); (try clear c7); (try clear c9); (try clear c11); (try clear c14); (try clear c16); (try clear c20); (try clear c23); (try clear c26); (try clear c28); (try clear c30); (try clear c4); (try clear c5); (try clear c8); (try clear d0); (try clear d1); (try clear d2); (try clear d3); (try clear e1); (try clear e2); (try clear e3); (try clear e4); (try clear e5); (try clear e6); (try clear e7); (try clear e8); (try clear f7); (try clear f8); (try clear f9); (try clear g0); (try clear g1); (try clear g2); (try clear g3); (try clear h1); (try clear h2); (try clear h3); (try clear h4); (try clear h5); (try clear h6); (try clear h7); (try clear i5); (try clear i6); (try clear i7); (try clear i8); (try clear i9); (try clear j2); (try clear j3); (try clear j4); (try clear k3); (try clear k4); (try clear k5); (try clear k6); (try clear k7); (try clear k8); (try clear k9); (try clear l9); (try clear m0); (try clear m1); (try clear m2); (try clear m3); (try clear m4); (try clear m5); (try clear m6); (try clear n5); (try clear n6); (try clear n7); (try clear n8); (try clear n9); (try clear o0); (try clear o1); (try clear o2); (try clear d4); (try clear d5); (try clear d6); (try clear d7); (try clear d8); (try clear d9); (try clear e0); (try clear e9); (try clear f0); (try clear f1); (try clear f2); (try clear f3); (try clear f4); (try clear f5); (try clear f6); (try clear g4); (try clear g5); (try clear g6); (try clear g7); (try clear g8); (try clear g9); (try clear h0); (try clear h8); (try clear h9); (try clear i0); (try clear i1); (try clear i2); (try clear i3); (try clear i4); (try clear j5); (try clear j6); (try clear j7); (try clear j8); (try clear j9); (try clear k0); (try clear k1); (try clear k2); (try clear l0); (try clear l1); (try clear l2); (try clear l3); (try clear l4); (try clear l5); (try clear l6); (try clear m7); (try clear m8); (try clear m9); (try clear n0); (try clear n1); (try clear n2); (try clear n3); (try clear n4); (try clear o3); (try clear o4); (try clear o5); (try clear o6); (try clear o7); (try clear o8); (try clear o9); (try clear p0); (try clear p2); obtain ⟨kq, b7, rfl, HA, HJ23, b1, b0, HB⟩ := hcut
     cases kq with
     | zero => exact absurd HA.out (by simp [impl_TenOk.j1])
     | succ kj23 =>
      have H := HA.out; clear HA
      simp only [impl_TenOk.j1] at H
      by_cases c32 : b7 = true
      ·
       subst c32
       rw [if_pos rfl] at H
       obtain rfl := Option.some.inj H
       go_wp2
       go_ret
       exact ⟨by first | rfl | (simp [*, errW_none, errW_some] <;> rfl), by repeat (with_reducible first | exact HB.out | apply yag | apply yaf | apply yah | refine yaj ?_ (Aside0.out ‹_›))⟩
      ·
       replace c32 := Bool.eq_false_iff.mpr c32
       subst c32
       rw [if_neg (show ¬ (false = true) by decide)] at H
       obtain ⟨R2, A33, H⟩ := bindA H; (try dsimp only at H)
       by_cases c34 : R2 = true
       ·
        subst c34
        rw [if_pos rfl] at H
        obtain ⟨R3, A35, H⟩ := bindA H; (try dsimp only at H)
        by_cases c36 : R3 = true
        ·
         subst c36
         rw [if_pos rfl] at H
         obtain ⟨R4, A37, H⟩ := bindA H; (try dsimp only at H)
         by_cases c38 : R4 = true
         ·
          subst c38
          rw [if_pos rfl] at H
          obtain ⟨R5, A39, H⟩ := bindA H; (try dsimp only at H); obtain rfl := Option.some.inj H; have S8 := b2.out; have S9 := b3.out; obtain ⟨p7, p8, p9, q0, q1, q2, q3⟩ := cc7_ b1.out; obtain ⟨q4, q5, q6, q7, q8, q9, r0⟩ := cf7_ b1.out; obtain ⟨r1, r2, r3, r4, r5, r6, r7, r8⟩ := cc8_ b0.out; obtain ⟨r9, s0, s1, s2, s3, s4, s5, s6⟩ := cf8_ b0.out
          go_wp2_with (first | ((with_reducible refine gc_ 88 rfl ?_); refine gl_ (some 36) rfl Try.func88 #[.agg #[.slice A0_0 l0_0.length c0_0, .int .i64 a0_1, .int .i64 a0_2, .int .i64 a0_3, .int .i64 a0_4, .int .i64 a0_5, .int .i64 a0_6], .agg #[.int .i64 a1_0, .int .i64 a1_1, .int .i64 a1_2, .int .i64 a1_3, .slice A1_4 l1_4.length c1_4, .slice A1_5 l1_5.length c1_5, .slice A1_6 l1_6.length c1_6, .slice A1_7 l1_7.length c1_7]] ?_; (with_reducible refine (impl_jobsOk.calls kj23 _ _ l0_0 a0_1 a0_2 a0_3 a0_4 a0_5 a0_6 a1_0 a1_1 a1_2 a1_3 _ _ l1_4 _ _ l1_5 _ _ l1_6 _ _ l1_7 true _ ?side1 ?side2 ?side3 ?side4 ?side5 ?side6 ?side7 ?side8 ?side9 ?side10 A33.out).mono ?_); (case side1 => repeat (first | exact (yab HR0_0.out HB.out) | (with_reducible refine yac ?_ _) | (with_reducible refine yad ?_ _) | (with_reducible refine yae ?_))); (case side2 => exact HC0_0.out); (case side3 => repeat (first | exact (yab HR1_4.out HB.out) | (with_reducible refine yac ?_ _) | (with_reducible refine yad ?_ _) | (with_reducible refine yae ?_))); (case side4 => exact HC1_4.out); (case side5 => repeat (first | exact (yab HR1_5.out HB.out) | (with_reducible refine yac ?_ _) | (with_reducible refine yad ?_ _) | (with_reducible refine yae ?_))); (case side6 => exact HC1_5.out); (case side7 => repeat (first | exact (yab HR1_6.out HB.out) | (with_reducible refine yac ?_ _) | (with_reducible refine yad ?_ _) | (with_reducible refine yae ?_))); (case side8 => exact HC1_6.out); (case side9 => repeat (first | exact (yab HR1_7.out HB.out) | (with_reducible refine yac ?_ _) | (with_reducible refine yad ?_ _) | (with_reducible refine yae ?_))); (case side10 => exact HC1_7.out); rintro e w43 ⟨rfl, hb⟩; refine ⟨_, rfl, ?_⟩; replace b1 := yaa (yai (upB b1.out) hb); replace b0 := yaa (yai (upB b0.out) hb); replace HB := yaa (yak (by repeat (with_reducible first | exact HB.out | apply yag | apply yaf | apply yah | refine yaj ?_ (Aside0.out ‹_›))) hb); (try clear hb); obtain ⟨s7, s8, s9, t0, t1, t2, t3⟩ := cc7_ b1.out; obtain ⟨t4, t5, t6, t7, t8, t9, u0⟩ := cf7_ b1.out; obtain ⟨u1, u2, u3, u4, u5, u6, u7, u9⟩ := cc8_ b0.out; obtain ⟨v0, v1, v2, v3, v4, v5, v6⟩ := cf7_ b0.out; have v7 := blk_frozen b0.out 7) | (go_at_call 89; (with_reducible refine (impl_filesOk.calls kj23 _ _ l0_0 a0_1 a0_2 a0_3 a0_4 a0_5 a0_6 a1_0 a1_1 a1_2 a1_3 _ _ l1_4 _ _ l1_5 _ _ l1_6 _ _ l1_7 true _ ?side1 ?side2 ?side3 ?side4 ?side5 ?side6 ?side7 ?side8 ?side9 ?side10 A35.out).mono ?_); (case side1 => repeat (first | exact (yab HR0_0.out HB.out) | (with_reducible refine yac ?_ _) | (with_reducible refine yad ?_ _) | (with_reducible refine yae ?_))); (case side2 => exact HC0_0.out); (case side3 => repeat (first | exact (yab HR1_4.out HB.out) | (with_reducible refine yac ?_ _) | (with_reducible refine yad ?_ _) | (with_reducible refine yae ?_))); (case side4 => exact HC1_4.out); (case side5 => repeat (first | exact (yab HR1_5.out HB.out) | (with_reducible refine yac ?_ _) | (with_reducible refine yad ?_ _) | (with_reducible refine yae ?_))); (case side6 => exact HC1_5.out); (case side7 => repeat (first | exact (yab HR1_6.out HB.out) | (with_reducible refine yac ?_ _) | (with_reducible refine yad ?_ _) | (with_reducible refine yae ?_))); (case side8 => exact HC1_6.out); (case side9 => repeat (first | exact (yab HR1_7.out HB.out) | (with_reducible refine yac ?_ _) | (with_reducible refine yad ?_ _) | (with_reducible refine yae ?_))); (case side10 => exact HC1_7.out); rintro e w46 ⟨rfl, hb⟩; replace b1 := yaa (yai (upB b1.out) hb); replace b0 := yaa (yai (upB b0.out) hb); replace HB := yaa (yak (by repeat (with_reducible first | exact HB.out | apply yag | apply yaf | apply yah | refine yaj ?_ (Aside0.out ‹_›))) hb); (try clear hb); obtain ⟨v8, v9, w0, w1, w2, w3, w6, w7⟩ := cc8_ b0.out; obtain ⟨w8, w9, x0, x1, x2, x3, x4⟩ := cf7_ b0.out; have x5 := blk_frozen b0.out 7) | (go_at_call 90; (with_reducible refine (impl_askedOk.calls kj23 a1_0 a1_1 a1_2 a1_3 _ _ l1_4 _ _ l1_5 _ _ l1_6 _ _ l1_7 true _ ?side1 ?side2 ?side3 ?side4 ?side5 ?side6 ?side7 ?side8 A37.out).mono ?_); (case side1 => repeat (first | exact (yab HR1_4.out HB.out) | (with_reducible refine yac ?_ _) | (with_reducible refine yad ?_ _) | (with_reducible refine yae ?_))); (case side2 => exact HC1_4.out); (case side3 => repeat (first | exact (yab HR1_5.out HB.out) | (with_reducible refine yac ?_ _) | (with_reducible refine yad ?_ _) | (with_reducible refine yae ?_))); (case side4 => exact HC1_5.out); (case side5 => repeat (first | exact (yab HR1_6.out HB.out) | (with_reducible refine yac ?_ _) | (with_reducible refine yad ?_ _) | (with_reducible refine yae ?_))); (case side6 => exact HC1_6.out); (case side7 => repeat (first | exact (yab HR1_7.out HB.out) | (with_reducible refine yac ?_ _) | (with_reducible refine yad ?_ _) | (with_reducible refine yae ?_))); (case side8 => exact HC1_7.out); rintro e w48 ⟨rfl, hb⟩; replace b1 := yaa (yai (upB b1.out) hb); replace b0 := yaa (yai (upB b0.out) hb); replace HB := yaa (yak (by repeat (with_reducible first | exact HB.out | apply yag | apply yaf | apply yah | refine yaj ?_ (Aside0.out ‹_›))) hb); (try clear hb); obtain ⟨x6, x7, x8, x9, z0, z1, z2, z3⟩ := cc8_ b0.out; obtain ⟨z4, z5, z6, z7, z8, z9, A0⟩ := cf7_ b0.out; have A1 := blk_frozen b0.out 7) | (go_at_call 91; (with_reducible refine (impl_outsOk.calls kj23 a1_0 a1_1 a1_2 a1_3 _ _ l1_4 _ _ l1_5 _ _ l1_6 _ _ l1_7 R5 _ ?side1 ?side2 ?side3 ?side4 ?side5 ?side6 ?side7 ?side8 A39.out).mono ?_); (case side1 => repeat (first | exact (yab HR1_4.out HB.out) | (with_reducible refine yac ?_ _) | (with_reducible refine yad ?_ _) | (with_reducible refine yae ?_))); (case side2 => exact HC1_4.out); (case side3 => repeat (first | exact (yab HR1_5.out HB.out) | (with_reducible refine yac ?_ _) | (with_reducible refine yad ?_ _) | (with_reducible refine yae ?_))); (case side4 => exact HC1_5.out); (case side5 => repeat (first | exact (yab HR1_6.out HB.out) | (with_reducible refine yac ?_ _) | (with_reducible refine yad ?_ _) | (with_reducible refine yae ?_))); (case side6 => exact HC1_6.out); (case side7 => repeat (first | exact (yab HR1_7.out HB.out) | (with_reducible refine yac ?_ _) | (with_reducible refine yad ?_ _) | (with_reducible refine yae ?_))); (case side8 => exact HC1_7.out); rintro e w50 ⟨rfl, hb⟩; replace b1 := yaa (yai (upB b1.out) hb); replace b0 := yaa (yai (upB b0.out) hb); replace HB := yaa (yak (by repeat (with_reducible first | exact HB.out | apply yag | apply yaf | apply yah | refine yaj ?_ (Aside0.out ‹_›))) hb); (try clear hb)))
          go_ret
          exact ⟨by first | rfl | (simp [*, errW_none, errW_some] <;> rfl), by repeat (with_reducible first | exact HB.out | apply yag | apply yaf | apply yah | refine yaj ?_ (Aside0.out ‹_›))⟩
         ·
          replace c38 := Bool.eq_false_iff.mpr c38
          subst c38
          rw [if_neg (show ¬ (false = true) by decide)] at H
          obtain rfl := Option.some.inj H; have T0 := b2.out; have T1 := b3.out; obtain ⟨A2, A3, A4, A5, A7, A9, B0⟩ := cc7_ b1.out; obtain ⟨B1, B2, B3, B4, B5, B6, B7⟩ := cf7_ b1.out; obtain ⟨B8, B9, C0, C1, C2, C3, C4, C5⟩ := cc8_ b0.out; obtain ⟨C6, C7, C8, C9, D0, D1, D2, D3⟩ := cf8_ b0.out
          go_wp2_with (first | ((with_reducible refine gc_ 88 rfl ?_); refine gl_ (some 36) rfl Try.func88 #[.agg #[.slice A0_0 l0_0.length c0_0, .int .i64 a0_1, .int .i64 a0_2, .int .i64 a0_3, .int .i64 a0_4, .int .i64 a0_5, .int .i64 a0_6], .agg #[.int .i64 a1_0, .int .i64 a1_1, .int .i64 a1_2, .int .i64 a1_3, .slice A1_4 l1_4.length c1_4, .slice A1_5 l1_5.length c1_5, .slice A1_6 l1_6.length c1_6, .slice A1_7 l1_7.length c1_7]] ?_; (with_reducible refine (impl_jobsOk.calls kj23 _ _ l0_0 a0_1 a0_2 a0_3 a0_4 a0_5 a0_6 a1_0 a1_1 a1_2 a1_3 _ _ l1_4 _ _ l1_5 _ _ l1_6 _ _ l1_7 true _ ?side1 ?side2 ?side3 ?side4 ?side5 ?side6 ?side7 ?side8 ?side9 ?side10 A33.out).mono ?_); (case side1 => repeat (first | exact (yab HR0_0.out HB.out) | (with_reducible refine yac ?_ _) | (with_reducible refine yad ?_ _) | (with_reducible refine yae ?_))); (case side2 => exact HC0_0.out); (case side3 => repeat (first | exact (yab HR1_4.out HB.out) | (with_reducible refine yac ?_ _) | (with_reducible refine yad ?_ _) | (with_reducible refine yae ?_))); (case side4 => exact HC1_4.out); (case side5 => repeat (first | exact (yab HR1_5.out HB.out) | (with_reducible refine yac ?_ _) | (with_reducible refine yad ?_ _) | (with_reducible refine yae ?_))); (case side6 => exact HC1_5.out); (case side7 => repeat (first | exact (yab HR1_6.out HB.out) | (with_reducible refine yac ?_ _) | (with_reducible refine yad ?_ _) | (with_reducible refine yae ?_))); (case side8 => exact HC1_6.out); (case side9 => repeat (first | exact (yab HR1_7.out HB.out) | (with_reducible refine yac ?_ _) | (with_reducible refine yad ?_ _) | (with_reducible refine yae ?_))); (case side10 => exact HC1_7.out); rintro e w54 ⟨rfl, hb⟩; refine ⟨_, rfl, ?_⟩; replace b1 := yaa (yai (upB b1.out) hb); replace b0 := yaa (yai (upB b0.out) hb); replace HB := yaa (yak (by repeat (with_reducible first | exact HB.out | apply yag | apply yaf | apply yah | refine yaj ?_ (Aside0.out ‹_›))) hb); (try clear hb); obtain ⟨D4, D5, D6, D7, D8, D9, E0⟩ := cc7_ b1.out; obtain ⟨E1, E2, E3, E4, E5, E6, E7⟩ := cf7_ b1.out; obtain ⟨E8, E9, F0, F1, F2, F3, F4, F5⟩ := cc8_ b0.out; obtain ⟨F6, F7, F8, F9, G0, G1, G2⟩ := cf7_ b0.out; have G3 := blk_frozen b0.out 7) | (go_at_call 89; (with_reducible refine (impl_filesOk.calls kj23 _ _ l0_0 a0_1 a0_2 a0_3 a0_4 a0_5 a0_6 a1_0 a1_1 a1_2 a1_3 _ _ l1_4 _ _ l1_5 _ _ l1_6 _ _ l1_7 true _ ?side1 ?side2 ?side3 ?side4 ?side5 ?side6 ?side7 ?side8 ?side9 ?side10 A35.out).mono ?_); (case side1 => repeat (first | exact (yab HR0_0.out HB.out) | (with_reducible refine yac ?_ _) | (with_reducible refine yad ?_ _) | (with_reducible refine yae ?_))); (case side2 => exact HC0_0.out); (case side3 => repeat (first | exact (yab HR1_4.out HB.out) | (with_reducible refine yac ?_ _) | (with_reducible refine yad ?_ _) | (with_reducible refine yae ?_))); (case side4 => exact HC1_4.out); (case side5 => repeat (first | exact (yab HR1_5.out HB.out) | (with_reducible refine yac ?_ _) | (with_reducible refine yad ?_ _) | (with_reducible refine yae ?_))); (case side6 => exact HC1_5.out); (case side7 => repeat (first | exact (yab HR1_6.out HB.out) | (with_reducible refine yac ?_ _) | (with_reducible refine yad ?_ _) | (with_reducible refine yae ?_))); (case side8 => exact HC1_6.out); (case side9 => repeat (first | exact (yab HR1_7.out HB.out) | (with_reducible refine yac ?_ _) | (with_reducible refine yad ?_ _) | (with_reducible refine yae ?_))); (case side10 => exact HC1_7.out); rintro e w57 ⟨rfl, hb⟩; replace b1 := yaa (yai (upB b1.out) hb); replace b0 := yaa (yai (upB b0.out) hb); replace HB := yaa (yak (by repeat (with_reducible first | exact HB.out | apply yag | apply yaf | apply yah | refine yaj ?_ (Aside0.out ‹_›))) hb); (try clear hb); obtain ⟨G4, G5, G6, G7, G8, G9, H0, H1⟩ := cc8_ b0.out; obtain ⟨H2, H3, H4, H5, H6, H7, H8⟩ := cf7_ b0.out; have H9 := blk_frozen b0.out 7) | (go_at_call 90; (with_reducible refine (impl_askedOk.calls kj23 a1_0 a1_1 a1_2 a1_3 _ _ l1_4 _ _ l1_5 _ _ l1_6 _ _ l1_7 false _ ?side1 ?side2 ?side3 ?side4 ?side5 ?side6 ?side7 ?side8 A37.out).mono ?_); (case side1 => repeat (first | exact (yab HR1_4.out HB.out) | (with_reducible refine yac ?_ _) | (with_reducible refine yad ?_ _) | (with_reducible refine yae ?_))); (case side2 => exact HC1_4.out); (case side3 => repeat (first | exact (yab HR1_5.out HB.out) | (with_reducible refine yac ?_ _) | (with_reducible refine yad ?_ _) | (with_reducible refine yae ?_))); (case side4 => exact HC1_5.out); (case side5 => repeat (first | exact (yab HR1_6.out HB.out) | (with_reducible refine yac ?_ _) | (with_reducible refine yad ?_ _) | (with_reducible refine yae ?_))); (case side6 => exact HC1_6.out); (case side7 => repeat (first | exact (yab HR1_7.out HB.out) | (with_reducible refine yac ?_ _) | (with_reducible refine yad ?_ _) | (with_reducible refine yae ?_))); (case side8 => exact HC1_7.out); rintro e w59 ⟨rfl, hb⟩; replace b1 := yaa (yai (upB b1.out) hb); replace b0 := yaa (yai (upB b0.out) hb); replace HB := yaa (yak (by repeat (with_reducible first | exact HB.out | apply yag | apply yaf | apply yah | refine yaj ?_ (Aside0.out ‹_›))) hb); (try clear hb)))
          go_ret
          exact ⟨by first | rfl | (simp [*, errW_none, errW_some] <;> rfl), by repeat (with_reducible first | exact HB.out | apply yag | apply yaf | apply yah | refine yaj ?_ (Aside0.out ‹_›))⟩
        ·
         replace c36 := Bool.eq_false_iff.mpr c36
         subst c36
         rw [if_neg (show ¬ (false = true) by decide)] at H
         obtain rfl := Option.some.inj H; have T2 := b2.out; have T3 := b3.out; obtain ⟨I0, I1, I2, I3, I4, I5, I6⟩ := cc7_ b1.out; obtain ⟨I7, I8, I9, J0, J1, J2, J3⟩ := cf7_ b1.out; obtain ⟨J4, J5, J6, J7, J8, J9, K0, K1⟩ := cc8_ b0.out; obtain ⟨K2, K3, K4, K5, K6, K7, K8, K9⟩ := cf8_ b0.out
         go_wp2_with (first | ((with_reducible refine gc_ 88 rfl ?_); refine gl_ (some 36) rfl Try.func88 #[.agg #[.slice A0_0 l0_0.length c0_0, .int .i64 a0_1, .int .i64 a0_2, .int .i64 a0_3, .int .i64 a0_4, .int .i64 a0_5, .int .i64 a0_6], .agg #[.int .i64 a1_0, .int .i64 a1_1, .int .i64 a1_2, .int .i64 a1_3, .slice A1_4 l1_4.length c1_4, .slice A1_5 l1_5.length c1_5, .slice A1_6 l1_6.length c1_6, .slice A1_7 l1_7.length c1_7]] ?_; (with_reducible refine (impl_jobsOk.calls kj23 _ _ l0_0 a0_1 a0_2 a0_3 a0_4 a0_5 a0_6 a1_0 a1_1 a1_2 a1_3 _ _ l1_4 _ _ l1_5 _ _ l1_6 _ _ l1_7 true _ ?side1 ?side2 ?side3 ?side4 ?side5 ?side6 ?side7 ?side8 ?side9 ?side10 A33.out).mono ?_); (case side1 => repeat (first | exact (yab HR0_0.out HB.out) | (with_reducible refine yac ?_ _) | (with_reducible refine yad ?_ _) | (with_reducible refine yae ?_))); (case side2 => exact HC0_0.out); (case side3 => repeat (first | exact (yab HR1_4.out HB.out) | (with_reducible refine yac ?_ _) | (with_reducible refine yad ?_ _) | (with_reducible refine yae ?_))); (case side4 => exact HC1_4.out); (case side5 => repeat (first | exact (yab HR1_5.out HB.out) | (with_reducible refine yac ?_ _) | (with_reducible refine yad ?_ _) | (with_reducible refine yae ?_))); (case side6 => exact HC1_5.out); (case side7 => repeat (first | exact (yab HR1_6.out HB.out) | (with_reducible refine yac ?_ _) | (with_reducible refine yad ?_ _) | (with_reducible refine yae ?_))); (case side8 => exact HC1_6.out); (case side9 => repeat (first | exact (yab HR1_7.out HB.out) | (with_reducible refine yac ?_ _) | (with_reducible refine yad ?_ _) | (with_reducible refine yae ?_))); (case side10 => exact HC1_7.out); rintro e w63 ⟨rfl, hb⟩; refine ⟨_, rfl, ?_⟩; replace b1 := yaa (yai (upB b1.out) hb); replace b0 := yaa (yai (upB b0.out) hb); replace HB := yaa (yak (by repeat (with_reducible first | exact HB.out | apply yag | apply yaf | apply yah | refine yaj ?_ (Aside0.out ‹_›))) hb); (try clear hb); obtain ⟨L0, L1, L2, L3, L4, L5, L6⟩ := cc7_ b1.out; obtain ⟨L7, L8, L9, M0, M1, M2, M3⟩ := cf7_ b1.out; obtain ⟨M4, M5, M6, M7, M8, M9, N0, N1⟩ := cc8_ b0.out; obtain ⟨N2, N3, N4, N5, N6, N7, N8⟩ := cf7_ b0.out; have N9 := blk_frozen b0.out 7) | (go_at_call 89; (with_reducible refine (impl_filesOk.calls kj23 _ _ l0_0 a0_1 a0_2 a0_3 a0_4 a0_5 a0_6 a1_0 a1_1 a1_2 a1_3 _ _ l1_4 _ _ l1_5 _ _ l1_6 _ _ l1_7 false _ ?side1 ?side2 ?side3 ?side4 ?side5 ?side6 ?side7 ?side8 ?side9 ?side10 A35.out).mono ?_); (case side1 => repeat (first | exact (yab HR0_0.out HB.out) | (with_reducible refine yac ?_ _) | (with_reducible refine yad ?_ _) | (with_reducible refine yae ?_))); (case side2 => exact HC0_0.out); (case side3 => repeat (first | exact (yab HR1_4.out HB.out) | (with_reducible refine yac ?_ _) | (with_reducible refine yad ?_ _) | (with_reducible refine yae ?_))); (case side4 => exact HC1_4.out); (case side5 => repeat (first | exact (yab HR1_5.out HB.out) | (with_reducible refine yac ?_ _) | (with_reducible refine yad ?_ _) | (with_reducible refine yae ?_))); (case side6 => exact HC1_5.out); (case side7 => repeat (first | exact (yab HR1_6.out HB.out) | (with_reducible refine yac ?_ _) | (with_reducible refine yad ?_ _) | (with_reducible refine yae ?_))); (case side8 => exact HC1_6.out); (case side9 => repeat (first | exact (yab HR1_7.out HB.out) | (with_reducible refine yac ?_ _) | (with_reducible refine yad ?_ _) | (with_reducible refine yae ?_))); (case side10 => exact HC1_7.out); rintro e w66 ⟨rfl, hb⟩; replace b1 := yaa (yai (upB b1.out) hb); replace b0 := yaa (yai (upB b0.out) hb); replace HB := yaa (yak (by repeat (with_reducible first | exact HB.out | apply yag | apply yaf | apply yah | refine yaj ?_ (Aside0.out ‹_›))) hb); (try clear hb)))
         go_ret
         exact ⟨by first | rfl | (simp [*, errW_none, errW_some] <;> rfl), by repeat (with_reducible first | exact HB.out | apply yag | apply yaf | apply yah | refine yaj ?_ (Aside0.out ‹_›))⟩
       ·
        replace c34 := Bool.eq_false_iff.mpr c34
        subst c34
        rw [if_neg (show ¬ (false = true) by decide)] at H
        obtain rfl := Option.some.inj H; have T4 := b2.out; have T5 := b3.out; obtain ⟨O0, O1, O2, O3, O4, O5, O6⟩ := cc7_ b1.out; obtain ⟨O7, O8, O9, P0, P1, P2, P3⟩ := cf7_ b1.out; obtain ⟨P4, P5, P6, P7, P8, P9, Q0, Q1⟩ := cc8_ b0.out; obtain ⟨Q3, Q4, Q5, Q6, Q7, Q8, Q9, R0⟩ := cf8_ b0.out
        go_wp2_with (first | ((with_reducible refine gc_ 88 rfl ?_); refine gl_ (some 36) rfl Try.func88 #[.agg #[.slice A0_0 l0_0.length c0_0, .int .i64 a0_1, .int .i64 a0_2, .int .i64 a0_3, .int .i64 a0_4, .int .i64 a0_5, .int .i64 a0_6], .agg #[.int .i64 a1_0, .int .i64 a1_1, .int .i64 a1_2, .int .i64 a1_3, .slice A1_4 l1_4.length c1_4, .slice A1_5 l1_5.length c1_5, .slice A1_6 l1_6.length c1_6, .slice A1_7 l1_7.length c1_7]] ?_; (with_reducible refine (impl_jobsOk.calls kj23 _ _ l0_0 a0_1 a0_2 a0_3 a0_4 a0_5 a0_6 a1_0 a1_1 a1_2 a1_3 _ _ l1_4 _ _ l1_5 _ _ l1_6 _ _ l1_7 false _ ?side1 ?side2 ?side3 ?side4 ?side5 ?side6 ?side7 ?side8 ?side9 ?side10 A33.out).mono ?_); (case side1 => repeat (first | exact (yab HR0_0.out HB.out) | (with_reducible refine yac ?_ _) | (with_reducible refine yad ?_ _) | (with_reducible refine yae ?_))); (case side2 => exact HC0_0.out); (case side3 => repeat (first | exact (yab HR1_4.out HB.out) | (with_reducible refine yac ?_ _) | (with_reducible refine yad ?_ _) | (with_reducible refine yae ?_))); (case side4 => exact HC1_4.out); (case side5 => repeat (first | exact (yab HR1_5.out HB.out) | (with_reducible refine yac ?_ _) | (with_reducible refine yad ?_ _) | (with_reducible refine yae ?_))); (case side6 => exact HC1_5.out); (case side7 => repeat (first | exact (yab HR1_6.out HB.out) | (with_reducible refine yac ?_ _) | (with_reducible refine yad ?_ _) | (with_reducible refine yae ?_))); (case side8 => exact HC1_6.out); (case side9 => repeat (first | exact (yab HR1_7.out HB.out) | (with_reducible refine yac ?_ _) | (with_reducible refine yad ?_ _) | (with_reducible refine yae ?_))); (case side10 => exact HC1_7.out); rintro e w70 ⟨rfl, hb⟩; refine ⟨_, rfl, ?_⟩; replace b1 := yaa (yai (upB b1.out) hb); replace b0 := yaa (yai (upB b0.out) hb); replace HB := yaa (yak (by repeat (with_reducible first | exact HB.out | apply yag | apply yaf | apply yah | refine yaj ?_ (Aside0.out ‹_›))) hb); (try clear hb)))
        go_ret
        exact ⟨by first | rfl | (simp [*, errW_none, errW_some] <;> rfl), by repeat (with_reducible first | exact HB.out | apply yag | apply yaf | apply yah | refine yaj ?_ (Aside0.out ‹_›))⟩
end
section
open Go.Proofs.YtgpkkkmapgnhkaaW.PrintWords.Aside0 renaming mk → yaa
open Go.Proofs.YtgpkkkmapgnhkaaW.PrintWords renaming pw_below_drewN → yab, below_alloc → yac, below_drew1 → yad, below_set → yae

def laws_eqOpOp.f (a0_0 : Int) (a0_1 : Int) (a0_2 : Int) (a0_3 : Int) (a0_4 : Int) (a1_0 : Int) (a1_1 : Int) (a1_2 : Int) (a1_3 : Int) (a1_4 : Int) : Option (Bool) := if a0_0 = a1_0 then (if a0_1 = a1_1 then (if a0_2 = a1_2 then (if a0_3 = a1_3 then (if a0_4 = a1_4 then (some true) else (some false)) else (some false)) else (some false)) else (some false)) else (some false)
set_option maxHeartbeats 8000000 in
set_option maxRecDepth 100000 in
theorem laws_eqOpOp.calls (a0_0 : Int) (a0_1 : Int) (a0_2 : Int) (a0_3 : Int) (a0_4 : Int) (a1_0 : Int) (a1_1 : Int) (a1_2 : Int) (a1_3 : Int) (a1_4 : Int) (r : Bool) (w : World) (h : laws_eqOpOp.f a0_0 a0_1 a0_2 a0_3 a0_4 a1_0 a1_1 a1_2 a1_3 a1_4 = some r) :
  Calls Try.prog 122 #[.agg #[.int .i64 a0_0, .int .i64 a0_1, .int .i64 a0_2, .int .i64 a0_3, .int .i64 a0_4], .agg #[.int .i64 a1_0, .int .i64 a1_1, .int .i64 a1_2, .int .i64 a1_3, .int .i64 a1_4]] w fun e w' => e = .returned (.bool r) ∧ Below w.heap.size w w' := by
 have hu146 := Try.underlying146; have HB := yaa (Below.refl w.heap.size w); have H : (if a0_0 = a1_0 then (if a0_1 = a1_1 then (if a0_2 = a1_2 then (if a0_3 = a1_3 then (if a0_4 = a1_4 then (some true) else (some false)) else (some false)) else (some false)) else (some false)) else (some false)) = some r := h; clear h
 by_cases c3 : a0_0 = a1_0
 ·
  rw [if_pos c3] at H
  have n8 := beq_iff_eq.mpr c3; have n9 := bne_eq_false_iff_eq.mpr c3; clear c3
  by_cases c4 : a0_1 = a1_1
  ·
   rw [if_pos c4] at H
   have o0 := beq_iff_eq.mpr c4; have o1 := bne_eq_false_iff_eq.mpr c4; clear c4
   by_cases c5 : a0_2 = a1_2
   ·
    rw [if_pos c5] at H
    have o2 := beq_iff_eq.mpr c5; have o3 := bne_eq_false_iff_eq.mpr c5; clear c5
    by_cases c6 : a0_3 = a1_3
    ·
     rw [if_pos c6] at H
     have o4 := beq_iff_eq.mpr c6; have o5 := bne_eq_false_iff_eq.mpr c6; clear c6
     by_cases c7 : a0_4 = a1_4
     ·
      rw [if_pos c7] at H
      have o6 := beq_iff_eq.mpr c7; have o7 := bne_eq_false_iff_eq.mpr c7; clear c7; obtain rfl := Option.some.inj H
      go_enter Try.func122, Try.ntmps122
      go_wp2_with (first | ((with_reducible refine gd_ 2 rfl ?_); refine bx_ 2 rfl #[.int .i64 a0_0, .int .i64 a0_1, .int .i64 a0_2, .int .i64 a0_3, .int .i64 a0_4] 146 ?_; intro a4 hg w8 hbox hb; have a1 := yaa (hbox); have a6 := yaa ((by rw [hg]; exact (below_size (upH HB.out)) : w.heap.size ≤ a4)); replace HB := yaa (below_step (upH HB.out) hb); have a9 := a6; clear hb hbox hg) | ((with_reducible refine gd_ 3 rfl ?_); refine bx_ 3 rfl #[.int .i64 a1_0, .int .i64 a1_1, .int .i64 a1_2, .int .i64 a1_3, .int .i64 a1_4] 146 ?_; intro a5 hg w9 hbox hb; have a3 := yaa (hbox); have a7 := yaa ((by rw [hg]; exact (below_size (by repeat (with_reducible first | exact HB.out | apply yac | apply yab | apply yad | refine yae ?_ (Aside0.out ‹_›)))) : w.heap.size ≤ a5)); replace HB := yaa (below_step (by repeat (with_reducible first | exact HB.out | apply yac | apply yab | apply yad | refine yae ?_ (Aside0.out ‹_›))) hb); have b0 := a7; have a0 := yaa ((by rw [hg]; exact Nat.ne_of_lt (blk_lt (upB a1.out)) : a4 ≠ a5)); replace a1 := yaa (blk_below (upB a1.out) hb); have a2 := yaa a0.out.symm; clear hb hbox hg; have o8 := a0.out; have o9 := a2.out; obtain ⟨b3, b4, b5, b6, b7⟩ := cc5_ a1.out; obtain ⟨b8, b9, c0, c1, c2⟩ := cf5_ a1.out; obtain ⟨c8, c9, d0, d1, d2⟩ := cc5_ a3.out; obtain ⟨d3, d4, d5, d6⟩ := cf4_ a3.out; have d7 := blk_frozen a3.out 4))
      go_ret
      exact ⟨by first | rfl | (simp [*, errW_none, errW_some] <;> rfl), by repeat (with_reducible first | exact HB.out | apply yac | apply yab | apply yad | refine yae ?_ (Aside0.out ‹_›))⟩
     ·
      rw [if_neg c7] at H
      have o6 := beq_eq_false_iff_ne.mpr c7; have o7 := bne_iff_ne.mpr c7; obtain rfl := Option.some.inj H
      go_enter Try.func122, Try.ntmps122
      go_wp2_with (first | ((with_reducible refine gd_ 2 rfl ?_); refine bx_ 2 rfl #[.int .i64 a0_0, .int .i64 a0_1, .int .i64 a0_2, .int .i64 a0_3, .int .i64 a0_4] 146 ?_; intro a4 hg w13 hbox hb; have a1 := yaa (hbox); have a6 := yaa ((by rw [hg]; exact (below_size (upH HB.out)) : w.heap.size ≤ a4)); replace HB := yaa (below_step (upH HB.out) hb); have a9 := a6; clear hb hbox hg) | ((with_reducible refine gd_ 3 rfl ?_); refine bx_ 3 rfl #[.int .i64 a1_0, .int .i64 a1_1, .int .i64 a1_2, .int .i64 a1_3, .int .i64 a1_4] 146 ?_; intro a5 hg w14 hbox hb; have a3 := yaa (hbox); have a7 := yaa ((by rw [hg]; exact (below_size (by repeat (with_reducible first | exact HB.out | apply yac | apply yab | apply yad | refine yae ?_ (Aside0.out ‹_›)))) : w.heap.size ≤ a5)); replace HB := yaa (below_step (by repeat (with_reducible first | exact HB.out | apply yac | apply yab | apply yad | refine yae ?_ (Aside0.out ‹_›))) hb); have b0 := a7; have a0 := yaa ((by rw [hg]; exact Nat.ne_of_lt (blk_lt (upB a1.out)) : a4 ≠ a5)); replace a1 := yaa (blk_below (upB a1.out) hb); have a2 := yaa a0.out.symm; clear hb hbox hg; have p0 := a0.out; have p1 := a2.out; obtain ⟨d8, d9, e0, e1, e2⟩ := cc5_ a1.out; obtain ⟨e3, e4, e5, e6, e7⟩ := cf5_ a1.out; obtain ⟨e8, e9, f0, f1, f2⟩ := cc5_ a3.out; obtain ⟨f3, f4, f5, f6⟩ := cf4_ a3.out; have f7 := blk_frozen a3.out 4))
      go_ret
      exact ⟨by first | rfl | (simp [*, errW_none, errW_some] <;> rfl), by repeat (with_reducible first | exact HB.out | apply yac | apply yab | apply yad | refine yae ?_ (Aside0.out ‹_›))⟩
    ·
     rw [if_neg c6] at H
     have o4 := beq_eq_false_iff_ne.mpr c6; have o5 := bne_iff_ne.mpr c6; obtain rfl := Option.some.inj H
     go_enter Try.func122, Try.ntmps122
     go_wp2_with (first | ((with_reducible refine gd_ 2 rfl ?_); refine bx_ 2 rfl #[.int .i64 a0_0, .int .i64 a0_1, .int .i64 a0_2, .int .i64 a0_3, .int .i64 a0_4] 146 ?_; intro a4 hg w18 hbox hb; have a1 := yaa (hbox); have a6 := yaa ((by rw [hg]; exact (below_size (upH HB.out)) : w.heap.size ≤ a4)); replace HB := yaa (below_step (upH HB.out) hb); have a9 := a6; clear hb hbox hg) | ((with_reducible refine gd_ 3 rfl ?_); refine bx_ 3 rfl #[.int .i64 a1_0, .int .i64 a1_1, .int .i64 a1_2, .int .i64 a1_3, .int .i64 a1_4] 146 ?_; intro a5 hg w19 hbox hb; have a3 := yaa (hbox); have a7 := yaa ((by rw [hg]; exact (below_size (by repeat (with_reducible first | exact HB.out | apply yac | apply yab | apply yad | refine yae ?_ (Aside0.out ‹_›)))) : w.heap.size ≤ a5)); replace HB := yaa (below_step (by repeat (with_reducible first | exact HB.out | apply yac | apply yab | apply yad | refine yae ?_ (Aside0.out ‹_›))) hb); have b0 := a7; have a0 := yaa ((by rw [hg]; exact Nat.ne_of_lt (blk_lt (upB a1.out)) : a4 ≠ a5)); replace a1 := yaa (blk_below (upB a1.out) hb); have a2 := yaa a0.out.symm; clear hb hbox hg; have p2 := a0.out; have p3 := a2.out; obtain ⟨f8, f9, g0, g1, g2⟩ := cc5_ a1.out; obtain ⟨g3, g4, g5, g6, g7⟩ := cf5_ a1.out; obtain ⟨g8, g9, h0, h1, h2⟩ := cc5_ a3.out; obtain ⟨h3, h4, h5, h6⟩ := cf4_ a3.out; have h7 := blk_frozen a3.out 4))
     go_ret
     exact ⟨by first | rfl | (simp [*, errW_none, errW_some] <;> rfl), by repeat (with_reducible first | exact HB.out | apply yac | apply yab | apply yad | refine yae ?_ (Aside0.out ‹_›))⟩
   ·
    rw [if_neg c5] at H
    have o2 := beq_eq_false_iff_ne.mpr c5; have o3 := bne_iff_ne.mpr c5; obtain rfl := Option.some.inj H
    go_enter Try.func122, Try.ntmps122
    go_wp2_with (first | ((with_reducible refine gd_ 2 rfl ?_); refine bx_ 2 rfl #[.int .i64 a0_0, .int .i64 a0_1, .int .i64 a0_2, .int .i64 a0_3, .int .i64 a0_4] 146 ?_; intro a4 hg w23 hbox hb; have a1 := yaa (hbox); have a6 := yaa ((by rw [hg]; exact (below_size (upH HB.out)) : w.heap.size ≤ a4)); replace HB := yaa (below_step (upH HB.out) hb); have a9 := a6; clear hb hbox hg) | ((with_reducible refine gd_ 3 rfl ?_); refine bx_ 3 rfl #[.int .i64 a1_0, .int .i64 a1_1, .int .i64 a1_2, .int .i64 a1_3, .int .i64 a1_4] 146 ?_; intro a5 hg w24 hbox hb; have a3 := yaa (hbox); have a7 := yaa ((by rw [hg]; exact (below_size (by repeat (with_reducible first | exact HB.out | apply yac | apply yab | apply yad | refine yae ?_ (Aside0.out ‹_›)))) : w.heap.size ≤ a5)); replace HB := yaa (below_step (by repeat (with_reducible first | exact HB.out | apply yac | apply yab | apply yad | refine yae ?_ (Aside0.out ‹_›))) hb); have b0 := a7; have a0 := yaa ((by rw [hg]; exact Nat.ne_of_lt (blk_lt (upB a1.out)) : a4 ≠ a5)); replace a1 := yaa (blk_below (upB a1.out) hb); have a2 := yaa a0.out.symm; clear hb hbox hg; have p4 := a0.out; have p5 := a2.out; obtain ⟨h8, h9, i0, i1, i2⟩ := cc5_ a1.out; obtain ⟨i3, i4, i5, i6, i7⟩ := cf5_ a1.out; obtain ⟨i8, i9, j0, j1, j2⟩ := cc5_ a3.out; obtain ⟨j3, j4, j5, j6⟩ := cf4_ a3.out; have j7 := blk_frozen a3.out 4))
    go_ret
    exact ⟨by first | rfl | (simp [*, errW_none, errW_some] <;> rfl), by repeat (with_reducible first | exact HB.out | apply yac | apply yab | apply yad | refine yae ?_ (Aside0.out ‹_›))⟩
  ·
   rw [if_neg c4] at H
   have o0 := beq_eq_false_iff_ne.mpr c4; have o1 := bne_iff_ne.mpr c4; obtain rfl := Option.some.inj H
   go_enter Try.func122, Try.ntmps122
   go_wp2_with (first | ((with_reducible refine gd_ 2 rfl ?_); refine bx_ 2 rfl #[.int .i64 a0_0, .int .i64 a0_1, .int .i64 a0_2, .int .i64 a0_3, .int .i64 a0_4] 146 ?_; intro a4 hg w28 hbox hb; have a1 := yaa (hbox); have a6 := yaa ((by rw [hg]; exact (below_size (upH HB.out)) : w.heap.size ≤ a4)); replace HB := yaa (below_step (upH HB.out) hb); have a9 := a6; clear hb hbox hg) | ((with_reducible refine gd_ 3 rfl ?_); refine bx_ 3 rfl #[.int .i64 a1_0, .int .i64 a1_1, .int .i64 a1_2, .int .i64 a1_3, .int .i64 a1_4] 146 ?_; intro a5 hg w29 hbox hb; have a3 := yaa (hbox); have a7 := yaa ((by rw [hg]; exact (below_size (by repeat (with_reducible first | exact HB.out | apply yac | apply yab | apply yad | refine yae ?_ (Aside0.out ‹_›)))) : w.heap.size ≤ a5)); replace HB := yaa (below_step (by repeat (with_reducible first | exact HB.out | apply yac | apply yab | apply yad | refine yae ?_ (Aside0.out ‹_›))) hb); have b0 := a7; have a0 := yaa ((by rw [hg]; exact Nat.ne_of_lt (blk_lt (upB a1.out)) : a4 ≠ a5)); replace a1 := yaa (blk_below (upB a1.out) hb); have a2 := yaa a0.out.symm; clear hb hbox hg; have p6 := a0.out; have p7 := a2.out; obtain ⟨j8, j9, k0, k1, k2⟩ := cc5_ a1.out; obtain ⟨k3, k4, k5, k6, k7⟩ := cf5_ a1.out; obtain ⟨k8, k9, l0, l1, l2⟩ := cc5_ a3.out; obtain ⟨l3, l4, l5, l6⟩ := cf4_ a3.out; have l7 := blk_frozen a3.out 4))
   go_ret
   exact ⟨by first | rfl | (simp [*, errW_none, errW_some] <;> rfl), by repeat (with_reducible first | exact HB.out | apply yac | apply yab | apply yad | refine yae ?_ (Aside0.out ‹_›))⟩
 ·
  rw [if_neg c3] at H
  have n8 := beq_eq_false_iff_ne.mpr c3; have n9 := bne_iff_ne.mpr c3; obtain rfl := Option.some.inj H
  go_enter Try.func122, Try.ntmps122
  go_wp2_with (first | ((with_reducible refine gd_ 2 rfl ?_); refine bx_ 2 rfl #[.int .i64 a0_0, .int .i64 a0_1, .int .i64 a0_2, .int .i64 a0_3, .int .i64 a0_4] 146 ?_; intro a4 hg w33 hbox hb; have a1 := yaa (hbox); have a6 := yaa ((by rw [hg]; exact (below_size (upH HB.out)) : w.heap.size ≤ a4)); replace HB := yaa (below_step (upH HB.out) hb); have a9 := a6; clear hb hbox hg) | ((with_reducible refine gd_ 3 rfl ?_); refine bx_ 3 rfl #[.int .i64 a1_0, .int .i64 a1_1, .int .i64 a1_2, .int .i64 a1_3, .int .i64 a1_4] 146 ?_; intro a5 hg w34 hbox hb; have a3 := yaa (hbox); have a7 := yaa ((by rw [hg]; exact (below_size (by repeat (with_reducible first | exact HB.out | apply yac | apply yab | apply yad | refine yae ?_ (Aside0.out ‹_›)))) : w.heap.size ≤ a5)); replace HB := yaa (below_step (by repeat (with_reducible first | exact HB.out | apply yac | apply yab | apply yad | refine yae ?_ (Aside0.out ‹_›))) hb); have b0 := a7; have a0 := yaa ((by rw [hg]; exact Nat.ne_of_lt (blk_lt (upB a1.out)) : a4 ≠ a5)); replace a1 := yaa (blk_below (upB a1.out) hb); have a2 := yaa a0.out.symm; clear hb hbox hg; have p8 := a0.out; have p9 := a2.out; obtain ⟨l8, l9, m0, m1, m2⟩ := cc5_ a1.out; obtain ⟨m3, m4, m5, m6, m7⟩ := cf5_ a1.out; obtain ⟨m8, m9, n0, n1, n2⟩ := cc5_ a3.out; obtain ⟨n3, n4, n5, n6⟩ := cf4_ a3.out; have n7 := blk_frozen a3.out 4))
  go_ret
  exact ⟨by first | rfl | (simp [*, errW_none, errW_some] <;> rfl), by repeat (with_reducible first | exact HB.out | apply yac | apply yab | apply yad | refine yae ?_ (Aside0.out ‹_›))⟩
end
section
open Go.Proofs.Ytgpkkkmapgnhkaa.X renaming rd_T146 → yaa

abbrev q74_0 : Array Bool := #[false, false, false, false, false, false, false, false, false, false]
abbrev q74_1 : Array Bool := #[true, false, false, false, false, false, false, false, false, false]
abbrev q74_2 : Array Bool := #[true, true, false, false, false, false, false, false, false, false]
abbrev q74_3 : Array Bool := #[true, true, true, false, false, false, false, false, false, false]
abbrev q74_4 : Array Bool := #[true, true, true, false, true, false, false, false, false, false]
abbrev q74_5 : Array Bool := #[true, true, true, false, true, true, false, false, false, false]
abbrev q74_6 : Array Bool := #[true, true, true, false, true, true, true, false, false, false]
abbrev q74_7 : Array Bool := #[true, true, true, true, true, true, true, false, false, false]
abbrev q74_8 : Array Bool := #[true, true, true, true, true, true, true, true, false, false]
abbrev q74_9 : Array Bool := #[true, true, true, true, true, true, true, true, true, false]
abbrev q74_10 : Array Bool := #[true, true, true, true, true, true, true, true, true, true]
def laws_eqOpOpS.l0 : Nat → List (S146) → List (S146) → Int → Option (Bool)
 | 0, _, _, _ => none
 | k + 1, x0, x1, x5 => if x5 < (x0.length : Int) then (if 0 ≤ x5 then (if x5 < (x1.length : Int) then ((laws_eqOpOp.f ((rd_T146 x0 x5).f0) ((rd_T146 x0 x5).f1) ((rd_T146 x0 x5).f2) ((rd_T146 x0 x5).f3) ((rd_T146 x0 x5).f4) ((rd_T146 x1 x5).f0) ((rd_T146 x1 x5).f1) ((rd_T146 x1 x5).f2) ((rd_T146 x1 x5).f3) ((rd_T146 x1 x5).f4)).bind fun t103 => (if t103 = true then (laws_eqOpOpS.l0 k x0 x1 (wrap64 (x5 + 1))) else (some false))) else (none)) else (none)) else (some true)
def laws_eqOpOpS.f (k : Nat) (l0 : List (S146)) (l1 : List (S146)) : Option (Bool) := if (l0.length : Int) = (l1.length : Int) then (laws_eqOpOpS.l0 k l0 l1 0) else (some false)
def laws_eqOpOpS.T6 : Bool × List (List Nat × List Nat) := (true, [([], []), ([], []), ([0, 1], [0, 1]), ([2], [2]), ([], []), ([], []), ([4, 5], [4, 5]), ([6], [6]), ([3, 7], [3, 7]), ([8], [8])])
def laws_eqOpOpS.B6 : List Nat := [0, 0, 3, 7, 0, 0, 48, 112, 255, 511]
theorem laws_eqOpOpS.tab6 : rtab .any (opsOf Try.f74 6) = laws_eqOpOpS.T6 := by kernel_rfl
theorem laws_eqOpOpS.bits6 : waitsOk laws_eqOpOpS.T6.2 laws_eqOpOpS.B6 = true := by kernel_rfl
set_option maxHeartbeats 8000000 in
set_option maxRecDepth 100000 in
theorem laws_eqOpOpS.calls (k : Nat) (A0 : Option Addr) (c0 : Nat) (l0 : List (S146)) (A1 : Option Addr) (c1 : Nat) (l1 : List (S146)) (r : Bool) (w : World) (hr0 : Kd.C k146 w A0 l0.length l0) (hc0 : l0.length ≤ c0) (hr1 : Kd.C k146 w A1 l1.length l1) (hc1 : l1.length ≤ c1) (h : laws_eqOpOpS.f k l0 l1 = some r) :
  Calls Try.prog 74 #[.slice A0 l0.length c0, .slice A1 l1.length c1] w fun e w' => e = .returned (.bool r) ∧ Below w.heap.size w w' := by
 have hu146 := Try.underlying146; have HR0 := Aside0.mk hr0; have HC0 := Aside0.mk hc0; clear hr0 hc0; have HR1 := Aside0.mk hr1; have HC1 := Aside0.mk hc1; clear hr1 hc1; have HB := Aside0.mk (Below.refl w.heap.size w); have H : (if (l0.length : Int) = (l1.length : Int) then (laws_eqOpOpS.l0 k l0 l1 0) else (some false)) = some r := h; clear h
 by_cases c3 : (l0.length : Int) = (l1.length : Int)
 ·
  rw [if_pos c3] at H
  have d2 := beq_iff_eq.mpr c3; have d3 := bne_eq_false_iff_eq.mpr c3
  have d4 : (l0.length == l1.length) = true := by first | simpa using c3 | (simp at c3 ⊢; omega)
  clear c3; have H' := Aside0.mk H; clear H
  go_enter Try.func74, Try.ntmps74
  go_wp2
  (try simp only [Act.put, List.setIfInBounds_toArray, List.set_cons_zero, List.set_cons_succ])
  go_loopg [5] k (fun kq v5 w' => ∃ (a2 : Int), v5 = .int .i64 a2 ∧ Aside0 (laws_eqOpOpS.l0 kq l0 l1 a2 = some r) ∧ Aside0 (kq ≤ k) ∧ Aside0 (Below w.heap.size w w'))
  case atStart => exact ⟨(0), (by first | rfl | (simp; done) | (simp [*]; done)), H', ⟨Nat.le_refl _⟩, ⟨upH HB.out⟩⟩
  case round =>
   clear H'; (try clear c1); (try clear p2); (try clear c3); (try clear d2); (try clear d3); (try clear d4); obtain ⟨a2, rfl, HA, HK1, HB⟩ := hrel
   cases gk with
   | zero => exact absurd HA.out (by simp [laws_eqOpOpS.l0])
   | succ k1 =>
    have H := HA.out; clear HA
    simp only [laws_eqOpOpS.l0] at H
    by_cases c4 : a2 < (l0.length : Int)
    ·
     rw [if_pos c4] at H
     have d5 : decide (a2 < (l0.length : Int)) = true := decide_eq_true c4; clear c4
     by_cases c5 : 0 ≤ a2
     ·
      rw [if_pos c5] at H
      replace c5 := decide_eq_true c5
      by_cases c6 : a2 < (l1.length : Int)
      ·
       rw [if_pos c6] at H
       replace c6 := decide_eq_true c6; obtain ⟨d6, A7, H⟩ := bindA H; (try dsimp only at H)
       by_cases c8 : d6 = true
       ·
        subst c8
        rw [if_pos rfl] at H
        have H' := Aside0.mk H; clear H
        try go_wp2
        replace HB := Aside0.mk (below_drew1 HB.out)
        have p101 : 0 ≤ (a2 : Int) := of_decide_eq_true (by first | (with_reducible assumption) | assumption)
        have q101 : a2 < (l0.length : Int) := of_decide_eq_true (by first | (with_reducible assumption) | assumption)
        obtain ⟨ad101, d0, a3, a4, a5, a6, a7⟩ := at_T146 HR0.out a2 p101 q101; have b3 := a7; have b4 := a6; have b5 := a5; have b6 := a4; have b7 := a3
        cases d0
        replace a3 := (HB.out.cell (World.block_lt_of_cell? w _ a3)).trans a3; replace a4 := (HB.out.cell (World.block_lt_of_cell? w _ a4)).trans a4; replace a5 := (HB.out.cell (World.block_lt_of_cell? w _ a5)).trans a5; replace a6 := (HB.out.cell (World.block_lt_of_cell? w _ a6)).trans a6; replace a7 := (HB.out.cell (World.block_lt_of_cell? w _ a7)).trans a7; replace p101 := eq_true p101; replace q101 := eq_true q101
        have p102 : 0 ≤ (a2 : Int) := of_decide_eq_true (by first | (with_reducible assumption) | assumption)
        have q102 : a2 < (l1.length : Int) := of_decide_eq_true (by first | (with_reducible assumption) | assumption)
        obtain ⟨ad102, d1, a8, a9, b0, b1, b2⟩ := at_T146 HR1.out a2 p102 q102; have b8 := b2; have b9 := b1; have c2 := b0; have c7 := a9; have c9 := a8
        cases d1
        replace a8 := (HB.out.cell (World.block_lt_of_cell? w _ a8)).trans a8; replace a9 := (HB.out.cell (World.block_lt_of_cell? w _ a9)).trans a9; replace b0 := (HB.out.cell (World.block_lt_of_cell? w _ b0)).trans b0; replace b1 := (HB.out.cell (World.block_lt_of_cell? w _ b1)).trans b1; replace b2 := (HB.out.cell (World.block_lt_of_cell? w _ b2)).trans b2; replace p102 := eq_true p102; replace q102 := eq_true q102
        refine start_ (n := 10) (S := fun w' => w'.cell? (ad101.add ((a2).toNat * 5)) = some (.int .i64 ((yaa l0 a2).f0)) ∧ w'.cell? ⟨(ad101.add ((a2).toNat * 5)).block, (ad101.add ((a2).toNat * 5)).off + 1, none⟩ = some (.int .i64 ((yaa l0 a2).f1)) ∧ w'.cell? ⟨(ad101.add ((a2).toNat * 5)).block, (ad101.add ((a2).toNat * 5)).off + 2, none⟩ = some (.int .i64 ((yaa l0 a2).f2)) ∧ w'.cell? ⟨(ad101.add ((a2).toNat * 5)).block, (ad101.add ((a2).toNat * 5)).off + 3, none⟩ = some (.int .i64 ((yaa l0 a2).f3)) ∧ w'.cell? ⟨(ad101.add ((a2).toNat * 5)).block, (ad101.add ((a2).toNat * 5)).off + 4, none⟩ = some (.int .i64 ((yaa l0 a2).f4)) ∧ w'.cell? (ad102.add ((a2).toNat * 5)) = some (.int .i64 ((yaa l1 a2).f0)) ∧ w'.cell? ⟨(ad102.add ((a2).toNat * 5)).block, (ad102.add ((a2).toNat * 5)).off + 1, none⟩ = some (.int .i64 ((yaa l1 a2).f1)) ∧ w'.cell? ⟨(ad102.add ((a2).toNat * 5)).block, (ad102.add ((a2).toNat * 5)).off + 2, none⟩ = some (.int .i64 ((yaa l1 a2).f2)) ∧ w'.cell? ⟨(ad102.add ((a2).toNat * 5)).block, (ad102.add ((a2).toNat * 5)).off + 3, none⟩ = some (.int .i64 ((yaa l1 a2).f3)) ∧ w'.cell? ⟨(ad102.add ((a2).toNat * 5)).block, (ad102.add ((a2).toNat * 5)).off + 4, none⟩ = some (.int .i64 ((yaa l1 a2).f4))) (ds := []) q74_0 (by kernel_rfl) rfl rfl ⟨((HB.out.cell (World.block_lt_of_cell? w _ b7)).trans b7), ((HB.out.cell (World.block_lt_of_cell? w _ b6)).trans b6), ((HB.out.cell (World.block_lt_of_cell? w _ b5)).trans b5), ((HB.out.cell (World.block_lt_of_cell? w _ b4)).trans b4), ((HB.out.cell (World.block_lt_of_cell? w _ b3)).trans b3), ((HB.out.cell (World.block_lt_of_cell? w _ c9)).trans c9), ((HB.out.cell (World.block_lt_of_cell? w _ c7)).trans c7), ((HB.out.cell (World.block_lt_of_cell? w _ c2)).trans c2), ((HB.out.cell (World.block_lt_of_cell? w _ b9)).trans b9), ((HB.out.cell (World.block_lt_of_cell? w _ b8)).trans b8)⟩ (fun hHeld => ?_); refine with_tabW laws_eqOpOpS.tab6 laws_eqOpOpS.bits6 (fun HT_ HW_ => ?_)
        generalize wr.drew = w9 at HB a3 a4 a5 a6 a7 a8 a9 b0 b1 b2 hHeld ⊢
        refine pz_ 0 17 q74_1 HT_ (by kernel_rfl) ?_
        refine pz_ 1 18 q74_2 HT_ (by kernel_rfl) ?_
        refine pz_ 2 19 q74_3 HT_ (by kernel_rfl) ?_
        refine pz_ 4 21 q74_4 HT_ (by kernel_rfl) ?_
        refine pz_ 5 22 q74_5 HT_ (by kernel_rfl) ?_
        refine pz_ 6 23 q74_6 HT_ (by kernel_rfl) ?_
        refine tz_ 3 20 q74_7 HT_ HW_ (by kernel_rfl) hHeld ?_
        refine tz_ 7 24 q74_8 HT_ HW_ (by kernel_rfl) hHeld ?_
        refine one_ (i := 8) (N := some 25) q74_9 rfl rfl (one_of HT_.out (by kernel_rfl)) (by decide) (fun K hK => ?_)
        refine goes_ Try.func122 (by kernel_rfl) rfl #[.agg #[.int .i64 ((yaa l0 a2).f0), .int .i64 ((yaa l0 a2).f1), .int .i64 ((yaa l0 a2).f2), .int .i64 ((yaa l0 a2).f3), .int .i64 ((yaa l0 a2).f4)], .agg #[.int .i64 ((yaa l1 a2).f0), .int .i64 ((yaa l1 a2).f1), .int .i64 ((yaa l1 a2).f2), .int .i64 ((yaa l1 a2).f3), .int .i64 ((yaa l1 a2).f4)]] (by rfl) rfl rfl (by (try simp only [List.map_toArray, List.map_cons, List.map_nil]); first | done | rfl | (simp only [List.length_drop, List.length_take]; rfl)) ?_
        with_reducible refine (laws_eqOpOp.calls ((yaa l0 a2).f0) ((yaa l0 a2).f1) ((yaa l0 a2).f2) ((yaa l0 a2).f3) ((yaa l0 a2).f4) ((yaa l1 a2).f0) ((yaa l1 a2).f1) ((yaa l1 a2).f2) ((yaa l1 a2).f3) ((yaa l1 a2).f4) true _ A7.out).mono ?_
        rintro e w10 ⟨rfl, hb⟩; refine ⟨_, rfl, ?_⟩; replace HB := Aside0.mk (below_step (upH HB.out) hb); (try clear hb); (try clear hb2); (try clear hk); (try clear hi)
        refine hK.out _ _ ⟨((HB.out.cell (World.block_lt_of_cell? w _ b7)).trans b7), ((HB.out.cell (World.block_lt_of_cell? w _ b6)).trans b6), ((HB.out.cell (World.block_lt_of_cell? w _ b5)).trans b5), ((HB.out.cell (World.block_lt_of_cell? w _ b4)).trans b4), ((HB.out.cell (World.block_lt_of_cell? w _ b3)).trans b3), ((HB.out.cell (World.block_lt_of_cell? w _ c9)).trans c9), ((HB.out.cell (World.block_lt_of_cell? w _ c7)).trans c7), ((HB.out.cell (World.block_lt_of_cell? w _ c2)).trans c2), ((HB.out.cell (World.block_lt_of_cell? w _ b9)).trans b9), ((HB.out.cell (World.block_lt_of_cell? w _ b8)).trans b8)⟩ (fun hHeld => ?_)
        clear hK K
        refine norm_ (a' := ?_) ?_ ?_
        rotate_left
        ·
         show Act.put _ (some 25) _ = _
         simp only [Act.put, List.setIfInBounds_toArray, List.set_cons_zero, List.set_cons_succ, i64_w, i32_w]
         rfl
        refine pz_ 9 26 q74_10 HT_ (by kernel_rfl) ?_
        refine done_ (done_of HT_.out (by kernel_rfl)) ?_
        try go_wp2
        go_roundg k1
        case measure => have := HK1.out; omega
        case rel => exact ⟨(wrap64 (a2 + 1)), (by first | rfl | (simp; done) | (simp [*]; done)), H', ⟨by have := HK1.out; omega⟩, ⟨upH HB.out⟩⟩
       ·
        replace c8 := Bool.eq_false_iff.mpr c8
        subst c8
        rw [if_neg (show ¬ (false = true) by decide)] at H
        obtain rfl := Option.some.inj H
        try go_wp2
        replace HB := Aside0.mk (below_drew1 HB.out)
        have p101 : 0 ≤ (a2 : Int) := of_decide_eq_true (by first | (with_reducible assumption) | assumption)
        have q101 : a2 < (l0.length : Int) := of_decide_eq_true (by first | (with_reducible assumption) | assumption)
        obtain ⟨ad101, d0, a3, a4, a5, a6, a7⟩ := at_T146 HR0.out a2 p101 q101; have b3 := a7; have b4 := a6; have b5 := a5; have b6 := a4; have b7 := a3
        cases d0
        replace a3 := (HB.out.cell (World.block_lt_of_cell? w _ a3)).trans a3; replace a4 := (HB.out.cell (World.block_lt_of_cell? w _ a4)).trans a4; replace a5 := (HB.out.cell (World.block_lt_of_cell? w _ a5)).trans a5; replace a6 := (HB.out.cell (World.block_lt_of_cell? w _ a6)).trans a6; replace a7 := (HB.out.cell (World.block_lt_of_cell? w _ a7)).trans a7; replace p101 := eq_true p101; replace q101 := eq_true q101
        have p102 : 0 ≤ (a2 : Int) := of_decide_eq_true (by first | (with_reducible assumption) | assumption)
        have q102 : a2 < (l1.length : Int) := of_decide_eq_true (by first | (with_reducible assumption) | assumption)
        obtain ⟨ad102, d1, a8, a9, b0, b1, b2⟩ := at_T146 HR1.out a2 p102 q102; have b8 := b2; have b9 := b1; have c2 := b0; have c7 := a9; have c9 := a8
        cases d1
        replace a8 := (HB.out.cell (World.block_lt_of_cell? w _ a8)).trans a8; replace a9 := (HB.out.cell (World.block_lt_of_cell? w _ a9)).trans a9; replace b0 := (HB.out.cell (World.block_lt_of_cell? w _ b0)).trans b0; replace b1 := (HB.out.cell (World.block_lt_of_cell? w _ b1)).trans b1; replace b2 := (HB.out.cell (World.block_lt_of_cell? w _ b2)).trans b2; replace p102 := eq_true p102; replace q102 := eq_true q102
        refine start_ (n := 10) (S := fun w' => w'.cell? (ad101.add ((a2).toNat * 5)) = some (.int .i64 ((yaa l0 a2).f0)) ∧ w'.cell? ⟨(ad101.add ((a2).toNat * 5)).block, (ad101.add ((a2).toNat * 5)).off + 1, none⟩ = some (.int .i64 ((yaa l0 a2).f1)) ∧ w'.cell? ⟨(ad101.add ((a2).toNat * 5)).block, (ad101.add ((a2).toNat * 5)).off + 2, none⟩ = some (.int .i64 ((yaa l0 a2).f2)) ∧ w'.cell? ⟨(ad101.add ((a2).toNat * 5)).block, (ad101.add ((a2).toNat * 5)).off + 3, none⟩ = some (.int .i64 ((yaa l0 a2).f3)) ∧ w'.cell? ⟨(ad101.add ((a2).toNat * 5)).block, (ad101.add ((a2).toNat * 5)).off + 4, none⟩ = some (.int .i64 ((yaa l0 a2).f4)) ∧ w'.cell? (ad102.add ((a2).toNat * 5)) = some (.int .i64 ((yaa l1 a2).f0)) ∧ w'.cell? ⟨(ad102.add ((a2).toNat * 5)).block, (ad102.add ((a2).toNat * 5)).off + 1, none⟩ = some (.int .i64 ((yaa l1 a2).f1)) ∧ w'.cell? ⟨(ad102.add ((a2).toNat * 5)).block, (ad102.add ((a2).toNat * 5)).off + 2, none⟩ = some (.int .i64 ((yaa l1 a2).f2)) ∧ w'.cell? ⟨(ad102.add ((a2).toNat * 5)).block, (ad102.add ((a2).toNat * 5)).off + 3, none⟩ = some (.int .i64 ((yaa l1 a2).f3)) ∧ w'.cell? ⟨(ad102.add ((a2).toNat * 5)).block, (ad102.add ((a2).toNat * 5)).off + 4, none⟩ = some (.int .i64 ((yaa l1 a2).f4))) (ds := []) q74_0 (by kernel_rfl) rfl rfl ⟨((HB.out.cell (World.block_lt_of_cell? w _ b7)).trans b7), ((HB.out.cell (World.block_lt_of_cell? w _ b6)).trans b6), ((HB.out.cell (World.block_lt_of_cell? w _ b5)).trans b5), ((HB.out.cell (World.block_lt_of_cell? w _ b4)).trans b4), ((HB.out.cell (World.block_lt_of_cell? w _ b3)).trans b3), ((HB.out.cell (World.block_lt_of_cell? w _ c9)).trans c9), ((HB.out.cell (World.block_lt_of_cell? w _ c7)).trans c7), ((HB.out.cell (World.block_lt_of_cell? w _ c2)).trans c2), ((HB.out.cell (World.block_lt_of_cell? w _ b9)).trans b9), ((HB.out.cell (World.block_lt_of_cell? w _ b8)).trans b8)⟩ (fun hHeld => ?_); refine with_tabW laws_eqOpOpS.tab6 laws_eqOpOpS.bits6 (fun HT_ HW_ => ?_)
        generalize wr.drew = w11 at HB a3 a4 a5 a6 a7 a8 a9 b0 b1 b2 hHeld ⊢
        refine pz_ 0 17 q74_1 HT_ (by kernel_rfl) ?_
        refine pz_ 1 18 q74_2 HT_ (by kernel_rfl) ?_
        refine pz_ 2 19 q74_3 HT_ (by kernel_rfl) ?_
        refine pz_ 4 21 q74_4 HT_ (by kernel_rfl) ?_
        refine pz_ 5 22 q74_5 HT_ (by kernel_rfl) ?_
        refine pz_ 6 23 q74_6 HT_ (by kernel_rfl) ?_
        refine tz_ 3 20 q74_7 HT_ HW_ (by kernel_rfl) hHeld ?_
        refine tz_ 7 24 q74_8 HT_ HW_ (by kernel_rfl) hHeld ?_
        refine one_ (i := 8) (N := some 25) q74_9 rfl rfl (one_of HT_.out (by kernel_rfl)) (by decide) (fun K hK => ?_)
        refine goes_ Try.func122 (by kernel_rfl) rfl #[.agg #[.int .i64 ((yaa l0 a2).f0), .int .i64 ((yaa l0 a2).f1), .int .i64 ((yaa l0 a2).f2), .int .i64 ((yaa l0 a2).f3), .int .i64 ((yaa l0 a2).f4)], .agg #[.int .i64 ((yaa l1 a2).f0), .int .i64 ((yaa l1 a2).f1), .int .i64 ((yaa l1 a2).f2), .int .i64 ((yaa l1 a2).f3), .int .i64 ((yaa l1 a2).f4)]] (by rfl) rfl rfl (by (try simp only [List.map_toArray, List.map_cons, List.map_nil]); first | done | rfl | (simp only [List.length_drop, List.length_take]; rfl)) ?_
        with_reducible refine (laws_eqOpOp.calls ((yaa l0 a2).f0) ((yaa l0 a2).f1) ((yaa l0 a2).f2) ((yaa l0 a2).f3) ((yaa l0 a2).f4) ((yaa l1 a2).f0) ((yaa l1 a2).f1) ((yaa l1 a2).f2) ((yaa l1 a2).f3) ((yaa l1 a2).f4) false _ A7.out).mono ?_
        rintro e w12 ⟨rfl, hb⟩; refine ⟨_, rfl, ?_⟩; replace HB := Aside0.mk (below_step (upH HB.out) hb); (try clear hb); (try clear hb2); (try clear hk); (try clear hi)
        refine hK.out _ _ ⟨((HB.out.cell (World.block_lt_of_cell? w _ b7)).trans b7), ((HB.out.cell (World.block_lt_of_cell? w _ b6)).trans b6), ((HB.out.cell (World.block_lt_of_cell? w _ b5)).trans b5), ((HB.out.cell (World.block_lt_of_cell? w _ b4)).trans b4), ((HB.out.cell (World.block_lt_of_cell? w _ b3)).trans b3), ((HB.out.cell (World.block_lt_of_cell? w _ c9)).trans c9), ((HB.out.cell (World.block_lt_of_cell? w _ c7)).trans c7), ((HB.out.cell (World.block_lt_of_cell? w _ c2)).trans c2), ((HB.out.cell (World.block_lt_of_cell? w _ b9)).trans b9), ((HB.out.cell (World.block_lt_of_cell? w _ b8)).trans b8)⟩ (fun hHeld => ?_)
        clear hK K
        refine norm_ (a' := ?_) ?_ ?_
        rotate_left
        ·
         show Act.put _ (some 25) _ = _
         simp only [Act.put, List.setIfInBounds_toArray, List.set_cons_zero, List.set_cons_succ, i64_w, i32_w]
         rfl
        refine pz_ 9 26 q74_10 HT_ (by kernel_rfl) ?_
        refine done_ (done_of HT_.out (by kernel_rfl)) ?_
        try go_wp2
        go_ret
        exact ⟨by first | rfl | (simp [*, errW_none, errW_some] <;> rfl), upH HB.out⟩
      ·
       rw [if_neg c6] at H
       exact absurd H (by simp)
     ·
      rw [if_neg c5] at H
      exact absurd H (by simp)
    ·
     rw [if_neg c4] at H
     have d5 : decide (a2 < (l0.length : Int)) = false := decide_eq_false c4; clear c4; obtain rfl := Option.some.inj H
     go_wp2
     go_ret
     exact ⟨by first | rfl | (simp [*, errW_none, errW_some] <;> rfl), upH HB.out⟩
 ·
  rw [if_neg c3] at H
  have d2 := beq_eq_false_iff_ne.mpr c3; have d3 := bne_iff_ne.mpr c3
  have d4 : (l0.length == l1.length) = false := by first | simpa using c3 | (simp at c3 ⊢; omega)
  obtain rfl := Option.some.inj H
  go_enter Try.func74, Try.ntmps74
  go_wp2
  go_ret
  exact ⟨by first | rfl | (simp [*, errW_none, errW_some] <;> rfl), upH HB.out⟩
end
section
open Go.Proofs.YtgpkkkmapgnhkaaW.PrintWords.Aside0 renaming mk → yaa
open Go.Proofs.YtgpkkkmapgnhkaaW.PrintWords renaming pw_below_drewN → yab, below_alloc → yac, below_drew1 → yad, below_set → yae

def laws_eqTenJob.f (k : Nat) (a0_0 : Int) (a0_1 : ByteArray) (l0_2 : List (S146)) (a0_3 : Int) (a1_0 : Int) (a1_1 : ByteArray) (l1_2 : List (S146)) (a1_3 : Int) : Option (Bool) := if a0_0 = a1_0 then (if a0_1.toList = a1_1.toList then ((laws_eqOpOpS.f k l0_2 l1_2).bind fun t103 => (if t103 = true then (if a0_3 = a1_3 then (some true) else (some false)) else (some false))) else (some false)) else (some false)
set_option maxHeartbeats 8000000 in
set_option maxRecDepth 100000 in
theorem laws_eqTenJob.calls (k : Nat) (a0_0 : Int) (a0_1 : ByteArray) (A0_2 : Option Addr) (c0_2 : Nat) (l0_2 : List (S146)) (a0_3 : Int) (a1_0 : Int) (a1_1 : ByteArray) (A1_2 : Option Addr) (c1_2 : Nat) (l1_2 : List (S146)) (a1_3 : Int) (r : Bool) (w : World) (hr0_2 : Kd.C k146 w A0_2 l0_2.length l0_2) (hc0_2 : l0_2.length ≤ c0_2) (hr1_2 : Kd.C k146 w A1_2 l1_2.length l1_2) (hc1_2 : l1_2.length ≤ c1_2) (h : laws_eqTenJob.f k a0_0 a0_1 l0_2 a0_3 a1_0 a1_1 l1_2 a1_3 = some r) :
  Calls Try.prog 130 #[.agg #[.int .i64 a0_0, .string a0_1, .slice A0_2 l0_2.length c0_2, .int .i64 a0_3], .agg #[.int .i64 a1_0, .string a1_1, .slice A1_2 l1_2.length c1_2, .int .i64 a1_3]] w fun e w' => e = .returned (.bool r) ∧ Below w.heap.size w w' := by
 have hu124 := Try.underlying124; have HR0_2 := yaa hr0_2; have HC0_2 := yaa hc0_2; clear hr0_2 hc0_2; have HR1_2 := yaa hr1_2; have HC1_2 := yaa hc1_2; clear hr1_2 hc1_2; have HB := yaa (Below.refl w.heap.size w); have H : (if a0_0 = a1_0 then (if a0_1.toList = a1_1.toList then ((laws_eqOpOpS.f k l0_2 l1_2).bind fun c1 => (if c1 = true then (if a0_3 = a1_3 then (some true) else (some false)) else (some false))) else (some false)) else (some false)) = some r := h; clear h
 by_cases c3 : a0_0 = a1_0
 ·
  rw [if_pos c3] at H
  have n8 := beq_iff_eq.mpr c3; have n9 := bne_eq_false_iff_eq.mpr c3; clear c3
  by_cases c4 : a0_1.toList = a1_1.toList
  ·
   rw [if_pos c4] at H
   have o0 := beq_iff_eq.mpr c4; have o1 := bne_eq_false_iff_eq.mpr c4; clear c4; obtain ⟨c1, A5, H⟩ := bindA H; (try dsimp only at H)
   by_cases c6 : c1 = true
   ·
    subst c6
    rw [if_pos rfl] at H
    by_cases c7 : a0_3 = a1_3
    ·
     rw [if_pos c7] at H
     have o2 := beq_iff_eq.mpr c7; have o3 := bne_eq_false_iff_eq.mpr c7; clear c7; obtain rfl := Option.some.inj H
     go_enter Try.func130, Try.ntmps130
     go_wp2_with (first | ((with_reducible refine gd_ 2 rfl ?_); refine bx_ 2 rfl #[.int .i64 a0_0, .string a0_1, .slice A0_2 l0_2.length c0_2, .int .i64 a0_3] 124 ?_; intro b2 hg w8 hbox hb; have a8 := yaa (hbox); have b4 := yaa ((by rw [hg]; exact (below_size (upH HB.out)) : w.heap.size ≤ b2)); replace HB := yaa (below_step (upH HB.out) hb); have b7 := b4; clear hb hbox hg) | ((with_reducible refine gd_ 3 rfl ?_); refine bx_ 3 rfl #[.int .i64 a1_0, .string a1_1, .slice A1_2 l1_2.length c1_2, .int .i64 a1_3] 124 ?_; intro b3 hg w9 hbox hb; have b0 := yaa (hbox); have b5 := yaa ((by rw [hg]; exact (below_size (by repeat (with_reducible first | exact HB.out | apply yac | apply yab | apply yad | refine yae ?_ (Aside0.out ‹_›)))) : w.heap.size ≤ b3)); replace HB := yaa (below_step (by repeat (with_reducible first | exact HB.out | apply yac | apply yab | apply yad | refine yae ?_ (Aside0.out ‹_›))) hb); have b8 := b5; have a9 := yaa ((by rw [hg]; exact Nat.ne_of_lt (blk_lt (upB a8.out)) : b2 ≠ b3)); replace a8 := yaa (blk_below (upB a8.out) hb); have b1 := yaa a9.out.symm; clear hb hbox hg; have o4 := a9.out; have o5 := b1.out; obtain ⟨c2, c5, c8, c9⟩ := cc4_ a8.out; obtain ⟨d0, d1, d2, d3⟩ := cf4_ a8.out; obtain ⟨d4, d5, d6, d7⟩ := cc4_ b0.out; obtain ⟨d8, d9, e0⟩ := cf3_ b0.out; have e1 := blk_frozen b0.out 3) | ((with_reducible refine gc_ 74 rfl ?_); refine gl_ (some 19) rfl Try.func74 #[.slice A0_2 l0_2.length c0_2, .slice A1_2 l1_2.length c1_2] ?_; (with_reducible refine (laws_eqOpOpS.calls k _ _ l0_2 _ _ l1_2 true _ ?side1 ?side2 ?side3 ?side4 A5.out).mono ?_); (case side1 => repeat (first | exact (Kd.C_below HR0_2.out HB.out) | (with_reducible refine Kd.C_alloc ?_ _) | (with_reducible refine Kd.C_drewN ?_ _) | (with_reducible refine Kd.C_drew ?_))); (case side2 => exact HC0_2.out); (case side3 => repeat (first | exact (Kd.C_below HR1_2.out HB.out) | (with_reducible refine Kd.C_alloc ?_ _) | (with_reducible refine Kd.C_drewN ?_ _) | (with_reducible refine Kd.C_drew ?_))); (case side4 => exact HC1_2.out); rintro e w13 ⟨rfl, hb⟩; refine ⟨_, rfl, ?_⟩; replace a8 := yaa (blk_below (upB a8.out) hb); replace b0 := yaa (blk_below (upB b0.out) hb); replace HB := yaa (below_step (by repeat (with_reducible first | exact HB.out | apply yac | apply yab | apply yad | refine yae ?_ (Aside0.out ‹_›))) hb); (try clear hb); obtain ⟨e2, e3, e4, e5⟩ := cc4_ a8.out; obtain ⟨e6, e7, e8, e9⟩ := cf4_ a8.out; obtain ⟨f0, f1, f2, f3⟩ := cc4_ b0.out; obtain ⟨f4, f5, f6⟩ := cf3_ b0.out; have f7 := blk_frozen b0.out 3))
     go_ret
     exact ⟨by first | rfl | (simp [*, errW_none, errW_some] <;> rfl), by repeat (with_reducible first | exact HB.out | apply yac | apply yab | apply yad | refine yae ?_ (Aside0.out ‹_›))⟩
    ·
     rw [if_neg c7] at H
     have o2 := beq_eq_false_iff_ne.mpr c7; have o3 := bne_iff_ne.mpr c7; obtain rfl := Option.some.inj H
     go_enter Try.func130, Try.ntmps130
     go_wp2_with (first | ((with_reducible refine gd_ 2 rfl ?_); refine bx_ 2 rfl #[.int .i64 a0_0, .string a0_1, .slice A0_2 l0_2.length c0_2, .int .i64 a0_3] 124 ?_; intro b2 hg w16 hbox hb; have a8 := yaa (hbox); have b4 := yaa ((by rw [hg]; exact (below_size (upH HB.out)) : w.heap.size ≤ b2)); replace HB := yaa (below_step (upH HB.out) hb); have b7 := b4; clear hb hbox hg) | ((with_reducible refine gd_ 3 rfl ?_); refine bx_ 3 rfl #[.int .i64 a1_0, .string a1_1, .slice A1_2 l1_2.length c1_2, .int .i64 a1_3] 124 ?_; intro b3 hg w17 hbox hb; have b0 := yaa (hbox); have b5 := yaa ((by rw [hg]; exact (below_size (by repeat (with_reducible first | exact HB.out | apply yac | apply yab | apply yad | refine yae ?_ (Aside0.out ‹_›)))) : w.heap.size ≤ b3)); replace HB := yaa (below_step (by repeat (with_reducible first | exact HB.out | apply yac | apply yab | apply yad | refine yae ?_ (Aside0.out ‹_›))) hb); have b8 := b5; have a9 := yaa ((by rw [hg]; exact Nat.ne_of_lt (blk_lt (upB a8.out)) : b2 ≠ b3)); replace a8 := yaa (blk_below (upB a8.out) hb); have b1 := yaa a9.out.symm; clear hb hbox hg; have o6 := a9.out; have o7 := b1.out; obtain ⟨f8, f9, g0, g1⟩ := cc4_ a8.out; obtain ⟨g2, g3, g4, g5⟩ := cf4_ a8.out; obtain ⟨g6, g7, g8, g9⟩ := cc4_ b0.out; obtain ⟨h0, h1, h2⟩ := cf3_ b0.out; have h3 := blk_frozen b0.out 3) | ((with_reducible refine gc_ 74 rfl ?_); refine gl_ (some 19) rfl Try.func74 #[.slice A0_2 l0_2.length c0_2, .slice A1_2 l1_2.length c1_2] ?_; (with_reducible refine (laws_eqOpOpS.calls k _ _ l0_2 _ _ l1_2 true _ ?side1 ?side2 ?side3 ?side4 A5.out).mono ?_); (case side1 => repeat (first | exact (Kd.C_below HR0_2.out HB.out) | (with_reducible refine Kd.C_alloc ?_ _) | (with_reducible refine Kd.C_drewN ?_ _) | (with_reducible refine Kd.C_drew ?_))); (case side2 => exact HC0_2.out); (case side3 => repeat (first | exact (Kd.C_below HR1_2.out HB.out) | (with_reducible refine Kd.C_alloc ?_ _) | (with_reducible refine Kd.C_drewN ?_ _) | (with_reducible refine Kd.C_drew ?_))); (case side4 => exact HC1_2.out); rintro e w21 ⟨rfl, hb⟩; refine ⟨_, rfl, ?_⟩; replace a8 := yaa (blk_below (upB a8.out) hb); replace b0 := yaa (blk_below (upB b0.out) hb); replace HB := yaa (below_step (by repeat (with_reducible first | exact HB.out | apply yac | apply yab | apply yad | refine yae ?_ (Aside0.out ‹_›))) hb); (try clear hb); obtain ⟨h4, h5, h6, h7⟩ := cc4_ a8.out; obtain ⟨h8, h9, i0, i1⟩ := cf4_ a8.out; obtain ⟨i2, i3, i4, i5⟩ := cc4_ b0.out; obtain ⟨i6, i7, i8⟩ := cf3_ b0.out; have i9 := blk_frozen b0.out 3))
     go_ret
     exact ⟨by first | rfl | (simp [*, errW_none, errW_some] <;> rfl), by repeat (with_reducible first | exact HB.out | apply yac | apply yab | apply yad | refine yae ?_ (Aside0.out ‹_›))⟩
   ·
    replace c6 := Bool.eq_false_iff.mpr c6
    subst c6
    rw [if_neg (show ¬ (false = true) by decide)] at H
    obtain rfl := Option.some.inj H
    go_enter Try.func130, Try.ntmps130
    go_wp2_with (first | ((with_reducible refine gd_ 2 rfl ?_); refine bx_ 2 rfl #[.int .i64 a0_0, .string a0_1, .slice A0_2 l0_2.length c0_2, .int .i64 a0_3] 124 ?_; intro b2 hg w24 hbox hb; have a8 := yaa (hbox); have b4 := yaa ((by rw [hg]; exact (below_size (upH HB.out)) : w.heap.size ≤ b2)); replace HB := yaa (below_step (upH HB.out) hb); have b7 := b4; clear hb hbox hg) | ((with_reducible refine gd_ 3 rfl ?_); refine bx_ 3 rfl #[.int .i64 a1_0, .string a1_1, .slice A1_2 l1_2.length c1_2, .int .i64 a1_3] 124 ?_; intro b3 hg w25 hbox hb; have b0 := yaa (hbox); have b5 := yaa ((by rw [hg]; exact (below_size (by repeat (with_reducible first | exact HB.out | apply yac | apply yab | apply yad | refine yae ?_ (Aside0.out ‹_›)))) : w.heap.size ≤ b3)); replace HB := yaa (below_step (by repeat (with_reducible first | exact HB.out | apply yac | apply yab | apply yad | refine yae ?_ (Aside0.out ‹_›))) hb); have b8 := b5; have a9 := yaa ((by rw [hg]; exact Nat.ne_of_lt (blk_lt (upB a8.out)) : b2 ≠ b3)); replace a8 := yaa (blk_below (upB a8.out) hb); have b1 := yaa a9.out.symm; clear hb hbox hg; have o8 := a9.out; have o9 := b1.out; obtain ⟨j0, j1, j2, j3⟩ := cc4_ a8.out; obtain ⟨j4, j5, j6, j7⟩ := cf4_ a8.out; obtain ⟨j8, j9, k0, k1⟩ := cc4_ b0.out; obtain ⟨k2, k3, k4⟩ := cf3_ b0.out; have k5 := blk_frozen b0.out 3) | ((with_reducible refine gc_ 74 rfl ?_); refine gl_ (some 19) rfl Try.func74 #[.slice A0_2 l0_2.length c0_2, .slice A1_2 l1_2.length c1_2] ?_; (with_reducible refine (laws_eqOpOpS.calls k _ _ l0_2 _ _ l1_2 false _ ?side1 ?side2 ?side3 ?side4 A5.out).mono ?_); (case side1 => repeat (first | exact (Kd.C_below HR0_2.out HB.out) | (with_reducible refine Kd.C_alloc ?_ _) | (with_reducible refine Kd.C_drewN ?_ _) | (with_reducible refine Kd.C_drew ?_))); (case side2 => exact HC0_2.out); (case side3 => repeat (first | exact (Kd.C_below HR1_2.out HB.out) | (with_reducible refine Kd.C_alloc ?_ _) | (with_reducible refine Kd.C_drewN ?_ _) | (with_reducible refine Kd.C_drew ?_))); (case side4 => exact HC1_2.out); rintro e w29 ⟨rfl, hb⟩; refine ⟨_, rfl, ?_⟩; replace a8 := yaa (blk_below (upB a8.out) hb); replace b0 := yaa (blk_below (upB b0.out) hb); replace HB := yaa (below_step (by repeat (with_reducible first | exact HB.out | apply yac | apply yab | apply yad | refine yae ?_ (Aside0.out ‹_›))) hb); (try clear hb)))
    go_ret
    exact ⟨by first | rfl | (simp [*, errW_none, errW_some] <;> rfl), by repeat (with_reducible first | exact HB.out | apply yac | apply yab | apply yad | refine yae ?_ (Aside0.out ‹_›))⟩
  ·
   rw [if_neg c4] at H
   have o0 := beq_eq_false_iff_ne.mpr c4; have o1 := bne_iff_ne.mpr c4; obtain rfl := Option.some.inj H
   go_enter Try.func130, Try.ntmps130
   go_wp2_with (first | ((with_reducible refine gd_ 2 rfl ?_); refine bx_ 2 rfl #[.int .i64 a0_0, .string a0_1, .slice A0_2 l0_2.length c0_2, .int .i64 a0_3] 124 ?_; intro b2 hg w30 hbox hb; have a8 := yaa (hbox); have b4 := yaa ((by rw [hg]; exact (below_size (upH HB.out)) : w.heap.size ≤ b2)); replace HB := yaa (below_step (upH HB.out) hb); have b7 := b4; clear hb hbox hg) | ((with_reducible refine gd_ 3 rfl ?_); refine bx_ 3 rfl #[.int .i64 a1_0, .string a1_1, .slice A1_2 l1_2.length c1_2, .int .i64 a1_3] 124 ?_; intro b3 hg w31 hbox hb; have b0 := yaa (hbox); have b5 := yaa ((by rw [hg]; exact (below_size (by repeat (with_reducible first | exact HB.out | apply yac | apply yab | apply yad | refine yae ?_ (Aside0.out ‹_›)))) : w.heap.size ≤ b3)); replace HB := yaa (below_step (by repeat (with_reducible first | exact HB.out | apply yac | apply yab | apply yad | refine yae ?_ (Aside0.out ‹_›))) hb); have b8 := b5; have a9 := yaa ((by rw [hg]; exact Nat.ne_of_lt (blk_lt (upB a8.out)) : b2 ≠ b3)); replace a8 := yaa (blk_below (upB a8.out) hb); have b1 := yaa a9.out.symm; clear hb hbox hg; have p0 := a9.out; have p1 := b1.out; obtain ⟨k6, k7, k8, k9⟩ := cc4_ a8.out; obtain ⟨l0, l1, l2, l3⟩ := cf4_ a8.out; obtain ⟨l4, l5, l6, l7⟩ := cc4_ b0.out; obtain ⟨l8, l9, m0⟩ := cf3_ b0.out; have m1 := blk_frozen b0.out 3))
   go_ret
   exact ⟨by first | rfl | (simp [*, errW_none, errW_some] <;> rfl), by repeat (with_reducible first | exact HB.out | apply yac | apply yab | apply yad | refine yae ?_ (Aside0.out ‹_›))⟩
 ·
  rw [if_neg c3] at H
  have n8 := beq_eq_false_iff_ne.mpr c3; have n9 := bne_iff_ne.mpr c3; obtain rfl := Option.some.inj H
  go_enter Try.func130, Try.ntmps130
  go_wp2_with (first | ((with_reducible refine gd_ 2 rfl ?_); refine bx_ 2 rfl #[.int .i64 a0_0, .string a0_1, .slice A0_2 l0_2.length c0_2, .int .i64 a0_3] 124 ?_; intro b2 hg w35 hbox hb; have a8 := yaa (hbox); have b4 := yaa ((by rw [hg]; exact (below_size (upH HB.out)) : w.heap.size ≤ b2)); replace HB := yaa (below_step (upH HB.out) hb); have b7 := b4; clear hb hbox hg) | ((with_reducible refine gd_ 3 rfl ?_); refine bx_ 3 rfl #[.int .i64 a1_0, .string a1_1, .slice A1_2 l1_2.length c1_2, .int .i64 a1_3] 124 ?_; intro b3 hg w36 hbox hb; have b0 := yaa (hbox); have b5 := yaa ((by rw [hg]; exact (below_size (by repeat (with_reducible first | exact HB.out | apply yac | apply yab | apply yad | refine yae ?_ (Aside0.out ‹_›)))) : w.heap.size ≤ b3)); replace HB := yaa (below_step (by repeat (with_reducible first | exact HB.out | apply yac | apply yab | apply yad | refine yae ?_ (Aside0.out ‹_›))) hb); have b8 := b5; have a9 := yaa ((by rw [hg]; exact Nat.ne_of_lt (blk_lt (upB a8.out)) : b2 ≠ b3)); replace a8 := yaa (blk_below (upB a8.out) hb); have b1 := yaa a9.out.symm; clear hb hbox hg; have p2 := a9.out; have p3 := b1.out; obtain ⟨m2, m3, m4, m5⟩ := cc4_ a8.out; obtain ⟨m6, m7, m8, m9⟩ := cf4_ a8.out; obtain ⟨n0, n1, n2, n3⟩ := cc4_ b0.out; obtain ⟨n4, n5, n6⟩ := cf3_ b0.out; have n7 := blk_frozen b0.out 3))
  go_ret
  exact ⟨by first | rfl | (simp [*, errW_none, errW_some] <;> rfl), by repeat (with_reducible first | exact HB.out | apply yac | apply yab | apply yad | refine yae ?_ (Aside0.out ‹_›))⟩
end
section
open Go.Proofs.Ytgpkkkmapgnhkaa.X renaming rd_T124 → yaa
open Go.Proofs.YtgpkkkmapgnhkaaW.PrintWords.Aside0 renaming mk → yab

abbrev q92_0 : Array Bool := #[false, false, false, false, false, false, false, false, false, false]
abbrev q92_1 : Array Bool := #[true, false, false, false, false, false, false, false, false, false]
abbrev q92_2 : Array Bool := #[true, true, false, false, false, false, false, false, false, false]
abbrev q92_3 : Array Bool := #[true, true, true, false, false, false, false, false, false, false]
abbrev q92_4 : Array Bool := #[true, true, true, false, true, false, false, false, false, false]
abbrev q92_5 : Array Bool := #[true, true, true, false, true, true, false, false, false, false]
abbrev q92_6 : Array Bool := #[true, true, true, false, true, true, true, false, false, false]
abbrev q92_7 : Array Bool := #[true, true, true, true, true, true, true, false, false, false]
abbrev q92_8 : Array Bool := #[true, true, true, true, true, true, true, true, false, false]
abbrev q92_9 : Array Bool := #[true, true, true, true, true, true, true, true, true, false]
abbrev q92_10 : Array Bool := #[true, true, true, true, true, true, true, true, true, true]
def laws_eqTenJobS.l0 : Nat → List (S124) → List (S124) → Int → Option (Bool)
 | 0, _, _, _ => none
 | k + 1, x0, x1, x5 => if x5 < (x0.length : Int) then (if 0 ≤ x5 then (if x5 < (x1.length : Int) then ((laws_eqTenJob.f k ((rd_T124 x0 x5).f0) ((rd_T124 x0 x5).f1) ((rd_T124 x0 x5).f2) ((rd_T124 x0 x5).f3) ((rd_T124 x1 x5).f0) ((rd_T124 x1 x5).f1) ((rd_T124 x1 x5).f2) ((rd_T124 x1 x5).f3)).bind fun t103 => (if t103 = true then (laws_eqTenJobS.l0 k x0 x1 (wrap64 (x5 + 1))) else (some false))) else (none)) else (none)) else (some true)
def laws_eqTenJobS.f (k : Nat) (l0 : List (S124)) (l1 : List (S124)) : Option (Bool) := if (l0.length : Int) = (l1.length : Int) then (laws_eqTenJobS.l0 k l0 l1 0) else (some false)
def laws_eqTenJobS.T6 : Bool × List (List Nat × List Nat) := (true, [([], []), ([], []), ([0, 1], [0, 1]), ([2], [2]), ([], []), ([], []), ([4, 5], [4, 5]), ([6], [6]), ([3, 7], [3, 7]), ([8], [8])])
def laws_eqTenJobS.B6 : List Nat := [0, 0, 3, 7, 0, 0, 48, 112, 255, 511]
theorem laws_eqTenJobS.tab6 : rtab .any (opsOf Try.f92 6) = laws_eqTenJobS.T6 := by kernel_rfl
theorem laws_eqTenJobS.bits6 : waitsOk laws_eqTenJobS.T6.2 laws_eqTenJobS.B6 = true := by kernel_rfl
set_option maxHeartbeats 8000000 in
set_option maxRecDepth 100000 in
theorem laws_eqTenJobS.calls (k : Nat) (A0 : Option Addr) (c0 : Nat) (l0 : List (S124)) (A1 : Option Addr) (c1 : Nat) (l1 : List (S124)) (r : Bool) (w : World) (hr0 : Kd.C k124 w A0 l0.length l0) (hc0 : l0.length ≤ c0) (hr1 : Kd.C k124 w A1 l1.length l1) (hc1 : l1.length ≤ c1) (h : laws_eqTenJobS.f k l0 l1 = some r) :
  Calls Try.prog 92 #[.slice A0 l0.length c0, .slice A1 l1.length c1] w fun e w' => e = .returned (.bool r) ∧ Below w.heap.size w w' := by
 have hu124 := Try.underlying124; have HR0 := yab hr0; have HC0 := yab hc0; clear hr0 hc0; have HR1 := yab hr1; have HC1 := yab hc1; clear hr1 hc1; have HB := yab (Below.refl w.heap.size w); have H : (if (l0.length : Int) = (l1.length : Int) then (laws_eqTenJobS.l0 k l0 l1 0) else (some false)) = some r := h; clear h
 by_cases c3 : (l0.length : Int) = (l1.length : Int)
 ·
  rw [if_pos c3] at H
  have d2 := beq_iff_eq.mpr c3; have d3 := bne_eq_false_iff_eq.mpr c3
  have d4 : (l0.length == l1.length) = true := by first | simpa using c3 | (simp at c3 ⊢; omega)
  clear c3; have H' := yab H; clear H
  go_enter Try.func92, Try.ntmps92
  go_wp2
  (try simp only [Act.put, List.setIfInBounds_toArray, List.set_cons_zero, List.set_cons_succ])
  go_loopg [5] k (fun kq v5 w' => ∃ (a2 : Int), v5 = .int .i64 a2 ∧ Aside0 (laws_eqTenJobS.l0 kq l0 l1 a2 = some r) ∧ Aside0 (kq ≤ k) ∧ Aside0 (Below w.heap.size w w'))
  case atStart => exact ⟨(0), (by first | rfl | (simp; done) | (simp [*]; done)), H', ⟨Nat.le_refl _⟩, ⟨upH HB.out⟩⟩
  case round =>
   clear H'; (try clear c1); (try clear p2); (try clear c3); (try clear d2); (try clear d3); (try clear d4); obtain ⟨a2, rfl, HA, HK1, HB⟩ := hrel
   cases gk with
   | zero => exact absurd HA.out (by simp [laws_eqTenJobS.l0])
   | succ k1 =>
    have H := HA.out; clear HA
    simp only [laws_eqTenJobS.l0] at H
    by_cases c4 : a2 < (l0.length : Int)
    ·
     rw [if_pos c4] at H
     have d5 : decide (a2 < (l0.length : Int)) = true := decide_eq_true c4; clear c4
     by_cases c5 : 0 ≤ a2
     ·
      rw [if_pos c5] at H
      replace c5 := decide_eq_true c5
      by_cases c6 : a2 < (l1.length : Int)
      ·
       rw [if_pos c6] at H
       replace c6 := decide_eq_true c6; obtain ⟨d6, A7, H⟩ := bindA H; (try dsimp only at H)
       by_cases c8 : d6 = true
       ·
        subst c8
        rw [if_pos rfl] at H
        have H' := yab H; clear H
        try go_wp2
        replace HB := yab (below_drew1 HB.out)
        have p101 : 0 ≤ (a2 : Int) := of_decide_eq_true (by first | (with_reducible assumption) | assumption)
        have q101 : a2 < (l0.length : Int) := of_decide_eq_true (by first | (with_reducible assumption) | assumption)
        obtain ⟨ad101, b9, c2, d0, a3, a4, a5, a6, hl101_2, hi101_2⟩ := at_T124 HR0.out a2 p101 q101; have b1 := a6; have b2 := a5; have b3 := a4; have b4 := a3
        cases d0
        replace a3 := (HB.out.cell (World.block_lt_of_cell? w _ a3)).trans a3; replace a4 := (HB.out.cell (World.block_lt_of_cell? w _ a4)).trans a4; replace a5 := (HB.out.cell (World.block_lt_of_cell? w _ a5)).trans a5; replace a6 := (HB.out.cell (World.block_lt_of_cell? w _ a6)).trans a6; have HR101_2 := yab hi101_2; have HC101_2 := yab hl101_2; clear hi101_2 hl101_2; replace p101 := eq_true p101; replace q101 := eq_true q101
        have p102 : 0 ≤ (a2 : Int) := of_decide_eq_true (by first | (with_reducible assumption) | assumption)
        have q102 : a2 < (l1.length : Int) := of_decide_eq_true (by first | (with_reducible assumption) | assumption)
        obtain ⟨ad102, c7, c9, d1, a7, a8, a9, b0, hl102_2, hi102_2⟩ := at_T124 HR1.out a2 p102 q102; have b5 := b0; have b6 := a9; have b7 := a8; have b8 := a7
        cases d1
        replace a7 := (HB.out.cell (World.block_lt_of_cell? w _ a7)).trans a7; replace a8 := (HB.out.cell (World.block_lt_of_cell? w _ a8)).trans a8; replace a9 := (HB.out.cell (World.block_lt_of_cell? w _ a9)).trans a9; replace b0 := (HB.out.cell (World.block_lt_of_cell? w _ b0)).trans b0; have HR102_2 := yab hi102_2; have HC102_2 := yab hl102_2; clear hi102_2 hl102_2; replace p102 := eq_true p102; replace q102 := eq_true q102
        refine start_ (n := 10) (S := fun w' => w'.cell? (ad101.add ((a2).toNat * 4)) = some (.int .i64 ((yaa l0 a2).f0)) ∧ w'.cell? ⟨(ad101.add ((a2).toNat * 4)).block, (ad101.add ((a2).toNat * 4)).off + 1, none⟩ = some (.string ((yaa l0 a2).f1)) ∧ w'.cell? ⟨(ad101.add ((a2).toNat * 4)).block, (ad101.add ((a2).toNat * 4)).off + 2, none⟩ = some (.slice b9 ((yaa l0 a2).f2).length c2) ∧ w'.cell? ⟨(ad101.add ((a2).toNat * 4)).block, (ad101.add ((a2).toNat * 4)).off + 3, none⟩ = some (.int .i64 ((yaa l0 a2).f3)) ∧ w'.cell? (ad102.add ((a2).toNat * 4)) = some (.int .i64 ((yaa l1 a2).f0)) ∧ w'.cell? ⟨(ad102.add ((a2).toNat * 4)).block, (ad102.add ((a2).toNat * 4)).off + 1, none⟩ = some (.string ((yaa l1 a2).f1)) ∧ w'.cell? ⟨(ad102.add ((a2).toNat * 4)).block, (ad102.add ((a2).toNat * 4)).off + 2, none⟩ = some (.slice c7 ((yaa l1 a2).f2).length c9) ∧ w'.cell? ⟨(ad102.add ((a2).toNat * 4)).block, (ad102.add ((a2).toNat * 4)).off + 3, none⟩ = some (.int .i64 ((yaa l1 a2).f3))) (ds := []) q92_0 (by kernel_rfl) rfl rfl ⟨((HB.out.cell (World.block_lt_of_cell? w _ b4)).trans b4), ((HB.out.cell (World.block_lt_of_cell? w _ b3)).trans b3), ((HB.out.cell (World.block_lt_of_cell? w _ b2)).trans b2), ((HB.out.cell (World.block_lt_of_cell? w _ b1)).trans b1), ((HB.out.cell (World.block_lt_of_cell? w _ b8)).trans b8), ((HB.out.cell (World.block_lt_of_cell? w _ b7)).trans b7), ((HB.out.cell (World.block_lt_of_cell? w _ b6)).trans b6), ((HB.out.cell (World.block_lt_of_cell? w _ b5)).trans b5)⟩ (fun hHeld => ?_); refine with_tabW laws_eqTenJobS.tab6 laws_eqTenJobS.bits6 (fun HT_ HW_ => ?_)
        generalize wr.drew = w9 at HB HR101_2 HR102_2 a3 a4 a5 a6 a7 a8 a9 b0 hHeld ⊢
        refine pz_ 0 17 q92_1 HT_ (by kernel_rfl) ?_
        refine pz_ 1 18 q92_2 HT_ (by kernel_rfl) ?_
        refine pz_ 2 19 q92_3 HT_ (by kernel_rfl) ?_
        refine pz_ 4 21 q92_4 HT_ (by kernel_rfl) ?_
        refine pz_ 5 22 q92_5 HT_ (by kernel_rfl) ?_
        refine pz_ 6 23 q92_6 HT_ (by kernel_rfl) ?_
        refine tz_ 3 20 q92_7 HT_ HW_ (by kernel_rfl) hHeld ?_
        refine tz_ 7 24 q92_8 HT_ HW_ (by kernel_rfl) hHeld ?_
        refine one_ (i := 8) (N := some 25) q92_9 rfl rfl (one_of HT_.out (by kernel_rfl)) (by decide) (fun K hK => ?_)
        refine goes_ Try.func130 (by kernel_rfl) rfl #[.agg #[.int .i64 ((yaa l0 a2).f0), .string ((yaa l0 a2).f1), .slice b9 ((yaa l0 a2).f2).length c2, .int .i64 ((yaa l0 a2).f3)], .agg #[.int .i64 ((yaa l1 a2).f0), .string ((yaa l1 a2).f1), .slice c7 ((yaa l1 a2).f2).length c9, .int .i64 ((yaa l1 a2).f3)]] (by rfl) rfl rfl (by (try simp only [List.map_toArray, List.map_cons, List.map_nil]); first | done | rfl | (simp only [List.length_drop, List.length_take]; rfl)) ?_
        with_reducible refine (laws_eqTenJob.calls k1 ((yaa l0 a2).f0) ((yaa l0 a2).f1) _ _ ((yaa l0 a2).f2) ((yaa l0 a2).f3) ((yaa l1 a2).f0) ((yaa l1 a2).f1) _ _ ((yaa l1 a2).f2) ((yaa l1 a2).f3) true _ ?side1 ?side2 ?side3 ?side4 A7.out).mono ?_
        (case side1 => repeat (first | exact (Kd.C_below HR101_2.out HB.out) | (with_reducible refine Kd.C_alloc ?_ _) | (with_reducible refine Kd.C_drewN ?_ _) | (with_reducible refine Kd.C_drew ?_)))
        (case side2 => exact HC101_2.out)
        (case side3 => repeat (first | exact (Kd.C_below HR102_2.out HB.out) | (with_reducible refine Kd.C_alloc ?_ _) | (with_reducible refine Kd.C_drewN ?_ _) | (with_reducible refine Kd.C_drew ?_)))
        (case side4 => exact HC102_2.out)
        rintro e w10 ⟨rfl, hb⟩; refine ⟨_, rfl, ?_⟩; replace HB := yab (below_step (upH HB.out) hb); (try clear hb); (try clear hb2); (try clear hk); (try clear hi)
        refine hK.out _ _ ⟨((HB.out.cell (World.block_lt_of_cell? w _ b4)).trans b4), ((HB.out.cell (World.block_lt_of_cell? w _ b3)).trans b3), ((HB.out.cell (World.block_lt_of_cell? w _ b2)).trans b2), ((HB.out.cell (World.block_lt_of_cell? w _ b1)).trans b1), ((HB.out.cell (World.block_lt_of_cell? w _ b8)).trans b8), ((HB.out.cell (World.block_lt_of_cell? w _ b7)).trans b7), ((HB.out.cell (World.block_lt_of_cell? w _ b6)).trans b6), ((HB.out.cell (World.block_lt_of_cell? w _ b5)).trans b5)⟩ (fun hHeld => ?_)
        clear hK K
        refine norm_ (a' := ?_) ?_ ?_
        rotate_left
        ·
         show Act.put _ (some 25) _ = _
         simp only [Act.put, List.setIfInBounds_toArray, List.set_cons_zero, List.set_cons_succ, i64_w, i32_w]
         rfl
        refine pz_ 9 26 q92_10 HT_ (by kernel_rfl) ?_
        refine done_ (done_of HT_.out (by kernel_rfl)) ?_
        try go_wp2
        go_roundg k1
        case measure => have := HK1.out; omega
        case rel => exact ⟨(wrap64 (a2 + 1)), (by first | rfl | (simp; done) | (simp [*]; done)), H', ⟨by have := HK1.out; omega⟩, ⟨upH HB.out⟩⟩
       ·
        replace c8 := Bool.eq_false_iff.mpr c8
        subst c8
        rw [if_neg (show ¬ (false = true) by decide)] at H
        obtain rfl := Option.some.inj H
        try go_wp2
        replace HB := yab (below_drew1 HB.out)
        have p101 : 0 ≤ (a2 : Int) := of_decide_eq_true (by first | (with_reducible assumption) | assumption)
        have q101 : a2 < (l0.length : Int) := of_decide_eq_true (by first | (with_reducible assumption) | assumption)
        obtain ⟨ad101, b9, c2, d0, a3, a4, a5, a6, hl101_2, hi101_2⟩ := at_T124 HR0.out a2 p101 q101; have b1 := a6; have b2 := a5; have b3 := a4; have b4 := a3
        cases d0
        replace a3 := (HB.out.cell (World.block_lt_of_cell? w _ a3)).trans a3; replace a4 := (HB.out.cell (World.block_lt_of_cell? w _ a4)).trans a4; replace a5 := (HB.out.cell (World.block_lt_of_cell? w _ a5)).trans a5; replace a6 := (HB.out.cell (World.block_lt_of_cell? w _ a6)).trans a6; have HR101_2 := yab hi101_2; have HC101_2 := yab hl101_2; clear hi101_2 hl101_2; replace p101 := eq_true p101; replace q101 := eq_true q101
        have p102 : 0 ≤ (a2 : Int) := of_decide_eq_true (by first | (with_reducible assumption) | assumption)
        have q102 : a2 < (l1.length : Int) := of_decide_eq_true (by first | (with_reducible assumption) | assumption)
        obtain ⟨ad102, c7, c9, d1, a7, a8, a9, b0, hl102_2, hi102_2⟩ := at_T124 HR1.out a2 p102 q102; have b5 := b0; have b6 := a9; have b7 := a8; have b8 := a7
        cases d1
        replace a7 := (HB.out.cell (World.block_lt_of_cell? w _ a7)).trans a7; replace a8 := (HB.out.cell (World.block_lt_of_cell? w _ a8)).trans a8; replace a9 := (HB.out.cell (World.block_lt_of_cell? w _ a9)).trans a9; replace b0 := (HB.out.cell (World.block_lt_of_cell? w _ b0)).trans b0; have HR102_2 := yab hi102_2; have HC102_2 := yab hl102_2; clear hi102_2 hl102_2; replace p102 := eq_true p102; replace q102 := eq_true q102
        refine start_ (n := 10) (S := fun w' => w'.cell? (ad101.add ((a2).toNat * 4)) = some (.int .i64 ((yaa l0 a2).f0)) ∧ w'.cell? ⟨(ad101.add ((a2).toNat * 4)).block, (ad101.add ((a2).toNat * 4)).off + 1, none⟩ = some (.string ((yaa l0 a2).f1)) ∧ w'.cell? ⟨(ad101.add ((a2).toNat * 4)).block, (ad101.add ((a2).toNat * 4)).off + 2, none⟩ = some (.slice b9 ((yaa l0 a2).f2).length c2) ∧ w'.cell? ⟨(ad101.add ((a2).toNat * 4)).block, (ad101.add ((a2).toNat * 4)).off + 3, none⟩ = some (.int .i64 ((yaa l0 a2).f3)) ∧ w'.cell? (ad102.add ((a2).toNat * 4)) = some (.int .i64 ((yaa l1 a2).f0)) ∧ w'.cell? ⟨(ad102.add ((a2).toNat * 4)).block, (ad102.add ((a2).toNat * 4)).off + 1, none⟩ = some (.string ((yaa l1 a2).f1)) ∧ w'.cell? ⟨(ad102.add ((a2).toNat * 4)).block, (ad102.add ((a2).toNat * 4)).off + 2, none⟩ = some (.slice c7 ((yaa l1 a2).f2).length c9) ∧ w'.cell? ⟨(ad102.add ((a2).toNat * 4)).block, (ad102.add ((a2).toNat * 4)).off + 3, none⟩ = some (.int .i64 ((yaa l1 a2).f3))) (ds := []) q92_0 (by kernel_rfl) rfl rfl ⟨((HB.out.cell (World.block_lt_of_cell? w _ b4)).trans b4), ((HB.out.cell (World.block_lt_of_cell? w _ b3)).trans b3), ((HB.out.cell (World.block_lt_of_cell? w _ b2)).trans b2), ((HB.out.cell (World.block_lt_of_cell? w _ b1)).trans b1), ((HB.out.cell (World.block_lt_of_cell? w _ b8)).trans b8), ((HB.out.cell (World.block_lt_of_cell? w _ b7)).trans b7), ((HB.out.cell (World.block_lt_of_cell? w _ b6)).trans b6), ((HB.out.cell (World.block_lt_of_cell? w _ b5)).trans b5)⟩ (fun hHeld => ?_); refine with_tabW laws_eqTenJobS.tab6 laws_eqTenJobS.bits6 (fun HT_ HW_ => ?_)
        generalize wr.drew = w11 at HB HR101_2 HR102_2 a3 a4 a5 a6 a7 a8 a9 b0 hHeld ⊢
        refine pz_ 0 17 q92_1 HT_ (by kernel_rfl) ?_
        refine pz_ 1 18 q92_2 HT_ (by kernel_rfl) ?_
        refine pz_ 2 19 q92_3 HT_ (by kernel_rfl) ?_
        refine pz_ 4 21 q92_4 HT_ (by kernel_rfl) ?_
        refine pz_ 5 22 q92_5 HT_ (by kernel_rfl) ?_
        refine pz_ 6 23 q92_6 HT_ (by kernel_rfl) ?_
        refine tz_ 3 20 q92_7 HT_ HW_ (by kernel_rfl) hHeld ?_
        refine tz_ 7 24 q92_8 HT_ HW_ (by kernel_rfl) hHeld ?_
        refine one_ (i := 8) (N := some 25) q92_9 rfl rfl (one_of HT_.out (by kernel_rfl)) (by decide) (fun K hK => ?_)
        refine goes_ Try.func130 (by kernel_rfl) rfl #[.agg #[.int .i64 ((yaa l0 a2).f0), .string ((yaa l0 a2).f1), .slice b9 ((yaa l0 a2).f2).length c2, .int .i64 ((yaa l0 a2).f3)], .agg #[.int .i64 ((yaa l1 a2).f0), .string ((yaa l1 a2).f1), .slice c7 ((yaa l1 a2).f2).length c9, .int .i64 ((yaa l1 a2).f3)]] (by rfl) rfl rfl (by (try simp only [List.map_toArray, List.map_cons, List.map_nil]); first | done | rfl | (simp only [List.length_drop, List.length_take]; rfl)) ?_
        with_reducible refine (laws_eqTenJob.calls k1 ((yaa l0 a2).f0) ((yaa l0 a2).f1) _ _ ((yaa l0 a2).f2) ((yaa l0 a2).f3) ((yaa l1 a2).f0) ((yaa l1 a2).f1) _ _ ((yaa l1 a2).f2) ((yaa l1 a2).f3) false _ ?side1 ?side2 ?side3 ?side4 A7.out).mono ?_
        (case side1 => repeat (first | exact (Kd.C_below HR101_2.out HB.out) | (with_reducible refine Kd.C_alloc ?_ _) | (with_reducible refine Kd.C_drewN ?_ _) | (with_reducible refine Kd.C_drew ?_)))
        (case side2 => exact HC101_2.out)
        (case side3 => repeat (first | exact (Kd.C_below HR102_2.out HB.out) | (with_reducible refine Kd.C_alloc ?_ _) | (with_reducible refine Kd.C_drewN ?_ _) | (with_reducible refine Kd.C_drew ?_)))
        (case side4 => exact HC102_2.out)
        rintro e w12 ⟨rfl, hb⟩; refine ⟨_, rfl, ?_⟩; replace HB := yab (below_step (upH HB.out) hb); (try clear hb); (try clear hb2); (try clear hk); (try clear hi)
        refine hK.out _ _ ⟨((HB.out.cell (World.block_lt_of_cell? w _ b4)).trans b4), ((HB.out.cell (World.block_lt_of_cell? w _ b3)).trans b3), ((HB.out.cell (World.block_lt_of_cell? w _ b2)).trans b2), ((HB.out.cell (World.block_lt_of_cell? w _ b1)).trans b1), ((HB.out.cell (World.block_lt_of_cell? w _ b8)).trans b8), ((HB.out.cell (World.block_lt_of_cell? w _ b7)).trans b7), ((HB.out.cell (World.block_lt_of_cell? w _ b6)).trans b6), ((HB.out.cell (World.block_lt_of_cell? w _ b5)).trans b5)⟩ (fun hHeld => ?_)
        clear hK K
        refine norm_ (a' := ?_) ?_ ?_
        rotate_left
        ·
         show Act.put _ (some 25) _ = _
         simp only [Act.put, List.setIfInBounds_toArray, List.set_cons_zero, List.set_cons_succ, i64_w, i32_w]
         rfl
        refine pz_ 9 26 q92_10 HT_ (by kernel_rfl) ?_
        refine done_ (done_of HT_.out (by kernel_rfl)) ?_
        try go_wp2
        go_ret
        exact ⟨by first | rfl | (simp [*, errW_none, errW_some] <;> rfl), upH HB.out⟩
      ·
       rw [if_neg c6] at H
       exact absurd H (by simp)
     ·
      rw [if_neg c5] at H
      exact absurd H (by simp)
    ·
     rw [if_neg c4] at H
     have d5 : decide (a2 < (l0.length : Int)) = false := decide_eq_false c4; clear c4; obtain rfl := Option.some.inj H
     go_wp2
     go_ret
     exact ⟨by first | rfl | (simp [*, errW_none, errW_some] <;> rfl), upH HB.out⟩
 ·
  rw [if_neg c3] at H
  have d2 := beq_eq_false_iff_ne.mpr c3; have d3 := bne_iff_ne.mpr c3
  have d4 : (l0.length == l1.length) = false := by first | simpa using c3 | (simp at c3 ⊢; omega)
  obtain rfl := Option.some.inj H
  go_enter Try.func92, Try.ntmps92
  go_wp2
  go_ret
  exact ⟨by first | rfl | (simp [*, errW_none, errW_some] <;> rfl), upH HB.out⟩
end
section
open Go.Proofs.YtgpkkkmapgnhkaaW.PrintWords.Aside0 renaming mk → yaa
open Go.Proofs.YtgpkkkmapgnhkaaW.PrintWords renaming pw_below_drewN → yab

def laws_eqTenFile.f (k : Nat) (a0_0 : ByteArray) (a0_1 : Int) (l0_2 : List Int) (a1_0 : ByteArray) (a1_1 : Int) (l1_2 : List Int) : Option (Bool) := if a0_0.toList = a1_0.toList then (if a0_1 = a1_1 then ((laws_eqByteS.f k l0_2 l1_2).bind fun t103 => (if t103 = true then (some true) else (some false))) else (some false)) else (some false)
set_option maxHeartbeats 8000000 in
set_option maxRecDepth 100000 in
theorem laws_eqTenFile.calls (k : Nat) (a0_0 : ByteArray) (a0_1 : Int) (A0_2 : Option Addr) (c0_2 : Nat) (l0_2 : List Int) (a1_0 : ByteArray) (a1_1 : Int) (A1_2 : Option Addr) (c1_2 : Nat) (l1_2 : List Int) (r : Bool) (w : World) (hr0_2 : Kd.C (Kd.int .u8) w A0_2 l0_2.length l0_2) (hc0_2 : l0_2.length ≤ c0_2) (hr1_2 : Kd.C (Kd.int .u8) w A1_2 l1_2.length l1_2) (hc1_2 : l1_2.length ≤ c1_2) (h : laws_eqTenFile.f k a0_0 a0_1 l0_2 a1_0 a1_1 l1_2 = some r) :
  Calls Try.prog 131 #[.agg #[.string a0_0, .int .i64 a0_1, .slice A0_2 l0_2.length c0_2], .agg #[.string a1_0, .int .i64 a1_1, .slice A1_2 l1_2.length c1_2]] w fun e w' => e = .returned (.bool r) ∧ Below w.heap.size w w' := by
 have hu156 := Try.underlying156; have HR0_2 := yaa hr0_2; have HC0_2 := yaa hc0_2; clear hr0_2 hc0_2; have HR1_2 := yaa hr1_2; have HC1_2 := yaa hc1_2; clear hr1_2 hc1_2; have HB := yaa (Below.refl w.heap.size w); have H : (if a0_0.toList = a1_0.toList then (if a0_1 = a1_1 then ((laws_eqByteS.f k l0_2 l1_2).bind fun b7 => (if b7 = true then (some true) else (some false))) else (some false)) else (some false)) = some r := h; clear h
 by_cases c3 : a0_0.toList = a1_0.toList
 ·
  rw [if_pos c3] at H
  have h1 := beq_iff_eq.mpr c3; have h2 := bne_eq_false_iff_eq.mpr c3; clear c3
  by_cases c4 : a0_1 = a1_1
  ·
   rw [if_pos c4] at H
   have h3 := beq_iff_eq.mpr c4; have h4 := bne_eq_false_iff_eq.mpr c4; clear c4; obtain ⟨b7, A5, H⟩ := bindA H; (try dsimp only at H)
   by_cases c6 : b7 = true
   ·
    subst c6
    rw [if_pos rfl] at H
    obtain rfl := Option.some.inj H
    go_enter Try.func131, Try.ntmps131
    go_wp2_with (first | ((with_reducible refine gd_ 2 rfl ?_); refine bx_ 2 rfl #[.string a0_0, .int .i64 a0_1, .slice A0_2 l0_2.length c0_2] 156 ?_; intro b0 hg w7 hbox hb; have a7 := yaa (hbox); have b2 := yaa ((by rw [hg]; exact (below_size (upH HB.out)) : w.heap.size ≤ b0)); replace HB := yaa (below_step (upH HB.out) hb); have b5 := b2; clear hb hbox hg) | ((with_reducible refine gd_ 3 rfl ?_); refine bx_ 3 rfl #[.string a1_0, .int .i64 a1_1, .slice A1_2 l1_2.length c1_2] 156 ?_; intro b1 hg w8 hbox hb; have a9 := yaa (hbox); have b3 := yaa ((by rw [hg]; exact (below_size (by repeat (with_reducible first | exact HB.out | apply below_alloc | apply yab | apply below_drew1 | refine below_set ?_ (Aside0.out ‹_›)))) : w.heap.size ≤ b1)); replace HB := yaa (below_step (by repeat (with_reducible first | exact HB.out | apply below_alloc | apply yab | apply below_drew1 | refine below_set ?_ (Aside0.out ‹_›))) hb); have b6 := b3; have a6 := yaa ((by rw [hg]; exact Nat.ne_of_lt (blk_lt (upB a7.out)) : b0 ≠ b1)); replace a7 := yaa (blk_below (upB a7.out) hb); have a8 := yaa a6.out.symm; clear hb hbox hg; have i1 := a6.out; have i2 := a8.out; obtain ⟨c0, c1, c2⟩ := cc3_ a7.out; obtain ⟨c5, c7, c8⟩ := cf3_ a7.out; obtain ⟨c9, d0, d1⟩ := cc3_ a9.out; obtain ⟨d2, d3⟩ := cf2_ a9.out; have d4 := blk_frozen a9.out 2) | ((with_reducible refine gc_ 67 rfl ?_); refine gl_ (some 19) rfl Try.func67 #[.slice A0_2 l0_2.length c0_2, .slice A1_2 l1_2.length c1_2] ?_; (with_reducible refine (laws_eqByteS.calls k _ _ l0_2 _ _ l1_2 true _ ?side1 ?side2 ?side3 ?side4 A5.out).mono ?_); (case side1 => repeat (first | exact (Kd.C_below HR0_2.out HB.out) | (with_reducible refine Kd.C_alloc ?_ _) | (with_reducible refine Kd.C_drewN ?_ _) | (with_reducible refine Kd.C_drew ?_))); (case side2 => exact HC0_2.out); (case side3 => repeat (first | exact (Kd.C_below HR1_2.out HB.out) | (with_reducible refine Kd.C_alloc ?_ _) | (with_reducible refine Kd.C_drewN ?_ _) | (with_reducible refine Kd.C_drew ?_))); (case side4 => exact HC1_2.out); rintro e w' ⟨rfl, ⟨nd, rfl⟩⟩; refine ⟨_, rfl, ?_⟩))
    go_ret
    exact ⟨by first | rfl | (simp [*, errW_none, errW_some] <;> rfl), by repeat (with_reducible first | exact HB.out | apply below_alloc | apply yab | apply below_drew1 | refine below_set ?_ (Aside0.out ‹_›))⟩
   ·
    replace c6 := Bool.eq_false_iff.mpr c6
    subst c6
    rw [if_neg (show ¬ (false = true) by decide)] at H
    obtain rfl := Option.some.inj H
    go_enter Try.func131, Try.ntmps131
    go_wp2_with (first | ((with_reducible refine gd_ 2 rfl ?_); refine bx_ 2 rfl #[.string a0_0, .int .i64 a0_1, .slice A0_2 l0_2.length c0_2] 156 ?_; intro b0 hg w12 hbox hb; have a7 := yaa (hbox); have b2 := yaa ((by rw [hg]; exact (below_size (upH HB.out)) : w.heap.size ≤ b0)); replace HB := yaa (below_step (upH HB.out) hb); have b5 := b2; clear hb hbox hg) | ((with_reducible refine gd_ 3 rfl ?_); refine bx_ 3 rfl #[.string a1_0, .int .i64 a1_1, .slice A1_2 l1_2.length c1_2] 156 ?_; intro b1 hg w13 hbox hb; have a9 := yaa (hbox); have b3 := yaa ((by rw [hg]; exact (below_size (by repeat (with_reducible first | exact HB.out | apply below_alloc | apply yab | apply below_drew1 | refine below_set ?_ (Aside0.out ‹_›)))) : w.heap.size ≤ b1)); replace HB := yaa (below_step (by repeat (with_reducible first | exact HB.out | apply below_alloc | apply yab | apply below_drew1 | refine below_set ?_ (Aside0.out ‹_›))) hb); have b6 := b3; have a6 := yaa ((by rw [hg]; exact Nat.ne_of_lt (blk_lt (upB a7.out)) : b0 ≠ b1)); replace a7 := yaa (blk_below (upB a7.out) hb); have a8 := yaa a6.out.symm; clear hb hbox hg; have h5 := a6.out; have h6 := a8.out; obtain ⟨d5, d6, d7⟩ := cc3_ a7.out; obtain ⟨d8, d9, e0⟩ := cf3_ a7.out; obtain ⟨e1, e2, e3⟩ := cc3_ a9.out; obtain ⟨e4, e5⟩ := cf2_ a9.out; have e6 := blk_frozen a9.out 2) | ((with_reducible refine gc_ 67 rfl ?_); refine gl_ (some 19) rfl Try.func67 #[.slice A0_2 l0_2.length c0_2, .slice A1_2 l1_2.length c1_2] ?_; (with_reducible refine (laws_eqByteS.calls k _ _ l0_2 _ _ l1_2 false _ ?side1 ?side2 ?side3 ?side4 A5.out).mono ?_); (case side1 => repeat (first | exact (Kd.C_below HR0_2.out HB.out) | (with_reducible refine Kd.C_alloc ?_ _) | (with_reducible refine Kd.C_drewN ?_ _) | (with_reducible refine Kd.C_drew ?_))); (case side2 => exact HC0_2.out); (case side3 => repeat (first | exact (Kd.C_below HR1_2.out HB.out) | (with_reducible refine Kd.C_alloc ?_ _) | (with_reducible refine Kd.C_drewN ?_ _) | (with_reducible refine Kd.C_drew ?_))); (case side4 => exact HC1_2.out); rintro e w' ⟨rfl, ⟨nd, rfl⟩⟩; refine ⟨_, rfl, ?_⟩))
    go_ret
    exact ⟨by first | rfl | (simp [*, errW_none, errW_some] <;> rfl), by repeat (with_reducible first | exact HB.out | apply below_alloc | apply yab | apply below_drew1 | refine below_set ?_ (Aside0.out ‹_›))⟩
  ·
   rw [if_neg c4] at H
   have h3 := beq_eq_false_iff_ne.mpr c4; have h4 := bne_iff_ne.mpr c4; obtain rfl := Option.some.inj H
   go_enter Try.func131, Try.ntmps131
   go_wp2_with (first | ((with_reducible refine gd_ 2 rfl ?_); refine bx_ 2 rfl #[.string a0_0, .int .i64 a0_1, .slice A0_2 l0_2.length c0_2] 156 ?_; intro b0 hg w17 hbox hb; have a7 := yaa (hbox); have b2 := yaa ((by rw [hg]; exact (below_size (upH HB.out)) : w.heap.size ≤ b0)); replace HB := yaa (below_step (upH HB.out) hb); have b5 := b2; clear hb hbox hg) | ((with_reducible refine gd_ 3 rfl ?_); refine bx_ 3 rfl #[.string a1_0, .int .i64 a1_1, .slice A1_2 l1_2.length c1_2] 156 ?_; intro b1 hg w18 hbox hb; have a9 := yaa (hbox); have b3 := yaa ((by rw [hg]; exact (below_size (by repeat (with_reducible first | exact HB.out | apply below_alloc | apply yab | apply below_drew1 | refine below_set ?_ (Aside0.out ‹_›)))) : w.heap.size ≤ b1)); replace HB := yaa (below_step (by repeat (with_reducible first | exact HB.out | apply below_alloc | apply yab | apply below_drew1 | refine below_set ?_ (Aside0.out ‹_›))) hb); have b6 := b3; have a6 := yaa ((by rw [hg]; exact Nat.ne_of_lt (blk_lt (upB a7.out)) : b0 ≠ b1)); replace a7 := yaa (blk_below (upB a7.out) hb); have a8 := yaa a6.out.symm; clear hb hbox hg; have h7 := a6.out; have h8 := a8.out; obtain ⟨e7, e8, e9⟩ := cc3_ a7.out; obtain ⟨f0, f1, f2⟩ := cf3_ a7.out; obtain ⟨f3, f4, f5⟩ := cc3_ a9.out; obtain ⟨f6, f7⟩ := cf2_ a9.out; have f8 := blk_frozen a9.out 2))
   go_ret
   exact ⟨by first | rfl | (simp [*, errW_none, errW_some] <;> rfl), by repeat (with_reducible first | exact HB.out | apply below_alloc | apply yab | apply below_drew1 | refine below_set ?_ (Aside0.out ‹_›))⟩
 ·
  rw [if_neg c3] at H
  have h1 := beq_eq_false_iff_ne.mpr c3; have h2 := bne_iff_ne.mpr c3; obtain rfl := Option.some.inj H
  go_enter Try.func131, Try.ntmps131
  go_wp2_with (first | ((with_reducible refine gd_ 2 rfl ?_); refine bx_ 2 rfl #[.string a0_0, .int .i64 a0_1, .slice A0_2 l0_2.length c0_2] 156 ?_; intro b0 hg w22 hbox hb; have a7 := yaa (hbox); have b2 := yaa ((by rw [hg]; exact (below_size (upH HB.out)) : w.heap.size ≤ b0)); replace HB := yaa (below_step (upH HB.out) hb); have b5 := b2; clear hb hbox hg) | ((with_reducible refine gd_ 3 rfl ?_); refine bx_ 3 rfl #[.string a1_0, .int .i64 a1_1, .slice A1_2 l1_2.length c1_2] 156 ?_; intro b1 hg w23 hbox hb; have a9 := yaa (hbox); have b3 := yaa ((by rw [hg]; exact (below_size (by repeat (with_reducible first | exact HB.out | apply below_alloc | apply yab | apply below_drew1 | refine below_set ?_ (Aside0.out ‹_›)))) : w.heap.size ≤ b1)); replace HB := yaa (below_step (by repeat (with_reducible first | exact HB.out | apply below_alloc | apply yab | apply below_drew1 | refine below_set ?_ (Aside0.out ‹_›))) hb); have b6 := b3; have a6 := yaa ((by rw [hg]; exact Nat.ne_of_lt (blk_lt (upB a7.out)) : b0 ≠ b1)); replace a7 := yaa (blk_below (upB a7.out) hb); have a8 := yaa a6.out.symm; clear hb hbox hg; have h9 := a6.out; have i0 := a8.out; obtain ⟨f9, g0, g1⟩ := cc3_ a7.out; obtain ⟨g2, g3, g4⟩ := cf3_ a7.out; obtain ⟨g5, g6, g7⟩ := cc3_ a9.out; obtain ⟨g8, g9⟩ := cf2_ a9.out; have h0 := blk_frozen a9.out 2))
  go_ret
  exact ⟨by first | rfl | (simp [*, errW_none, errW_some] <;> rfl), by repeat (with_reducible first | exact HB.out | apply below_alloc | apply yab | apply below_drew1 | refine below_set ?_ (Aside0.out ‹_›))⟩
end
section
open Go.Proofs.Ytgpkkkmapgnhkaa.X renaming rd_T156 → yaa
open Go.Proofs.YtgpkkkmapgnhkaaW.PrintWords.Aside0 renaming mk → yab

abbrev q93_0 : Array Bool := #[false, false, false, false, false, false, false, false, false, false]
abbrev q93_1 : Array Bool := #[true, false, false, false, false, false, false, false, false, false]
abbrev q93_2 : Array Bool := #[true, true, false, false, false, false, false, false, false, false]
abbrev q93_3 : Array Bool := #[true, true, true, false, false, false, false, false, false, false]
abbrev q93_4 : Array Bool := #[true, true, true, false, true, false, false, false, false, false]
abbrev q93_5 : Array Bool := #[true, true, true, false, true, true, false, false, false, false]
abbrev q93_6 : Array Bool := #[true, true, true, false, true, true, true, false, false, false]
abbrev q93_7 : Array Bool := #[true, true, true, true, true, true, true, false, false, false]
abbrev q93_8 : Array Bool := #[true, true, true, true, true, true, true, true, false, false]
abbrev q93_9 : Array Bool := #[true, true, true, true, true, true, true, true, true, false]
abbrev q93_10 : Array Bool := #[true, true, true, true, true, true, true, true, true, true]
def laws_eqTenFileS.l0 : Nat → List (S156) → List (S156) → Int → Option (Bool)
 | 0, _, _, _ => none
 | k + 1, x0, x1, x5 => if x5 < (x0.length : Int) then (if 0 ≤ x5 then (if x5 < (x1.length : Int) then ((laws_eqTenFile.f k ((rd_T156 x0 x5).f0) ((rd_T156 x0 x5).f1) ((rd_T156 x0 x5).f2) ((rd_T156 x1 x5).f0) ((rd_T156 x1 x5).f1) ((rd_T156 x1 x5).f2)).bind fun t103 => (if t103 = true then (laws_eqTenFileS.l0 k x0 x1 (wrap64 (x5 + 1))) else (some false))) else (none)) else (none)) else (some true)
def laws_eqTenFileS.f (k : Nat) (l0 : List (S156)) (l1 : List (S156)) : Option (Bool) := if (l0.length : Int) = (l1.length : Int) then (laws_eqTenFileS.l0 k l0 l1 0) else (some false)
def laws_eqTenFileS.T6 : Bool × List (List Nat × List Nat) := (true, [([], []), ([], []), ([0, 1], [0, 1]), ([2], [2]), ([], []), ([], []), ([4, 5], [4, 5]), ([6], [6]), ([3, 7], [3, 7]), ([8], [8])])
def laws_eqTenFileS.B6 : List Nat := [0, 0, 3, 7, 0, 0, 48, 112, 255, 511]
theorem laws_eqTenFileS.tab6 : rtab .any (opsOf Try.f93 6) = laws_eqTenFileS.T6 := by kernel_rfl
theorem laws_eqTenFileS.bits6 : waitsOk laws_eqTenFileS.T6.2 laws_eqTenFileS.B6 = true := by kernel_rfl
set_option maxHeartbeats 8000000 in
set_option maxRecDepth 100000 in
theorem laws_eqTenFileS.calls (k : Nat) (A0 : Option Addr) (c0 : Nat) (l0 : List (S156)) (A1 : Option Addr) (c1 : Nat) (l1 : List (S156)) (r : Bool) (w : World) (hr0 : Kd.C k156 w A0 l0.length l0) (hc0 : l0.length ≤ c0) (hr1 : Kd.C k156 w A1 l1.length l1) (hc1 : l1.length ≤ c1) (h : laws_eqTenFileS.f k l0 l1 = some r) :
  Calls Try.prog 93 #[.slice A0 l0.length c0, .slice A1 l1.length c1] w fun e w' => e = .returned (.bool r) ∧ Below w.heap.size w w' := by
 have hu156 := Try.underlying156; have HR0 := yab hr0; have HC0 := yab hc0; clear hr0 hc0; have HR1 := yab hr1; have HC1 := yab hc1; clear hr1 hc1; have HB := yab (Below.refl w.heap.size w); have H : (if (l0.length : Int) = (l1.length : Int) then (laws_eqTenFileS.l0 k l0 l1 0) else (some false)) = some r := h; clear h
 by_cases c3 : (l0.length : Int) = (l1.length : Int)
 ·
  rw [if_pos c3] at H
  have c7 := beq_iff_eq.mpr c3; have c9 := bne_eq_false_iff_eq.mpr c3
  have d0 : (l0.length == l1.length) = true := by first | simpa using c3 | (simp at c3 ⊢; omega)
  clear c3; have H' := yab H; clear H
  go_enter Try.func93, Try.ntmps93
  go_wp2
  (try simp only [Act.put, List.setIfInBounds_toArray, List.set_cons_zero, List.set_cons_succ])
  go_loopg [5] k (fun kq v5 w' => ∃ (a2 : Int), v5 = .int .i64 a2 ∧ Aside0 (laws_eqTenFileS.l0 kq l0 l1 a2 = some r) ∧ Aside0 (kq ≤ k) ∧ Aside0 (Below w.heap.size w w'))
  case atStart => exact ⟨(0), (by first | rfl | (simp; done) | (simp [*]; done)), H', ⟨Nat.le_refl _⟩, ⟨upH HB.out⟩⟩
  case round =>
   clear H'; (try clear c1); (try clear p2); (try clear c3); (try clear c7); (try clear c9); (try clear d0); obtain ⟨a2, rfl, HA, HK1, HB⟩ := hrel
   cases gk with
   | zero => exact absurd HA.out (by simp [laws_eqTenFileS.l0])
   | succ k1 =>
    have H := HA.out; clear HA
    simp only [laws_eqTenFileS.l0] at H
    by_cases c4 : a2 < (l0.length : Int)
    ·
     rw [if_pos c4] at H
     have d1 : decide (a2 < (l0.length : Int)) = true := decide_eq_true c4; clear c4
     by_cases c5 : 0 ≤ a2
     ·
      rw [if_pos c5] at H
      replace c5 := decide_eq_true c5
      by_cases c6 : a2 < (l1.length : Int)
      ·
       rw [if_pos c6] at H
       replace c6 := decide_eq_true c6; obtain ⟨d2, A7, H⟩ := bindA H; (try dsimp only at H)
       by_cases c8 : d2 = true
       ·
        subst c8
        rw [if_pos rfl] at H
        have H' := yab H; clear H
        try go_wp2
        replace HB := yab (below_drew1 HB.out)
        have p101 : 0 ≤ (a2 : Int) := of_decide_eq_true (by first | (with_reducible assumption) | assumption)
        have q101 : a2 < (l0.length : Int) := of_decide_eq_true (by first | (with_reducible assumption) | assumption)
        obtain ⟨ad101, b5, b6, b9, a3, a4, a5, hl101_2, hi101_2⟩ := at_T156 HR0.out a2 p101 q101; have a9 := a5; have b0 := a4; have b1 := a3
        cases b9
        replace a3 := (HB.out.cell (World.block_lt_of_cell? w _ a3)).trans a3; replace a4 := (HB.out.cell (World.block_lt_of_cell? w _ a4)).trans a4; replace a5 := (HB.out.cell (World.block_lt_of_cell? w _ a5)).trans a5; have HR101_2 := yab hi101_2; have HC101_2 := yab hl101_2; clear hi101_2 hl101_2; replace p101 := eq_true p101; replace q101 := eq_true q101
        have p102 : 0 ≤ (a2 : Int) := of_decide_eq_true (by first | (with_reducible assumption) | assumption)
        have q102 : a2 < (l1.length : Int) := of_decide_eq_true (by first | (with_reducible assumption) | assumption)
        obtain ⟨ad102, b7, b8, c2, a6, a7, a8, hl102_2, hi102_2⟩ := at_T156 HR1.out a2 p102 q102; have b2 := a8; have b3 := a7; have b4 := a6
        cases c2
        replace a6 := (HB.out.cell (World.block_lt_of_cell? w _ a6)).trans a6; replace a7 := (HB.out.cell (World.block_lt_of_cell? w _ a7)).trans a7; replace a8 := (HB.out.cell (World.block_lt_of_cell? w _ a8)).trans a8; have HR102_2 := yab hi102_2; have HC102_2 := yab hl102_2; clear hi102_2 hl102_2; replace p102 := eq_true p102; replace q102 := eq_true q102
        refine start_ (n := 10) (S := fun w' => w'.cell? (ad101.add ((a2).toNat * 3)) = some (.string ((yaa l0 a2).f0)) ∧ w'.cell? ⟨(ad101.add ((a2).toNat * 3)).block, (ad101.add ((a2).toNat * 3)).off + 1, none⟩ = some (.int .i64 ((yaa l0 a2).f1)) ∧ w'.cell? ⟨(ad101.add ((a2).toNat * 3)).block, (ad101.add ((a2).toNat * 3)).off + 2, none⟩ = some (.slice b5 ((yaa l0 a2).f2).length b6) ∧ w'.cell? (ad102.add ((a2).toNat * 3)) = some (.string ((yaa l1 a2).f0)) ∧ w'.cell? ⟨(ad102.add ((a2).toNat * 3)).block, (ad102.add ((a2).toNat * 3)).off + 1, none⟩ = some (.int .i64 ((yaa l1 a2).f1)) ∧ w'.cell? ⟨(ad102.add ((a2).toNat * 3)).block, (ad102.add ((a2).toNat * 3)).off + 2, none⟩ = some (.slice b7 ((yaa l1 a2).f2).length b8)) (ds := []) q93_0 (by kernel_rfl) rfl rfl ⟨((HB.out.cell (World.block_lt_of_cell? w _ b1)).trans b1), ((HB.out.cell (World.block_lt_of_cell? w _ b0)).trans b0), ((HB.out.cell (World.block_lt_of_cell? w _ a9)).trans a9), ((HB.out.cell (World.block_lt_of_cell? w _ b4)).trans b4), ((HB.out.cell (World.block_lt_of_cell? w _ b3)).trans b3), ((HB.out.cell (World.block_lt_of_cell? w _ b2)).trans b2)⟩ (fun hHeld => ?_); refine with_tabW laws_eqTenFileS.tab6 laws_eqTenFileS.bits6 (fun HT_ HW_ => ?_)
        generalize wr.drew = w9 at HB HR101_2 HR102_2 a3 a4 a5 a6 a7 a8 hHeld ⊢
        refine pz_ 0 17 q93_1 HT_ (by kernel_rfl) ?_
        refine pz_ 1 18 q93_2 HT_ (by kernel_rfl) ?_
        refine pz_ 2 19 q93_3 HT_ (by kernel_rfl) ?_
        refine pz_ 4 21 q93_4 HT_ (by kernel_rfl) ?_
        refine pz_ 5 22 q93_5 HT_ (by kernel_rfl) ?_
        refine pz_ 6 23 q93_6 HT_ (by kernel_rfl) ?_
        refine tz_ 3 20 q93_7 HT_ HW_ (by kernel_rfl) hHeld ?_
        refine tz_ 7 24 q93_8 HT_ HW_ (by kernel_rfl) hHeld ?_
        refine one_ (i := 8) (N := some 25) q93_9 rfl rfl (one_of HT_.out (by kernel_rfl)) (by decide) (fun K hK => ?_)
        refine goes_ Try.func131 (by kernel_rfl) rfl #[.agg #[.string ((yaa l0 a2).f0), .int .i64 ((yaa l0 a2).f1), .slice b5 ((yaa l0 a2).f2).length b6], .agg #[.string ((yaa l1 a2).f0), .int .i64 ((yaa l1 a2).f1), .slice b7 ((yaa l1 a2).f2).length b8]] (by rfl) rfl rfl (by (try simp only [List.map_toArray, List.map_cons, List.map_nil]); first | done | rfl | (simp only [List.length_drop, List.length_take]; rfl)) ?_
        with_reducible refine (laws_eqTenFile.calls k1 ((yaa l0 a2).f0) ((yaa l0 a2).f1) _ _ ((yaa l0 a2).f2) ((yaa l1 a2).f0) ((yaa l1 a2).f1) _ _ ((yaa l1 a2).f2) true _ ?side1 ?side2 ?side3 ?side4 A7.out).mono ?_
        (case side1 => repeat (first | exact (Kd.C_below HR101_2.out HB.out) | (with_reducible refine Kd.C_alloc ?_ _) | (with_reducible refine Kd.C_drewN ?_ _) | (with_reducible refine Kd.C_drew ?_)))
        (case side2 => exact HC101_2.out)
        (case side3 => repeat (first | exact (Kd.C_below HR102_2.out HB.out) | (with_reducible refine Kd.C_alloc ?_ _) | (with_reducible refine Kd.C_drewN ?_ _) | (with_reducible refine Kd.C_drew ?_)))
        (case side4 => exact HC102_2.out)
        rintro e w10 ⟨rfl, hb⟩; refine ⟨_, rfl, ?_⟩; replace HB := yab (below_step (upH HB.out) hb); (try clear hb); (try clear hb2); (try clear hk); (try clear hi)
        refine hK.out _ _ ⟨((HB.out.cell (World.block_lt_of_cell? w _ b1)).trans b1), ((HB.out.cell (World.block_lt_of_cell? w _ b0)).trans b0), ((HB.out.cell (World.block_lt_of_cell? w _ a9)).trans a9), ((HB.out.cell (World.block_lt_of_cell? w _ b4)).trans b4), ((HB.out.cell (World.block_lt_of_cell? w _ b3)).trans b3), ((HB.out.cell (World.block_lt_of_cell? w _ b2)).trans b2)⟩ (fun hHeld => ?_)
        clear hK K
        refine norm_ (a' := ?_) ?_ ?_
        rotate_left
        ·
         show Act.put _ (some 25) _ = _
         simp only [Act.put, List.setIfInBounds_toArray, List.set_cons_zero, List.set_cons_succ, i64_w, i32_w]
         rfl
        refine pz_ 9 26 q93_10 HT_ (by kernel_rfl) ?_
        refine done_ (done_of HT_.out (by kernel_rfl)) ?_
        try go_wp2
        go_roundg k1
        case measure => have := HK1.out; omega
        case rel => exact ⟨(wrap64 (a2 + 1)), (by first | rfl | (simp; done) | (simp [*]; done)), H', ⟨by have := HK1.out; omega⟩, ⟨upH HB.out⟩⟩
       ·
        replace c8 := Bool.eq_false_iff.mpr c8
        subst c8
        rw [if_neg (show ¬ (false = true) by decide)] at H
        obtain rfl := Option.some.inj H
        try go_wp2
        replace HB := yab (below_drew1 HB.out)
        have p101 : 0 ≤ (a2 : Int) := of_decide_eq_true (by first | (with_reducible assumption) | assumption)
        have q101 : a2 < (l0.length : Int) := of_decide_eq_true (by first | (with_reducible assumption) | assumption)
        obtain ⟨ad101, b5, b6, b9, a3, a4, a5, hl101_2, hi101_2⟩ := at_T156 HR0.out a2 p101 q101; have a9 := a5; have b0 := a4; have b1 := a3
        cases b9
        replace a3 := (HB.out.cell (World.block_lt_of_cell? w _ a3)).trans a3; replace a4 := (HB.out.cell (World.block_lt_of_cell? w _ a4)).trans a4; replace a5 := (HB.out.cell (World.block_lt_of_cell? w _ a5)).trans a5; have HR101_2 := yab hi101_2; have HC101_2 := yab hl101_2; clear hi101_2 hl101_2; replace p101 := eq_true p101; replace q101 := eq_true q101
        have p102 : 0 ≤ (a2 : Int) := of_decide_eq_true (by first | (with_reducible assumption) | assumption)
        have q102 : a2 < (l1.length : Int) := of_decide_eq_true (by first | (with_reducible assumption) | assumption)
        obtain ⟨ad102, b7, b8, c2, a6, a7, a8, hl102_2, hi102_2⟩ := at_T156 HR1.out a2 p102 q102; have b2 := a8; have b3 := a7; have b4 := a6
        cases c2
        replace a6 := (HB.out.cell (World.block_lt_of_cell? w _ a6)).trans a6; replace a7 := (HB.out.cell (World.block_lt_of_cell? w _ a7)).trans a7; replace a8 := (HB.out.cell (World.block_lt_of_cell? w _ a8)).trans a8; have HR102_2 := yab hi102_2; have HC102_2 := yab hl102_2; clear hi102_2 hl102_2; replace p102 := eq_true p102; replace q102 := eq_true q102
        refine start_ (n := 10) (S := fun w' => w'.cell? (ad101.add ((a2).toNat * 3)) = some (.string ((yaa l0 a2).f0)) ∧ w'.cell? ⟨(ad101.add ((a2).toNat * 3)).block, (ad101.add ((a2).toNat * 3)).off + 1, none⟩ = some (.int .i64 ((yaa l0 a2).f1)) ∧ w'.cell? ⟨(ad101.add ((a2).toNat * 3)).block, (ad101.add ((a2).toNat * 3)).off + 2, none⟩ = some (.slice b5 ((yaa l0 a2).f2).length b6) ∧ w'.cell? (ad102.add ((a2).toNat * 3)) = some (.string ((yaa l1 a2).f0)) ∧ w'.cell? ⟨(ad102.add ((a2).toNat * 3)).block, (ad102.add ((a2).toNat * 3)).off + 1, none⟩ = some (.int .i64 ((yaa l1 a2).f1)) ∧ w'.cell? ⟨(ad102.add ((a2).toNat * 3)).block, (ad102.add ((a2).toNat * 3)).off + 2, none⟩ = some (.slice b7 ((yaa l1 a2).f2).length b8)) (ds := []) q93_0 (by kernel_rfl) rfl rfl ⟨((HB.out.cell (World.block_lt_of_cell? w _ b1)).trans b1), ((HB.out.cell (World.block_lt_of_cell? w _ b0)).trans b0), ((HB.out.cell (World.block_lt_of_cell? w _ a9)).trans a9), ((HB.out.cell (World.block_lt_of_cell? w _ b4)).trans b4), ((HB.out.cell (World.block_lt_of_cell? w _ b3)).trans b3), ((HB.out.cell (World.block_lt_of_cell? w _ b2)).trans b2)⟩ (fun hHeld => ?_); refine with_tabW laws_eqTenFileS.tab6 laws_eqTenFileS.bits6 (fun HT_ HW_ => ?_)
        generalize wr.drew = w11 at HB HR101_2 HR102_2 a3 a4 a5 a6 a7 a8 hHeld ⊢
        refine pz_ 0 17 q93_1 HT_ (by kernel_rfl) ?_
        refine pz_ 1 18 q93_2 HT_ (by kernel_rfl) ?_
        refine pz_ 2 19 q93_3 HT_ (by kernel_rfl) ?_
        refine pz_ 4 21 q93_4 HT_ (by kernel_rfl) ?_
        refine pz_ 5 22 q93_5 HT_ (by kernel_rfl) ?_
        refine pz_ 6 23 q93_6 HT_ (by kernel_rfl) ?_
        refine tz_ 3 20 q93_7 HT_ HW_ (by kernel_rfl) hHeld ?_
        refine tz_ 7 24 q93_8 HT_ HW_ (by kernel_rfl) hHeld ?_
        refine one_ (i := 8) (N := some 25) q93_9 rfl rfl (one_of HT_.out (by kernel_rfl)) (by decide) (fun K hK => ?_)
        refine goes_ Try.func131 (by kernel_rfl) rfl #[.agg #[.string ((yaa l0 a2).f0), .int .i64 ((yaa l0 a2).f1), .slice b5 ((yaa l0 a2).f2).length b6], .agg #[.string ((yaa l1 a2).f0), .int .i64 ((yaa l1 a2).f1), .slice b7 ((yaa l1 a2).f2).length b8]] (by rfl) rfl rfl (by (try simp only [List.map_toArray, List.map_cons, List.map_nil]); first | done | rfl | (simp only [List.length_drop, List.length_take]; rfl)) ?_
        with_reducible refine (laws_eqTenFile.calls k1 ((yaa l0 a2).f0) ((yaa l0 a2).f1) _ _ ((yaa l0 a2).f2) ((yaa l1 a2).f0) ((yaa l1 a2).f1) _ _ ((yaa l1 a2).f2) false _ ?side1 ?side2 ?side3 ?side4 A7.out).mono ?_
        (case side1 => repeat (first | exact (Kd.C_below HR101_2.out HB.out) | (with_reducible refine Kd.C_alloc ?_ _) | (with_reducible refine Kd.C_drewN ?_ _) | (with_reducible refine Kd.C_drew ?_)))
        (case side2 => exact HC101_2.out)
        (case side3 => repeat (first | exact (Kd.C_below HR102_2.out HB.out) | (with_reducible refine Kd.C_alloc ?_ _) | (with_reducible refine Kd.C_drewN ?_ _) | (with_reducible refine Kd.C_drew ?_)))
        (case side4 => exact HC102_2.out)
        rintro e w12 ⟨rfl, hb⟩; refine ⟨_, rfl, ?_⟩; replace HB := yab (below_step (upH HB.out) hb); (try clear hb); (try clear hb2); (try clear hk); (try clear hi)
        refine hK.out _ _ ⟨((HB.out.cell (World.block_lt_of_cell? w _ b1)).trans b1), ((HB.out.cell (World.block_lt_of_cell? w _ b0)).trans b0), ((HB.out.cell (World.block_lt_of_cell? w _ a9)).trans a9), ((HB.out.cell (World.block_lt_of_cell? w _ b4)).trans b4), ((HB.out.cell (World.block_lt_of_cell? w _ b3)).trans b3), ((HB.out.cell (World.block_lt_of_cell? w _ b2)).trans b2)⟩ (fun hHeld => ?_)
        clear hK K
        refine norm_ (a' := ?_) ?_ ?_
        rotate_left
        ·
         show Act.put _ (some 25) _ = _
         simp only [Act.put, List.setIfInBounds_toArray, List.set_cons_zero, List.set_cons_succ, i64_w, i32_w]
         rfl
        refine pz_ 9 26 q93_10 HT_ (by kernel_rfl) ?_
        refine done_ (done_of HT_.out (by kernel_rfl)) ?_
        try go_wp2
        go_ret
        exact ⟨by first | rfl | (simp [*, errW_none, errW_some] <;> rfl), upH HB.out⟩
      ·
       rw [if_neg c6] at H
       exact absurd H (by simp)
     ·
      rw [if_neg c5] at H
      exact absurd H (by simp)
    ·
     rw [if_neg c4] at H
     have d1 : decide (a2 < (l0.length : Int)) = false := decide_eq_false c4; clear c4; obtain rfl := Option.some.inj H
     go_wp2
     go_ret
     exact ⟨by first | rfl | (simp [*, errW_none, errW_some] <;> rfl), upH HB.out⟩
 ·
  rw [if_neg c3] at H
  have c7 := beq_eq_false_iff_ne.mpr c3; have c9 := bne_iff_ne.mpr c3
  have d0 : (l0.length == l1.length) = false := by first | simpa using c3 | (simp at c3 ⊢; omega)
  obtain rfl := Option.some.inj H
  go_enter Try.func93, Try.ntmps93
  go_wp2
  go_ret
  exact ⟨by first | rfl | (simp [*, errW_none, errW_some] <;> rfl), upH HB.out⟩
end
section
def laws_eqStringS.l0 : Nat → List ByteArray → List ByteArray → Int → Option (Bool)
 | 0, _, _, _ => none
 | k + 1, x0, x1, x5 => if x5 < (x0.length : Int) then (if 0 ≤ x5 then (if x5 < (x1.length : Int) then (if (rdOf ByteArray.empty x0 x5).toList = (rdOf ByteArray.empty x1 x5).toList then (laws_eqStringS.l0 k x0 x1 (wrap64 (x5 + 1))) else (some false)) else (none)) else (none)) else (some true)
def laws_eqStringS.f (k : Nat) (l0 : List ByteArray) (l1 : List ByteArray) : Option (Bool) := if (l0.length : Int) = (l1.length : Int) then (laws_eqStringS.l0 k l0 l1 0) else (some false)
set_option maxHeartbeats 8000000 in
set_option maxRecDepth 100000 in
theorem laws_eqStringS.calls (k : Nat) (A0 : Option Addr) (c0 : Nat) (l0 : List ByteArray) (A1 : Option Addr) (c1 : Nat) (l1 : List ByteArray) (r : Bool) (w : World) (hr0 : Kd.C Kd.string w A0 l0.length l0) (hc0 : l0.length ≤ c0) (hr1 : Kd.C Kd.string w A1 l1.length l1) (hc1 : l1.length ≤ c1) (h : laws_eqStringS.f k l0 l1 = some r) :
  Calls Try.prog 94 #[.slice A0 l0.length c0, .slice A1 l1.length c1] w fun e w' => e = .returned (.bool r) ∧ Drawn0 w w' := by
 have HR0 := Aside0.mk hr0; have HC0 := Aside0.mk hc0; clear hr0 hc0; have HR1 := Aside0.mk hr1; have HC1 := Aside0.mk hc1; clear hr1 hc1; have H : (if (l0.length : Int) = (l1.length : Int) then (laws_eqStringS.l0 k l0 l1 0) else (some false)) = some r := h; clear h
 by_cases c3 : (l0.length : Int) = (l1.length : Int)
 ·
  rw [if_pos c3] at H
  have a7 := beq_iff_eq.mpr c3; have a8 := bne_eq_false_iff_eq.mpr c3
  have a9 : (l0.length == l1.length) = true := by first | simpa using c3 | (simp at c3 ⊢; omega)
  clear c3; have H' := Aside0.mk H; clear H
  go_enter Try.func94, Try.ntmps94
  go_wp2
  repeat (go_quiet (fail); try go_wp2)
  (try simp only [Act.put, List.setIfInBounds_toArray, List.set_cons_zero, List.set_cons_succ])
  go_loopg [5] k (fun kq v5 w' => ∃ (a2 : Int), v5 = .int .i64 a2 ∧ Aside0 (laws_eqStringS.l0 kq l0 l1 a2 = some r) ∧ Aside0 (kq ≤ k) ∧ Drawn0 w w')
  case atStart => exact ⟨(0), (by first | rfl | (simp; done) | (simp [*]; done)), H', ⟨Nat.le_refl _⟩, by repeat (first | exact Drawn0.refl _ | apply Drawn0.step)⟩
  case round =>
   clear H'; (try clear c1); (try clear p2); (try clear c3); (try clear a7); (try clear a8); (try clear a9); obtain ⟨a2, rfl, HA, HK1, ⟨m1, rfl⟩⟩ := hrel
   cases gk with
   | zero => exact absurd HA.out (by simp [laws_eqStringS.l0])
   | succ k1 =>
    have H := HA.out; clear HA
    simp only [laws_eqStringS.l0] at H
    by_cases c4 : a2 < (l0.length : Int)
    ·
     rw [if_pos c4] at H
     have b0 : decide (a2 < (l0.length : Int)) = true := decide_eq_true c4; clear c4
     by_cases c5 : 0 ≤ a2
     ·
      rw [if_pos c5] at H
      replace c5 := decide_eq_true c5
      by_cases c6 : a2 < (l1.length : Int)
      ·
       rw [if_pos c6] at H
       replace c6 := decide_eq_true c6
       by_cases c7 : (rdOf ByteArray.empty l0 a2).toList = (rdOf ByteArray.empty l1 a2).toList
       ·
        rw [if_pos c7] at H
        have b1 := beq_iff_eq.mpr c7; have b2 := bne_eq_false_iff_eq.mpr c7; clear c7; have H' := Aside0.mk H; clear H
        have p101 : 0 ≤ (a2 : Int) := of_decide_eq_true (by first | (with_reducible assumption) | assumption)
        have q101 : a2 < (l0.length : Int) := of_decide_eq_true (by first | (with_reducible assumption) | assumption)
        obtain ⟨ad101, a5, a3⟩ := Kd.at_string HR0.out a2 p101 q101
        cases a5
        replace p101 := eq_true p101; replace q101 := eq_true q101
        have p102 : 0 ≤ (a2 : Int) := of_decide_eq_true (by first | (with_reducible assumption) | assumption)
        have q102 : a2 < (l1.length : Int) := of_decide_eq_true (by first | (with_reducible assumption) | assumption)
        obtain ⟨ad102, a6, a4⟩ := Kd.at_string HR1.out a2 p102 q102
        cases a6
        replace p102 := eq_true p102; replace q102 := eq_true q102
        go_wp2
        repeat (go_quiet (fail); try go_wp2)
        go_roundg k1
        case measure => have := HK1.out; omega
        case rel => exact ⟨(wrap64 (a2 + 1)), (by first | rfl | (simp; done) | (simp [*]; done)), H', ⟨by have := HK1.out; omega⟩, by repeat (first | exact Drawn0.refl _ | apply Drawn0.step)⟩
       ·
        rw [if_neg c7] at H
        have b1 := beq_eq_false_iff_ne.mpr c7; have b2 := bne_iff_ne.mpr c7; obtain rfl := Option.some.inj H
        have p101 : 0 ≤ (a2 : Int) := of_decide_eq_true (by first | (with_reducible assumption) | assumption)
        have q101 : a2 < (l0.length : Int) := of_decide_eq_true (by first | (with_reducible assumption) | assumption)
        obtain ⟨ad101, a5, a3⟩ := Kd.at_string HR0.out a2 p101 q101
        cases a5
        replace p101 := eq_true p101; replace q101 := eq_true q101
        have p102 : 0 ≤ (a2 : Int) := of_decide_eq_true (by first | (with_reducible assumption) | assumption)
        have q102 : a2 < (l1.length : Int) := of_decide_eq_true (by first | (with_reducible assumption) | assumption)
        obtain ⟨ad102, a6, a4⟩ := Kd.at_string HR1.out a2 p102 q102
        cases a6
        replace p102 := eq_true p102; replace q102 := eq_true q102
        go_wp2
        repeat (go_quiet (fail); try go_wp2)
        go_ret
        exact ⟨by first | rfl | (simp; done) | (simp [*]; done), by repeat (first | exact Drawn0.refl _ | apply Drawn0.step)⟩
      ·
       rw [if_neg c6] at H
       exact absurd H (by simp)
     ·
      rw [if_neg c5] at H
      exact absurd H (by simp)
    ·
     rw [if_neg c4] at H
     have b0 : decide (a2 < (l0.length : Int)) = false := decide_eq_false c4; clear c4; obtain rfl := Option.some.inj H
     go_wp2
     repeat (go_quiet (fail); try go_wp2)
     go_ret
     exact ⟨by first | rfl | (simp; done) | (simp [*]; done), by repeat (first | exact Drawn0.refl _ | apply Drawn0.step)⟩
 ·
  rw [if_neg c3] at H
  have a7 := beq_eq_false_iff_ne.mpr c3; have a8 := bne_iff_ne.mpr c3
  have a9 : (l0.length == l1.length) = false := by first | simpa using c3 | (simp at c3 ⊢; omega)
  obtain rfl := Option.some.inj H
  go_enter Try.func94, Try.ntmps94
  go_wp2
  repeat (go_quiet (fail); try go_wp2)
  go_ret
  exact ⟨by first | rfl | (simp; done) | (simp [*]; done), by repeat (first | exact Drawn0.refl _ | apply Drawn0.step)⟩
end
section
open Go.Proofs.YtgpkkkmapgnhkaaW.PrintWords.Aside0 renaming mk → yaa
open Go.Proofs.YtgpkkkmapgnhkaaW.PrintWords renaming pw_below_drewN → yab

def laws_eqTenOut.f (k : Nat) (a0_0 : Int) (a0_1 : Int) (l0_2 : List Int) (a1_0 : Int) (a1_1 : Int) (l1_2 : List Int) : Option (Bool) := if a0_0 = a1_0 then (if a0_1 = a1_1 then ((laws_eqByteS.f k l0_2 l1_2).bind fun t103 => (if t103 = true then (some true) else (some false))) else (some false)) else (some false)
set_option maxHeartbeats 8000000 in
set_option maxRecDepth 100000 in
theorem laws_eqTenOut.calls (k : Nat) (a0_0 : Int) (a0_1 : Int) (A0_2 : Option Addr) (c0_2 : Nat) (l0_2 : List Int) (a1_0 : Int) (a1_1 : Int) (A1_2 : Option Addr) (c1_2 : Nat) (l1_2 : List Int) (r : Bool) (w : World) (hr0_2 : Kd.C (Kd.int .u8) w A0_2 l0_2.length l0_2) (hc0_2 : l0_2.length ≤ c0_2) (hr1_2 : Kd.C (Kd.int .u8) w A1_2 l1_2.length l1_2) (hc1_2 : l1_2.length ≤ c1_2) (h : laws_eqTenOut.f k a0_0 a0_1 l0_2 a1_0 a1_1 l1_2 = some r) :
  Calls Try.prog 132 #[.agg #[.int .i64 a0_0, .int .i64 a0_1, .slice A0_2 l0_2.length c0_2], .agg #[.int .i64 a1_0, .int .i64 a1_1, .slice A1_2 l1_2.length c1_2]] w fun e w' => e = .returned (.bool r) ∧ Below w.heap.size w w' := by
 have hu158 := Try.underlying158; have HR0_2 := yaa hr0_2; have HC0_2 := yaa hc0_2; clear hr0_2 hc0_2; have HR1_2 := yaa hr1_2; have HC1_2 := yaa hc1_2; clear hr1_2 hc1_2; have HB := yaa (Below.refl w.heap.size w); have H : (if a0_0 = a1_0 then (if a0_1 = a1_1 then ((laws_eqByteS.f k l0_2 l1_2).bind fun b7 => (if b7 = true then (some true) else (some false))) else (some false)) else (some false)) = some r := h; clear h
 by_cases c3 : a0_0 = a1_0
 ·
  rw [if_pos c3] at H
  have h1 := beq_iff_eq.mpr c3; have h2 := bne_eq_false_iff_eq.mpr c3; clear c3
  by_cases c4 : a0_1 = a1_1
  ·
   rw [if_pos c4] at H
   have h3 := beq_iff_eq.mpr c4; have h4 := bne_eq_false_iff_eq.mpr c4; clear c4; obtain ⟨b7, A5, H⟩ := bindA H; (try dsimp only at H)
   by_cases c6 : b7 = true
   ·
    subst c6
    rw [if_pos rfl] at H
    obtain rfl := Option.some.inj H
    go_enter Try.func132, Try.ntmps132
    go_wp2_with (first | ((with_reducible refine gd_ 2 rfl ?_); refine bx_ 2 rfl #[.int .i64 a0_0, .int .i64 a0_1, .slice A0_2 l0_2.length c0_2] 158 ?_; intro b0 hg w7 hbox hb; have a7 := yaa (hbox); have b2 := yaa ((by rw [hg]; exact (below_size (upH HB.out)) : w.heap.size ≤ b0)); replace HB := yaa (below_step (upH HB.out) hb); have b5 := b2; clear hb hbox hg) | ((with_reducible refine gd_ 3 rfl ?_); refine bx_ 3 rfl #[.int .i64 a1_0, .int .i64 a1_1, .slice A1_2 l1_2.length c1_2] 158 ?_; intro b1 hg w8 hbox hb; have a9 := yaa (hbox); have b3 := yaa ((by rw [hg]; exact (below_size (by repeat (with_reducible first | exact HB.out | apply below_alloc | apply yab | apply below_drew1 | refine below_set ?_ (Aside0.out ‹_›)))) : w.heap.size ≤ b1)); replace HB := yaa (below_step (by repeat (with_reducible first | exact HB.out | apply below_alloc | apply yab | apply below_drew1 | refine below_set ?_ (Aside0.out ‹_›))) hb); have b6 := b3; have a6 := yaa ((by rw [hg]; exact Nat.ne_of_lt (blk_lt (upB a7.out)) : b0 ≠ b1)); replace a7 := yaa (blk_below (upB a7.out) hb); have a8 := yaa a6.out.symm; clear hb hbox hg; have i1 := a6.out; have i2 := a8.out; obtain ⟨c0, c1, c2⟩ := cc3_ a7.out; obtain ⟨c5, c7, c8⟩ := cf3_ a7.out; obtain ⟨c9, d0, d1⟩ := cc3_ a9.out; obtain ⟨d2, d3⟩ := cf2_ a9.out; have d4 := blk_frozen a9.out 2) | ((with_reducible refine gc_ 67 rfl ?_); refine gl_ (some 19) rfl Try.func67 #[.slice A0_2 l0_2.length c0_2, .slice A1_2 l1_2.length c1_2] ?_; (with_reducible refine (laws_eqByteS.calls k _ _ l0_2 _ _ l1_2 true _ ?side1 ?side2 ?side3 ?side4 A5.out).mono ?_); (case side1 => repeat (first | exact (Kd.C_below HR0_2.out HB.out) | (with_reducible refine Kd.C_alloc ?_ _) | (with_reducible refine Kd.C_drewN ?_ _) | (with_reducible refine Kd.C_drew ?_))); (case side2 => exact HC0_2.out); (case side3 => repeat (first | exact (Kd.C_below HR1_2.out HB.out) | (with_reducible refine Kd.C_alloc ?_ _) | (with_reducible refine Kd.C_drewN ?_ _) | (with_reducible refine Kd.C_drew ?_))); (case side4 => exact HC1_2.out); rintro e w' ⟨rfl, ⟨nd, rfl⟩⟩; refine ⟨_, rfl, ?_⟩))
    go_ret
    exact ⟨by first | rfl | (simp [*, errW_none, errW_some] <;> rfl), by repeat (with_reducible first | exact HB.out | apply below_alloc | apply yab | apply below_drew1 | refine below_set ?_ (Aside0.out ‹_›))⟩
   ·
    replace c6 := Bool.eq_false_iff.mpr c6
    subst c6
    rw [if_neg (show ¬ (false = true) by decide)] at H
    obtain rfl := Option.some.inj H
    go_enter Try.func132, Try.ntmps132
    go_wp2_with (first | ((with_reducible refine gd_ 2 rfl ?_); refine bx_ 2 rfl #[.int .i64 a0_0, .int .i64 a0_1, .slice A0_2 l0_2.length c0_2] 158 ?_; intro b0 hg w12 hbox hb; have a7 := yaa (hbox); have b2 := yaa ((by rw [hg]; exact (below_size (upH HB.out)) : w.heap.size ≤ b0)); replace HB := yaa (below_step (upH HB.out) hb); have b5 := b2; clear hb hbox hg) | ((with_reducible refine gd_ 3 rfl ?_); refine bx_ 3 rfl #[.int .i64 a1_0, .int .i64 a1_1, .slice A1_2 l1_2.length c1_2] 158 ?_; intro b1 hg w13 hbox hb; have a9 := yaa (hbox); have b3 := yaa ((by rw [hg]; exact (below_size (by repeat (with_reducible first | exact HB.out | apply below_alloc | apply yab | apply below_drew1 | refine below_set ?_ (Aside0.out ‹_›)))) : w.heap.size ≤ b1)); replace HB := yaa (below_step (by repeat (with_reducible first | exact HB.out | apply below_alloc | apply yab | apply below_drew1 | refine below_set ?_ (Aside0.out ‹_›))) hb); have b6 := b3; have a6 := yaa ((by rw [hg]; exact Nat.ne_of_lt (blk_lt (upB a7.out)) : b0 ≠ b1)); replace a7 := yaa (blk_below (upB a7.out) hb); have a8 := yaa a6.out.symm; clear hb hbox hg; have h5 := a6.out; have h6 := a8.out; obtain ⟨d5, d6, d7⟩ := cc3_ a7.out; obtain ⟨d8, d9, e0⟩ := cf3_ a7.out; obtain ⟨e1, e2, e3⟩ := cc3_ a9.out; obtain ⟨e4, e5⟩ := cf2_ a9.out; have e6 := blk_frozen a9.out 2) | ((with_reducible refine gc_ 67 rfl ?_); refine gl_ (some 19) rfl Try.func67 #[.slice A0_2 l0_2.length c0_2, .slice A1_2 l1_2.length c1_2] ?_; (with_reducible refine (laws_eqByteS.calls k _ _ l0_2 _ _ l1_2 false _ ?side1 ?side2 ?side3 ?side4 A5.out).mono ?_); (case side1 => repeat (first | exact (Kd.C_below HR0_2.out HB.out) | (with_reducible refine Kd.C_alloc ?_ _) | (with_reducible refine Kd.C_drewN ?_ _) | (with_reducible refine Kd.C_drew ?_))); (case side2 => exact HC0_2.out); (case side3 => repeat (first | exact (Kd.C_below HR1_2.out HB.out) | (with_reducible refine Kd.C_alloc ?_ _) | (with_reducible refine Kd.C_drewN ?_ _) | (with_reducible refine Kd.C_drew ?_))); (case side4 => exact HC1_2.out); rintro e w' ⟨rfl, ⟨nd, rfl⟩⟩; refine ⟨_, rfl, ?_⟩))
    go_ret
    exact ⟨by first | rfl | (simp [*, errW_none, errW_some] <;> rfl), by repeat (with_reducible first | exact HB.out | apply below_alloc | apply yab | apply below_drew1 | refine below_set ?_ (Aside0.out ‹_›))⟩
  ·
   rw [if_neg c4] at H
   have h3 := beq_eq_false_iff_ne.mpr c4; have h4 := bne_iff_ne.mpr c4; obtain rfl := Option.some.inj H
   go_enter Try.func132, Try.ntmps132
   go_wp2_with (first | ((with_reducible refine gd_ 2 rfl ?_); refine bx_ 2 rfl #[.int .i64 a0_0, .int .i64 a0_1, .slice A0_2 l0_2.length c0_2] 158 ?_; intro b0 hg w17 hbox hb; have a7 := yaa (hbox); have b2 := yaa ((by rw [hg]; exact (below_size (upH HB.out)) : w.heap.size ≤ b0)); replace HB := yaa (below_step (upH HB.out) hb); have b5 := b2; clear hb hbox hg) | ((with_reducible refine gd_ 3 rfl ?_); refine bx_ 3 rfl #[.int .i64 a1_0, .int .i64 a1_1, .slice A1_2 l1_2.length c1_2] 158 ?_; intro b1 hg w18 hbox hb; have a9 := yaa (hbox); have b3 := yaa ((by rw [hg]; exact (below_size (by repeat (with_reducible first | exact HB.out | apply below_alloc | apply yab | apply below_drew1 | refine below_set ?_ (Aside0.out ‹_›)))) : w.heap.size ≤ b1)); replace HB := yaa (below_step (by repeat (with_reducible first | exact HB.out | apply below_alloc | apply yab | apply below_drew1 | refine below_set ?_ (Aside0.out ‹_›))) hb); have b6 := b3; have a6 := yaa ((by rw [hg]; exact Nat.ne_of_lt (blk_lt (upB a7.out)) : b0 ≠ b1)); replace a7 := yaa (blk_below (upB a7.out) hb); have a8 := yaa a6.out.symm; clear hb hbox hg; have h7 := a6.out; have h8 := a8.out; obtain ⟨e7, e8, e9⟩ := cc3_ a7.out; obtain ⟨f0, f1, f2⟩ := cf3_ a7.out; obtain ⟨f3, f4, f5⟩ := cc3_ a9.out; obtain ⟨f6, f7⟩ := cf2_ a9.out; have f8 := blk_frozen a9.out 2))
   go_ret
   exact ⟨by first | rfl | (simp [*, errW_none, errW_some] <;> rfl), by repeat (with_reducible first | exact HB.out | apply below_alloc | apply yab | apply below_drew1 | refine below_set ?_ (Aside0.out ‹_›))⟩
 ·
  rw [if_neg c3] at H
  have h1 := beq_eq_false_iff_ne.mpr c3; have h2 := bne_iff_ne.mpr c3; obtain rfl := Option.some.inj H
  go_enter Try.func132, Try.ntmps132
  go_wp2_with (first | ((with_reducible refine gd_ 2 rfl ?_); refine bx_ 2 rfl #[.int .i64 a0_0, .int .i64 a0_1, .slice A0_2 l0_2.length c0_2] 158 ?_; intro b0 hg w22 hbox hb; have a7 := yaa (hbox); have b2 := yaa ((by rw [hg]; exact (below_size (upH HB.out)) : w.heap.size ≤ b0)); replace HB := yaa (below_step (upH HB.out) hb); have b5 := b2; clear hb hbox hg) | ((with_reducible refine gd_ 3 rfl ?_); refine bx_ 3 rfl #[.int .i64 a1_0, .int .i64 a1_1, .slice A1_2 l1_2.length c1_2] 158 ?_; intro b1 hg w23 hbox hb; have a9 := yaa (hbox); have b3 := yaa ((by rw [hg]; exact (below_size (by repeat (with_reducible first | exact HB.out | apply below_alloc | apply yab | apply below_drew1 | refine below_set ?_ (Aside0.out ‹_›)))) : w.heap.size ≤ b1)); replace HB := yaa (below_step (by repeat (with_reducible first | exact HB.out | apply below_alloc | apply yab | apply below_drew1 | refine below_set ?_ (Aside0.out ‹_›))) hb); have b6 := b3; have a6 := yaa ((by rw [hg]; exact Nat.ne_of_lt (blk_lt (upB a7.out)) : b0 ≠ b1)); replace a7 := yaa (blk_below (upB a7.out) hb); have a8 := yaa a6.out.symm; clear hb hbox hg; have h9 := a6.out; have i0 := a8.out; obtain ⟨f9, g0, g1⟩ := cc3_ a7.out; obtain ⟨g2, g3, g4⟩ := cf3_ a7.out; obtain ⟨g5, g6, g7⟩ := cc3_ a9.out; obtain ⟨g8, g9⟩ := cf2_ a9.out; have h0 := blk_frozen a9.out 2))
  go_ret
  exact ⟨by first | rfl | (simp [*, errW_none, errW_some] <;> rfl), by repeat (with_reducible first | exact HB.out | apply below_alloc | apply yab | apply below_drew1 | refine below_set ?_ (Aside0.out ‹_›))⟩
end
section
open Go.Proofs.Ytgpkkkmapgnhkaa.X renaming rd_T158 → yaa
open Go.Proofs.YtgpkkkmapgnhkaaW.PrintWords.Aside0 renaming mk → yab

abbrev q95_0 : Array Bool := #[false, false, false, false, false, false, false, false, false, false]
abbrev q95_1 : Array Bool := #[true, false, false, false, false, false, false, false, false, false]
abbrev q95_2 : Array Bool := #[true, true, false, false, false, false, false, false, false, false]
abbrev q95_3 : Array Bool := #[true, true, true, false, false, false, false, false, false, false]
abbrev q95_4 : Array Bool := #[true, true, true, false, true, false, false, false, false, false]
abbrev q95_5 : Array Bool := #[true, true, true, false, true, true, false, false, false, false]
abbrev q95_6 : Array Bool := #[true, true, true, false, true, true, true, false, false, false]
abbrev q95_7 : Array Bool := #[true, true, true, true, true, true, true, false, false, false]
abbrev q95_8 : Array Bool := #[true, true, true, true, true, true, true, true, false, false]
abbrev q95_9 : Array Bool := #[true, true, true, true, true, true, true, true, true, false]
abbrev q95_10 : Array Bool := #[true, true, true, true, true, true, true, true, true, true]
def laws_eqTenOutS.l0 : Nat → List (S158) → List (S158) → Int → Option (Bool)
 | 0, _, _, _ => none
 | k + 1, x0, x1, x5 => if x5 < (x0.length : Int) then (if 0 ≤ x5 then (if x5 < (x1.length : Int) then ((laws_eqTenOut.f k ((rd_T158 x0 x5).f0) ((rd_T158 x0 x5).f1) ((rd_T158 x0 x5).f2) ((rd_T158 x1 x5).f0) ((rd_T158 x1 x5).f1) ((rd_T158 x1 x5).f2)).bind fun t103 => (if t103 = true then (laws_eqTenOutS.l0 k x0 x1 (wrap64 (x5 + 1))) else (some false))) else (none)) else (none)) else (some true)
def laws_eqTenOutS.f (k : Nat) (l0 : List (S158)) (l1 : List (S158)) : Option (Bool) := if (l0.length : Int) = (l1.length : Int) then (laws_eqTenOutS.l0 k l0 l1 0) else (some false)
def laws_eqTenOutS.T6 : Bool × List (List Nat × List Nat) := (true, [([], []), ([], []), ([0, 1], [0, 1]), ([2], [2]), ([], []), ([], []), ([4, 5], [4, 5]), ([6], [6]), ([3, 7], [3, 7]), ([8], [8])])
def laws_eqTenOutS.B6 : List Nat := [0, 0, 3, 7, 0, 0, 48, 112, 255, 511]
theorem laws_eqTenOutS.tab6 : rtab .any (opsOf Try.f95 6) = laws_eqTenOutS.T6 := by kernel_rfl
theorem laws_eqTenOutS.bits6 : waitsOk laws_eqTenOutS.T6.2 laws_eqTenOutS.B6 = true := by kernel_rfl
set_option maxHeartbeats 8000000 in
set_option maxRecDepth 100000 in
theorem laws_eqTenOutS.calls (k : Nat) (A0 : Option Addr) (c0 : Nat) (l0 : List (S158)) (A1 : Option Addr) (c1 : Nat) (l1 : List (S158)) (r : Bool) (w : World) (hr0 : Kd.C k158 w A0 l0.length l0) (hc0 : l0.length ≤ c0) (hr1 : Kd.C k158 w A1 l1.length l1) (hc1 : l1.length ≤ c1) (h : laws_eqTenOutS.f k l0 l1 = some r) :
  Calls Try.prog 95 #[.slice A0 l0.length c0, .slice A1 l1.length c1] w fun e w' => e = .returned (.bool r) ∧ Below w.heap.size w w' := by
 have hu158 := Try.underlying158; have HR0 := yab hr0; have HC0 := yab hc0; clear hr0 hc0; have HR1 := yab hr1; have HC1 := yab hc1; clear hr1 hc1; have HB := yab (Below.refl w.heap.size w); have H : (if (l0.length : Int) = (l1.length : Int) then (laws_eqTenOutS.l0 k l0 l1 0) else (some false)) = some r := h; clear h
 by_cases c3 : (l0.length : Int) = (l1.length : Int)
 ·
  rw [if_pos c3] at H
  have c7 := beq_iff_eq.mpr c3; have c9 := bne_eq_false_iff_eq.mpr c3
  have d0 : (l0.length == l1.length) = true := by first | simpa using c3 | (simp at c3 ⊢; omega)
  clear c3; have H' := yab H; clear H
  go_enter Try.func95, Try.ntmps95
  go_wp2
  (try simp only [Act.put, List.setIfInBounds_toArray, List.set_cons_zero, List.set_cons_succ])
  go_loopg [5] k (fun kq v5 w' => ∃ (a2 : Int), v5 = .int .i64 a2 ∧ Aside0 (laws_eqTenOutS.l0 kq l0 l1 a2 = some r) ∧ Aside0 (kq ≤ k) ∧ Aside0 (Below w.heap.size w w'))
  case atStart => exact ⟨(0), (by first | rfl | (simp; done) | (simp [*]; done)), H', ⟨Nat.le_refl _⟩, ⟨upH HB.out⟩⟩
  case round =>
   clear H'; (try clear c1); (try clear p2); (try clear c3); (try clear c7); (try clear c9); (try clear d0); obtain ⟨a2, rfl, HA, HK1, HB⟩ := hrel
   cases gk with
   | zero => exact absurd HA.out (by simp [laws_eqTenOutS.l0])
   | succ k1 =>
    have H := HA.out; clear HA
    simp only [laws_eqTenOutS.l0] at H
    by_cases c4 : a2 < (l0.length : Int)
    ·
     rw [if_pos c4] at H
     have d1 : decide (a2 < (l0.length : Int)) = true := decide_eq_true c4; clear c4
     by_cases c5 : 0 ≤ a2
     ·
      rw [if_pos c5] at H
      replace c5 := decide_eq_true c5
      by_cases c6 : a2 < (l1.length : Int)
      ·
       rw [if_pos c6] at H
       replace c6 := decide_eq_true c6; obtain ⟨d2, A7, H⟩ := bindA H; (try dsimp only at H)
       by_cases c8 : d2 = true
       ·
        subst c8
        rw [if_pos rfl] at H
        have H' := yab H; clear H
        try go_wp2
        replace HB := yab (below_drew1 HB.out)
        have p101 : 0 ≤ (a2 : Int) := of_decide_eq_true (by first | (with_reducible assumption) | assumption)
        have q101 : a2 < (l0.length : Int) := of_decide_eq_true (by first | (with_reducible assumption) | assumption)
        obtain ⟨ad101, b5, b6, b9, a3, a4, a5, hl101_2, hi101_2⟩ := at_T158 HR0.out a2 p101 q101; have a9 := a5; have b0 := a4; have b1 := a3
        cases b9
        replace a3 := (HB.out.cell (World.block_lt_of_cell? w _ a3)).trans a3; replace a4 := (HB.out.cell (World.block_lt_of_cell? w _ a4)).trans a4; replace a5 := (HB.out.cell (World.block_lt_of_cell? w _ a5)).trans a5; have HR101_2 := yab hi101_2; have HC101_2 := yab hl101_2; clear hi101_2 hl101_2; replace p101 := eq_true p101; replace q101 := eq_true q101
        have p102 : 0 ≤ (a2 : Int) := of_decide_eq_true (by first | (with_reducible assumption) | assumption)
        have q102 : a2 < (l1.length : Int) := of_decide_eq_true (by first | (with_reducible assumption) | assumption)
        obtain ⟨ad102, b7, b8, c2, a6, a7, a8, hl102_2, hi102_2⟩ := at_T158 HR1.out a2 p102 q102; have b2 := a8; have b3 := a7; have b4 := a6
        cases c2
        replace a6 := (HB.out.cell (World.block_lt_of_cell? w _ a6)).trans a6; replace a7 := (HB.out.cell (World.block_lt_of_cell? w _ a7)).trans a7; replace a8 := (HB.out.cell (World.block_lt_of_cell? w _ a8)).trans a8; have HR102_2 := yab hi102_2; have HC102_2 := yab hl102_2; clear hi102_2 hl102_2; replace p102 := eq_true p102; replace q102 := eq_true q102
        refine start_ (n := 10) (S := fun w' => w'.cell? (ad101.add ((a2).toNat * 3)) = some (.int .i64 ((yaa l0 a2).f0)) ∧ w'.cell? ⟨(ad101.add ((a2).toNat * 3)).block, (ad101.add ((a2).toNat * 3)).off + 1, none⟩ = some (.int .i64 ((yaa l0 a2).f1)) ∧ w'.cell? ⟨(ad101.add ((a2).toNat * 3)).block, (ad101.add ((a2).toNat * 3)).off + 2, none⟩ = some (.slice b5 ((yaa l0 a2).f2).length b6) ∧ w'.cell? (ad102.add ((a2).toNat * 3)) = some (.int .i64 ((yaa l1 a2).f0)) ∧ w'.cell? ⟨(ad102.add ((a2).toNat * 3)).block, (ad102.add ((a2).toNat * 3)).off + 1, none⟩ = some (.int .i64 ((yaa l1 a2).f1)) ∧ w'.cell? ⟨(ad102.add ((a2).toNat * 3)).block, (ad102.add ((a2).toNat * 3)).off + 2, none⟩ = some (.slice b7 ((yaa l1 a2).f2).length b8)) (ds := []) q95_0 (by kernel_rfl) rfl rfl ⟨((HB.out.cell (World.block_lt_of_cell? w _ b1)).trans b1), ((HB.out.cell (World.block_lt_of_cell? w _ b0)).trans b0), ((HB.out.cell (World.block_lt_of_cell? w _ a9)).trans a9), ((HB.out.cell (World.block_lt_of_cell? w _ b4)).trans b4), ((HB.out.cell (World.block_lt_of_cell? w _ b3)).trans b3), ((HB.out.cell (World.block_lt_of_cell? w _ b2)).trans b2)⟩ (fun hHeld => ?_); refine with_tabW laws_eqTenOutS.tab6 laws_eqTenOutS.bits6 (fun HT_ HW_ => ?_)
        generalize wr.drew = w9 at HB HR101_2 HR102_2 a3 a4 a5 a6 a7 a8 hHeld ⊢
        refine pz_ 0 17 q95_1 HT_ (by kernel_rfl) ?_
        refine pz_ 1 18 q95_2 HT_ (by kernel_rfl) ?_
        refine pz_ 2 19 q95_3 HT_ (by kernel_rfl) ?_
        refine pz_ 4 21 q95_4 HT_ (by kernel_rfl) ?_
        refine pz_ 5 22 q95_5 HT_ (by kernel_rfl) ?_
        refine pz_ 6 23 q95_6 HT_ (by kernel_rfl) ?_
        refine tz_ 3 20 q95_7 HT_ HW_ (by kernel_rfl) hHeld ?_
        refine tz_ 7 24 q95_8 HT_ HW_ (by kernel_rfl) hHeld ?_
        refine one_ (i := 8) (N := some 25) q95_9 rfl rfl (one_of HT_.out (by kernel_rfl)) (by decide) (fun K hK => ?_)
        refine goes_ Try.func132 (by kernel_rfl) rfl #[.agg #[.int .i64 ((yaa l0 a2).f0), .int .i64 ((yaa l0 a2).f1), .slice b5 ((yaa l0 a2).f2).length b6], .agg #[.int .i64 ((yaa l1 a2).f0), .int .i64 ((yaa l1 a2).f1), .slice b7 ((yaa l1 a2).f2).length b8]] (by rfl) rfl rfl (by (try simp only [List.map_toArray, List.map_cons, List.map_nil]); first | done | rfl | (simp only [List.length_drop, List.length_take]; rfl)) ?_
        with_reducible refine (laws_eqTenOut.calls k1 ((yaa l0 a2).f0) ((yaa l0 a2).f1) _ _ ((yaa l0 a2).f2) ((yaa l1 a2).f0) ((yaa l1 a2).f1) _ _ ((yaa l1 a2).f2) true _ ?side1 ?side2 ?side3 ?side4 A7.out).mono ?_
        (case side1 => repeat (first | exact (Kd.C_below HR101_2.out HB.out) | (with_reducible refine Kd.C_alloc ?_ _) | (with_reducible refine Kd.C_drewN ?_ _) | (with_reducible refine Kd.C_drew ?_)))
        (case side2 => exact HC101_2.out)
        (case side3 => repeat (first | exact (Kd.C_below HR102_2.out HB.out) | (with_reducible refine Kd.C_alloc ?_ _) | (with_reducible refine Kd.C_drewN ?_ _) | (with_reducible refine Kd.C_drew ?_)))
        (case side4 => exact HC102_2.out)
        rintro e w10 ⟨rfl, hb⟩; refine ⟨_, rfl, ?_⟩; replace HB := yab (below_step (upH HB.out) hb); (try clear hb); (try clear hb2); (try clear hk); (try clear hi)
        refine hK.out _ _ ⟨((HB.out.cell (World.block_lt_of_cell? w _ b1)).trans b1), ((HB.out.cell (World.block_lt_of_cell? w _ b0)).trans b0), ((HB.out.cell (World.block_lt_of_cell? w _ a9)).trans a9), ((HB.out.cell (World.block_lt_of_cell? w _ b4)).trans b4), ((HB.out.cell (World.block_lt_of_cell? w _ b3)).trans b3), ((HB.out.cell (World.block_lt_of_cell? w _ b2)).trans b2)⟩ (fun hHeld => ?_)
        clear hK K
        refine norm_ (a' := ?_) ?_ ?_
        rotate_left
        ·
         show Act.put _ (some 25) _ = _
         simp only [Act.put, List.setIfInBounds_toArray, List.set_cons_zero, List.set_cons_succ, i64_w, i32_w]
         rfl
        refine pz_ 9 26 q95_10 HT_ (by kernel_rfl) ?_
        refine done_ (done_of HT_.out (by kernel_rfl)) ?_
        try go_wp2
        go_roundg k1
        case measure => have := HK1.out; omega
        case rel => exact ⟨(wrap64 (a2 + 1)), (by first | rfl | (simp; done) | (simp [*]; done)), H', ⟨by have := HK1.out; omega⟩, ⟨upH HB.out⟩⟩
       ·
        replace c8 := Bool.eq_false_iff.mpr c8
        subst c8
        rw [if_neg (show ¬ (false = true) by decide)] at H
        obtain rfl := Option.some.inj H
        try go_wp2
        replace HB := yab (below_drew1 HB.out)
        have p101 : 0 ≤ (a2 : Int) := of_decide_eq_true (by first | (with_reducible assumption) | assumption)
        have q101 : a2 < (l0.length : Int) := of_decide_eq_true (by first | (with_reducible assumption) | assumption)
        obtain ⟨ad101, b5, b6, b9, a3, a4, a5, hl101_2, hi101_2⟩ := at_T158 HR0.out a2 p101 q101; have a9 := a5; have b0 := a4; have b1 := a3
        cases b9
        replace a3 := (HB.out.cell (World.block_lt_of_cell? w _ a3)).trans a3; replace a4 := (HB.out.cell (World.block_lt_of_cell? w _ a4)).trans a4; replace a5 := (HB.out.cell (World.block_lt_of_cell? w _ a5)).trans a5; have HR101_2 := yab hi101_2; have HC101_2 := yab hl101_2; clear hi101_2 hl101_2; replace p101 := eq_true p101; replace q101 := eq_true q101
        have p102 : 0 ≤ (a2 : Int) := of_decide_eq_true (by first | (with_reducible assumption) | assumption)
        have q102 : a2 < (l1.length : Int) := of_decide_eq_true (by first | (with_reducible assumption) | assumption)
        obtain ⟨ad102, b7, b8, c2, a6, a7, a8, hl102_2, hi102_2⟩ := at_T158 HR1.out a2 p102 q102; have b2 := a8; have b3 := a7; have b4 := a6
        cases c2
        replace a6 := (HB.out.cell (World.block_lt_of_cell? w _ a6)).trans a6; replace a7 := (HB.out.cell (World.block_lt_of_cell? w _ a7)).trans a7; replace a8 := (HB.out.cell (World.block_lt_of_cell? w _ a8)).trans a8; have HR102_2 := yab hi102_2; have HC102_2 := yab hl102_2; clear hi102_2 hl102_2; replace p102 := eq_true p102; replace q102 := eq_true q102
        refine start_ (n := 10) (S := fun w' => w'.cell? (ad101.add ((a2).toNat * 3)) = some (.int .i64 ((yaa l0 a2).f0)) ∧ w'.cell? ⟨(ad101.add ((a2).toNat * 3)).block, (ad101.add ((a2).toNat * 3)).off + 1, none⟩ = some (.int .i64 ((yaa l0 a2).f1)) ∧ w'.cell? ⟨(ad101.add ((a2).toNat * 3)).block, (ad101.add ((a2).toNat * 3)).off + 2, none⟩ = some (.slice b5 ((yaa l0 a2).f2).length b6) ∧ w'.cell? (ad102.add ((a2).toNat * 3)) = some (.int .i64 ((yaa l1 a2).f0)) ∧ w'.cell? ⟨(ad102.add ((a2).toNat * 3)).block, (ad102.add ((a2).toNat * 3)).off + 1, none⟩ = some (.int .i64 ((yaa l1 a2).f1)) ∧ w'.cell? ⟨(ad102.add ((a2).toNat * 3)).block, (ad102.add ((a2).toNat * 3)).off + 2, none⟩ = some (.slice b7 ((yaa l1 a2).f2).length b8)) (ds := []) q95_0 (by kernel_rfl) rfl rfl ⟨((HB.out.cell (World.block_lt_of_cell? w _ b1)).trans b1), ((HB.out.cell (World.block_lt_of_cell? w _ b0)).trans b0), ((HB.out.cell (World.block_lt_of_cell? w _ a9)).trans a9), ((HB.out.cell (World.block_lt_of_cell? w _ b4)).trans b4), ((HB.out.cell (World.block_lt_of_cell? w _ b3)).trans b3), ((HB.out.cell (World.block_lt_of_cell? w _ b2)).trans b2)⟩ (fun hHeld => ?_); refine with_tabW laws_eqTenOutS.tab6 laws_eqTenOutS.bits6 (fun HT_ HW_ => ?_)
        generalize wr.drew = w11 at HB HR101_2 HR102_2 a3 a4 a5 a6 a7 a8 hHeld ⊢
        refine pz_ 0 17 q95_1 HT_ (by kernel_rfl) ?_
        refine pz_ 1 18 q95_2 HT_ (by kernel_rfl) ?_
        refine pz_ 2 19 q95_3 HT_ (by kernel_rfl) ?_
        refine pz_ 4 21 q95_4 HT_ (by kernel_rfl) ?_
        refine pz_ 5 22 q95_5 HT_ (by kernel_rfl) ?_
        refine pz_ 6 23 q95_6 HT_ (by kernel_rfl) ?_
        refine tz_ 3 20 q95_7 HT_ HW_ (by kernel_rfl) hHeld ?_
        refine tz_ 7 24 q95_8 HT_ HW_ (by kernel_rfl) hHeld ?_
        refine one_ (i := 8) (N := some 25) q95_9 rfl rfl (one_of HT_.out (by kernel_rfl)) (by decide) (fun K hK => ?_)
        refine goes_ Try.func132 (by kernel_rfl) rfl #[.agg #[.int .i64 ((yaa l0 a2).f0), .int .i64 ((yaa l0 a2).f1), .slice b5 ((yaa l0 a2).f2).length b6], .agg #[.int .i64 ((yaa l1 a2).f0), .int .i64 ((yaa l1 a2).f1), .slice b7 ((yaa l1 a2).f2).length b8]] (by rfl) rfl rfl (by (try simp only [List.map_toArray, List.map_cons, List.map_nil]); first | done | rfl | (simp only [List.length_drop, List.length_take]; rfl)) ?_
        with_reducible refine (laws_eqTenOut.calls k1 ((yaa l0 a2).f0) ((yaa l0 a2).f1) _ _ ((yaa l0 a2).f2) ((yaa l1 a2).f0) ((yaa l1 a2).f1) _ _ ((yaa l1 a2).f2) false _ ?side1 ?side2 ?side3 ?side4 A7.out).mono ?_
        (case side1 => repeat (first | exact (Kd.C_below HR101_2.out HB.out) | (with_reducible refine Kd.C_alloc ?_ _) | (with_reducible refine Kd.C_drewN ?_ _) | (with_reducible refine Kd.C_drew ?_)))
        (case side2 => exact HC101_2.out)
        (case side3 => repeat (first | exact (Kd.C_below HR102_2.out HB.out) | (with_reducible refine Kd.C_alloc ?_ _) | (with_reducible refine Kd.C_drewN ?_ _) | (with_reducible refine Kd.C_drew ?_)))
        (case side4 => exact HC102_2.out)
        rintro e w12 ⟨rfl, hb⟩; refine ⟨_, rfl, ?_⟩; replace HB := yab (below_step (upH HB.out) hb); (try clear hb); (try clear hb2); (try clear hk); (try clear hi)
        refine hK.out _ _ ⟨((HB.out.cell (World.block_lt_of_cell? w _ b1)).trans b1), ((HB.out.cell (World.block_lt_of_cell? w _ b0)).trans b0), ((HB.out.cell (World.block_lt_of_cell? w _ a9)).trans a9), ((HB.out.cell (World.block_lt_of_cell? w _ b4)).trans b4), ((HB.out.cell (World.block_lt_of_cell? w _ b3)).trans b3), ((HB.out.cell (World.block_lt_of_cell? w _ b2)).trans b2)⟩ (fun hHeld => ?_)
        clear hK K
        refine norm_ (a' := ?_) ?_ ?_
        rotate_left
        ·
         show Act.put _ (some 25) _ = _
         simp only [Act.put, List.setIfInBounds_toArray, List.set_cons_zero, List.set_cons_succ, i64_w, i32_w]
         rfl
        refine pz_ 9 26 q95_10 HT_ (by kernel_rfl) ?_
        refine done_ (done_of HT_.out (by kernel_rfl)) ?_
        try go_wp2
        go_ret
        exact ⟨by first | rfl | (simp [*, errW_none, errW_some] <;> rfl), upH HB.out⟩
      ·
       rw [if_neg c6] at H
       exact absurd H (by simp)
     ·
      rw [if_neg c5] at H
      exact absurd H (by simp)
    ·
     rw [if_neg c4] at H
     have d1 : decide (a2 < (l0.length : Int)) = false := decide_eq_false c4; clear c4; obtain rfl := Option.some.inj H
     go_wp2
     go_ret
     exact ⟨by first | rfl | (simp [*, errW_none, errW_some] <;> rfl), upH HB.out⟩
 ·
  rw [if_neg c3] at H
  have c7 := beq_eq_false_iff_ne.mpr c3; have c9 := bne_iff_ne.mpr c3
  have d0 : (l0.length == l1.length) = false := by first | simpa using c3 | (simp at c3 ⊢; omega)
  obtain rfl := Option.some.inj H
  go_enter Try.func95, Try.ntmps95
  go_wp2
  go_ret
  exact ⟨by first | rfl | (simp [*, errW_none, errW_some] <;> rfl), upH HB.out⟩
end
section
open Go.Proofs.YtgpkkkmapgnhkaaW.PrintWords.Aside0 renaming mk → yaa
open Go.Proofs.YtgpkkkmapgnhkaaW.PrintWords renaming pw_below_drewN → yab, below_alloc → yac, below_drew1 → yad, below_set → yae, below_step → yaf, blk_below → yaj, below_size → yal, blk_frozen → yam
open Go.Proofs.YtgpkkkmapgnhkaaW.PrintWords.Kd renaming C_below → yag, C_alloc → yah, C_drewN → yai, C_drew → yak

def laws_eqTenState.f (k : Nat) (a0_0 : Int) (a0_1 : Int) (a0_2 : Int) (a0_3 : Int) (l0_4 : List (S124)) (l0_5 : List (S156)) (l0_6 : List ByteArray) (l0_7 : List (S158)) (a1_0 : Int) (a1_1 : Int) (a1_2 : Int) (a1_3 : Int) (l1_4 : List (S124)) (l1_5 : List (S156)) (l1_6 : List ByteArray) (l1_7 : List (S158)) : Option (Bool) := if a0_0 = a1_0 then (if a0_1 = a1_1 then (if a0_2 = a1_2 then (if a0_3 = a1_3 then ((laws_eqTenJobS.f k l0_4 l1_4).bind fun t103 => (if t103 = true then ((laws_eqTenFileS.f k l0_5 l1_5).bind fun t104 => (if t104 = true then ((laws_eqStringS.f k l0_6 l1_6).bind fun t105 => (if t105 = true then ((laws_eqTenOutS.f k l0_7 l1_7).bind fun t106 => (if t106 = true then (some true) else (some false))) else (some false))) else (some false))) else (some false))) else (some false)) else (some false)) else (some false)) else (some false)
set_option maxHeartbeats 8000000 in
set_option maxRecDepth 100000 in
theorem laws_eqTenState.calls (k : Nat) (a0_0 : Int) (a0_1 : Int) (a0_2 : Int) (a0_3 : Int) (A0_4 : Option Addr) (c0_4 : Nat) (l0_4 : List (S124)) (A0_5 : Option Addr) (c0_5 : Nat) (l0_5 : List (S156)) (A0_6 : Option Addr) (c0_6 : Nat) (l0_6 : List ByteArray) (A0_7 : Option Addr) (c0_7 : Nat) (l0_7 : List (S158)) (a1_0 : Int) (a1_1 : Int) (a1_2 : Int) (a1_3 : Int) (A1_4 : Option Addr) (c1_4 : Nat) (l1_4 : List (S124)) (A1_5 : Option Addr) (c1_5 : Nat) (l1_5 : List (S156)) (A1_6 : Option Addr) (c1_6 : Nat) (l1_6 : List ByteArray) (A1_7 : Option Addr) (c1_7 : Nat) (l1_7 : List (S158)) (r : Bool) (w : World) (hr0_4 : Kd.C k124 w A0_4 l0_4.length l0_4) (hc0_4 : l0_4.length ≤ c0_4) (hr0_5 : Kd.C k156 w A0_5 l0_5.length l0_5) (hc0_5 : l0_5.length ≤ c0_5) (hr0_6 : Kd.C Kd.string w A0_6 l0_6.length l0_6) (hc0_6 : l0_6.length ≤ c0_6) (hr0_7 : Kd.C k158 w A0_7 l0_7.length l0_7) (hc0_7 : l0_7.length ≤ c0_7) (hr1_4 : Kd.C k124 w A1_4 l1_4.length l1_4) (hc1_4 : l1_4.length ≤ c1_4) (hr1_5 : Kd.C k156 w A1_5 l1_5.length l1_5) (hc1_5 : l1_5.length ≤ c1_5) (hr1_6 : Kd.C Kd.string w A1_6 l1_6.length l1_6) (hc1_6 : l1_6.length ≤ c1_6) (hr1_7 : Kd.C k158 w A1_7 l1_7.length l1_7) (hc1_7 : l1_7.length ≤ c1_7) (h : laws_eqTenState.f k a0_0 a0_1 a0_2 a0_3 l0_4 l0_5 l0_6 l0_7 a1_0 a1_1 a1_2 a1_3 l1_4 l1_5 l1_6 l1_7 = some r) :
  Calls Try.prog 40 #[.agg #[.int .i64 a0_0, .int .i64 a0_1, .int .i64 a0_2, .int .i64 a0_3, .slice A0_4 l0_4.length c0_4, .slice A0_5 l0_5.length c0_5, .slice A0_6 l0_6.length c0_6, .slice A0_7 l0_7.length c0_7], .agg #[.int .i64 a1_0, .int .i64 a1_1, .int .i64 a1_2, .int .i64 a1_3, .slice A1_4 l1_4.length c1_4, .slice A1_5 l1_5.length c1_5, .slice A1_6 l1_6.length c1_6, .slice A1_7 l1_7.length c1_7]] w fun e w' => e = .returned (.bool r) ∧ Below w.heap.size w w' := by
 have hu63 := Try.underlying63; have HR0_4 := yaa hr0_4; have HC0_4 := yaa hc0_4; clear hr0_4 hc0_4; have HR0_5 := yaa hr0_5; have HC0_5 := yaa hc0_5; clear hr0_5 hc0_5; have HR0_6 := yaa hr0_6; have HC0_6 := yaa hc0_6; clear hr0_6 hc0_6; have HR0_7 := yaa hr0_7; have HC0_7 := yaa hc0_7; clear hr0_7 hc0_7; have HR1_4 := yaa hr1_4; have HC1_4 := yaa hc1_4; clear hr1_4 hc1_4; have HR1_5 := yaa hr1_5; have HC1_5 := yaa hc1_5; clear hr1_5 hc1_5; have HR1_6 := yaa hr1_6; have HC1_6 := yaa hc1_6; clear hr1_6 hc1_6; have HR1_7 := yaa hr1_7; have HC1_7 := yaa hc1_7; clear hr1_7 hc1_7; have HB := yaa (Below.refl w.heap.size w); have H : (if a0_0 = a1_0 then (if a0_1 = a1_1 then (if a0_2 = a1_2 then (if a0_3 = a1_3 then ((laws_eqTenJobS.f k l0_4 l1_4).bind fun c7 => (if c7 = true then ((laws_eqTenFileS.f k l0_5 l1_5).bind fun c9 => (if c9 = true then ((laws_eqStringS.f k l0_6 l1_6).bind fun d0 => (if d0 = true then ((laws_eqTenOutS.f k l0_7 l1_7).bind fun d1 => (if d1 = true then (some true) else (some false))) else (some false))) else (some false))) else (some false))) else (some false)) else (some false)) else (some false)) else (some false)) = some r := h; clear h
 by_cases c3 : a0_0 = a1_0
 ·
  rw [if_pos c3] at H
  have bB := beq_iff_eq.mpr c3; have bC := bne_eq_false_iff_eq.mpr c3; clear c3
  by_cases c4 : a0_1 = a1_1
  ·
   rw [if_pos c4] at H
   have bD := beq_iff_eq.mpr c4; have bE := bne_eq_false_iff_eq.mpr c4; clear c4
   by_cases c5 : a0_2 = a1_2
   ·
    rw [if_pos c5] at H
    have bF := beq_iff_eq.mpr c5; have bG := bne_eq_false_iff_eq.mpr c5; clear c5
    by_cases c6 : a0_3 = a1_3
    ·
     rw [if_pos c6] at H
     have bH := beq_iff_eq.mpr c6; have bI := bne_eq_false_iff_eq.mpr c6; clear c6; obtain ⟨c7, A7, H⟩ := bindA H; (try dsimp only at H)
     by_cases c8 : c7 = true
     ·
      subst c8
      rw [if_pos rfl] at H
      obtain ⟨c9, A9, H⟩ := bindA H; (try dsimp only at H)
      by_cases c10 : c9 = true
      ·
       subst c10
       rw [if_pos rfl] at H
       obtain ⟨d0, A11, H⟩ := bindA H; (try dsimp only at H)
       by_cases c12 : d0 = true
       ·
        subst c12
        rw [if_pos rfl] at H
        obtain ⟨d1, A13, H⟩ := bindA H; (try dsimp only at H)
        by_cases c14 : d1 = true
        ·
         subst c14
         rw [if_pos rfl] at H
         obtain rfl := Option.some.inj H
         go_enter Try.func40, Try.ntmps40
         go_wp2_with (first | ((with_reducible refine gd_ 2 rfl ?_); refine bx_ 2 rfl #[.int .i64 a0_0, .int .i64 a0_1, .int .i64 a0_2, .int .i64 a0_3, .slice A0_4 l0_4.length c0_4, .slice A0_5 l0_5.length c0_5, .slice A0_6 l0_6.length c0_6, .slice A0_7 l0_7.length c0_7] 63 ?_; intro b4 hg w15 hbox hb; have b0 := yaa (hbox); have b7 := yaa ((by rw [hg]; exact (yal (upH HB.out)) : w.heap.size ≤ b4)); replace HB := yaa (yaf (upH HB.out) hb); have c1 := b7; clear hb hbox hg) | ((with_reducible refine gd_ 3 rfl ?_); refine bx_ 3 rfl #[.int .i64 a1_0, .int .i64 a1_1, .int .i64 a1_2, .int .i64 a1_3, .slice A1_4 l1_4.length c1_4, .slice A1_5 l1_5.length c1_5, .slice A1_6 l1_6.length c1_6, .slice A1_7 l1_7.length c1_7] 63 ?_; intro b5 hg w16 hbox hb; have b1 := yaa (hbox); have b8 := yaa ((by rw [hg]; exact (yal (by repeat (with_reducible first | exact HB.out | apply yac | apply yab | apply yad | refine yae ?_ (Aside0.out ‹_›)))) : w.heap.size ≤ b5)); replace HB := yaa (yaf (by repeat (with_reducible first | exact HB.out | apply yac | apply yab | apply yad | refine yae ?_ (Aside0.out ‹_›))) hb); have c2 := b8; have b2 := yaa ((by rw [hg]; exact Nat.ne_of_lt (blk_lt (upB b0.out)) : b4 ≠ b5)); replace b0 := yaa (yaj (upB b0.out) hb); have b3 := yaa b2.out.symm; clear hb hbox hg; have bJ := b2.out; have bK := b3.out; obtain ⟨d2, d3, d4, d5, d6, d7, d8, d9⟩ := cc8_ b0.out; obtain ⟨e0, e1, e2, e3, e4, e5, e6, e7⟩ := cf8_ b0.out; obtain ⟨e8, e9, f0, f1, f2, f3, f4, f5⟩ := cc8_ b1.out; obtain ⟨f6, f7, f8, f9, g0, g1, g2⟩ := cf7_ b1.out; have g3 := yam b1.out 7) | ((with_reducible refine gc_ 92 rfl ?_); refine gl_ (some 29) rfl Try.func92 #[.slice A0_4 l0_4.length c0_4, .slice A1_4 l1_4.length c1_4] ?_; (with_reducible refine (laws_eqTenJobS.calls k _ _ l0_4 _ _ l1_4 true _ ?side1 ?side2 ?side3 ?side4 A7.out).mono ?_); (case side1 => repeat (first | exact (yag HR0_4.out HB.out) | (with_reducible refine yah ?_ _) | (with_reducible refine yai ?_ _) | (with_reducible refine yak ?_))); (case side2 => exact HC0_4.out); (case side3 => repeat (first | exact (yag HR1_4.out HB.out) | (with_reducible refine yah ?_ _) | (with_reducible refine yai ?_ _) | (with_reducible refine yak ?_))); (case side4 => exact HC1_4.out); rintro e w20 ⟨rfl, hb⟩; refine ⟨_, rfl, ?_⟩; replace b0 := yaa (yaj (upB b0.out) hb); replace b1 := yaa (yaj (upB b1.out) hb); replace HB := yaa (yaf (by repeat (with_reducible first | exact HB.out | apply yac | apply yab | apply yad | refine yae ?_ (Aside0.out ‹_›))) hb); (try clear hb); obtain ⟨g4, g5, g6, g7, g8, g9, h0, h1⟩ := cc8_ b0.out; obtain ⟨h2, h3, h4, h5, h6, h7, h8, h9⟩ := cf8_ b0.out; obtain ⟨i0, i1, i2, i3, i4, i5, i6, i7⟩ := cc8_ b1.out; obtain ⟨i8, i9, j0, j1, j2, j3, j4⟩ := cf7_ b1.out; have j5 := yam b1.out 7) | ((with_reducible refine gc_ 93 rfl ?_); refine gl_ (some 35) rfl Try.func93 #[.slice A0_5 l0_5.length c0_5, .slice A1_5 l1_5.length c1_5] ?_; (with_reducible refine (laws_eqTenFileS.calls k _ _ l0_5 _ _ l1_5 true _ ?side1 ?side2 ?side3 ?side4 A9.out).mono ?_); (case side1 => repeat (first | exact (yag HR0_5.out HB.out) | (with_reducible refine yah ?_ _) | (with_reducible refine yai ?_ _) | (with_reducible refine yak ?_))); (case side2 => exact HC0_5.out); (case side3 => repeat (first | exact (yag HR1_5.out HB.out) | (with_reducible refine yah ?_ _) | (with_reducible refine yai ?_ _) | (with_reducible refine yak ?_))); (case side4 => exact HC1_5.out); rintro e w23 ⟨rfl, hb⟩; refine ⟨_, rfl, ?_⟩; replace b0 := yaa (yaj (upB b0.out) hb); replace b1 := yaa (yaj (upB b1.out) hb); replace HB := yaa (yaf (by repeat (with_reducible first | exact HB.out | apply yac | apply yab | apply yad | refine yae ?_ (Aside0.out ‹_›))) hb); (try clear hb); obtain ⟨j6, j7, j8, j9, k0, k1, k2, k3⟩ := cc8_ b0.out; obtain ⟨k4, k5, k6, k7, k8, k9, l0, l1⟩ := cf8_ b0.out; obtain ⟨l2, l3, l4, l5, l6, l7, l8, l9⟩ := cc8_ b1.out; obtain ⟨m0, m1, m2, m3, m4, m5, m6⟩ := cf7_ b1.out; have m7 := yam b1.out 7) | ((with_reducible refine gc_ 94 rfl ?_); refine gl_ (some 41) rfl Try.func94 #[.slice A0_6 l0_6.length c0_6, .slice A1_6 l1_6.length c1_6] ?_; (with_reducible refine (laws_eqStringS.calls k _ _ l0_6 _ _ l1_6 true _ ?side1 ?side2 ?side3 ?side4 A11.out).mono ?_); (case side1 => repeat (first | exact (yag HR0_6.out HB.out) | (with_reducible refine yah ?_ _) | (with_reducible refine yai ?_ _) | (with_reducible refine yak ?_))); (case side2 => exact HC0_6.out); (case side3 => repeat (first | exact (yag HR1_6.out HB.out) | (with_reducible refine yah ?_ _) | (with_reducible refine yai ?_ _) | (with_reducible refine yak ?_))); (case side4 => exact HC1_6.out); rintro e w' ⟨rfl, ⟨nd, rfl⟩⟩; refine ⟨_, rfl, ?_⟩) | ((with_reducible refine gc_ 95 rfl ?_); refine gl_ (some 47) rfl Try.func95 #[.slice A0_7 l0_7.length c0_7, .slice A1_7 l1_7.length c1_7] ?_; (with_reducible refine (laws_eqTenOutS.calls k _ _ l0_7 _ _ l1_7 true _ ?side1 ?side2 ?side3 ?side4 A13.out).mono ?_); (case side1 => repeat (first | exact (yag HR0_7.out (by repeat (with_reducible first | exact HB.out | apply yac | apply yab | apply yad | refine yae ?_ (Aside0.out ‹_›)))) | (with_reducible refine yah ?_ _) | (with_reducible refine yai ?_ _) | (with_reducible refine yak ?_))); (case side2 => exact HC0_7.out); (case side3 => repeat (first | exact (yag HR1_7.out (by repeat (with_reducible first | exact HB.out | apply yac | apply yab | apply yad | refine yae ?_ (Aside0.out ‹_›)))) | (with_reducible refine yah ?_ _) | (with_reducible refine yai ?_ _) | (with_reducible refine yak ?_))); (case side4 => exact HC1_7.out); rintro e w26 ⟨rfl, hb⟩; refine ⟨_, rfl, ?_⟩; replace b0 := yaa (yaj (upB b0.out) hb); replace b1 := yaa (yaj (upB b1.out) hb); replace HB := yaa (yaf (by repeat (with_reducible first | exact HB.out | apply yac | apply yab | apply yad | refine yae ?_ (Aside0.out ‹_›))) hb); (try clear hb)))
         go_ret
         exact ⟨by first | rfl | (simp [*, errW_none, errW_some] <;> rfl), by repeat (with_reducible first | exact HB.out | apply yac | apply yab | apply yad | refine yae ?_ (Aside0.out ‹_›))⟩
        ·
         replace c14 := Bool.eq_false_iff.mpr c14
         subst c14
         rw [if_neg (show ¬ (false = true) by decide)] at H
         obtain rfl := Option.some.inj H
         go_enter Try.func40, Try.ntmps40
         go_wp2_with (first | ((with_reducible refine gd_ 2 rfl ?_); refine bx_ 2 rfl #[.int .i64 a0_0, .int .i64 a0_1, .int .i64 a0_2, .int .i64 a0_3, .slice A0_4 l0_4.length c0_4, .slice A0_5 l0_5.length c0_5, .slice A0_6 l0_6.length c0_6, .slice A0_7 l0_7.length c0_7] 63 ?_; intro b4 hg w27 hbox hb; have b0 := yaa (hbox); have b7 := yaa ((by rw [hg]; exact (yal (upH HB.out)) : w.heap.size ≤ b4)); replace HB := yaa (yaf (upH HB.out) hb); have c1 := b7; clear hb hbox hg) | ((with_reducible refine gd_ 3 rfl ?_); refine bx_ 3 rfl #[.int .i64 a1_0, .int .i64 a1_1, .int .i64 a1_2, .int .i64 a1_3, .slice A1_4 l1_4.length c1_4, .slice A1_5 l1_5.length c1_5, .slice A1_6 l1_6.length c1_6, .slice A1_7 l1_7.length c1_7] 63 ?_; intro b5 hg w28 hbox hb; have b1 := yaa (hbox); have b8 := yaa ((by rw [hg]; exact (yal (by repeat (with_reducible first | exact HB.out | apply yac | apply yab | apply yad | refine yae ?_ (Aside0.out ‹_›)))) : w.heap.size ≤ b5)); replace HB := yaa (yaf (by repeat (with_reducible first | exact HB.out | apply yac | apply yab | apply yad | refine yae ?_ (Aside0.out ‹_›))) hb); have c2 := b8; have b2 := yaa ((by rw [hg]; exact Nat.ne_of_lt (blk_lt (upB b0.out)) : b4 ≠ b5)); replace b0 := yaa (yaj (upB b0.out) hb); have b3 := yaa b2.out.symm; clear hb hbox hg; have bL := b2.out; have bM := b3.out; obtain ⟨m8, m9, n0, n1, n2, n3, n4, n5⟩ := cc8_ b0.out; obtain ⟨n6, n7, n8, n9, o0, o1, o2, o3⟩ := cf8_ b0.out; obtain ⟨o4, o5, o6, o7, o8, o9, p0, p1⟩ := cc8_ b1.out; obtain ⟨p2, p3, p4, p5, p6, p7, p8⟩ := cf7_ b1.out; have p9 := yam b1.out 7) | ((with_reducible refine gc_ 92 rfl ?_); refine gl_ (some 29) rfl Try.func92 #[.slice A0_4 l0_4.length c0_4, .slice A1_4 l1_4.length c1_4] ?_; (with_reducible refine (laws_eqTenJobS.calls k _ _ l0_4 _ _ l1_4 true _ ?side1 ?side2 ?side3 ?side4 A7.out).mono ?_); (case side1 => repeat (first | exact (yag HR0_4.out HB.out) | (with_reducible refine yah ?_ _) | (with_reducible refine yai ?_ _) | (with_reducible refine yak ?_))); (case side2 => exact HC0_4.out); (case side3 => repeat (first | exact (yag HR1_4.out HB.out) | (with_reducible refine yah ?_ _) | (with_reducible refine yai ?_ _) | (with_reducible refine yak ?_))); (case side4 => exact HC1_4.out); rintro e w32 ⟨rfl, hb⟩; refine ⟨_, rfl, ?_⟩; replace b0 := yaa (yaj (upB b0.out) hb); replace b1 := yaa (yaj (upB b1.out) hb); replace HB := yaa (yaf (by repeat (with_reducible first | exact HB.out | apply yac | apply yab | apply yad | refine yae ?_ (Aside0.out ‹_›))) hb); (try clear hb); obtain ⟨q0, q1, q2, q3, q4, q5, q6, q7⟩ := cc8_ b0.out; obtain ⟨q8, q9, r0, r1, r2, r3, r4, r5⟩ := cf8_ b0.out; obtain ⟨r6, r7, r8, r9, s0, s1, s2, s3⟩ := cc8_ b1.out; obtain ⟨s4, s5, s6, s7, s8, s9, t0⟩ := cf7_ b1.out; have t1 := yam b1.out 7) | ((with_reducible refine gc_ 93 rfl ?_); refine gl_ (some 35) rfl Try.func93 #[.slice A0_5 l0_5.length c0_5, .slice A1_5 l1_5.length c1_5] ?_; (with_reducible refine (laws_eqTenFileS.calls k _ _ l0_5 _ _ l1_5 true _ ?side1 ?side2 ?side3 ?side4 A9.out).mono ?_); (case side1 => repeat (first | exact (yag HR0_5.out HB.out) | (with_reducible refine yah ?_ _) | (with_reducible refine yai ?_ _) | (with_reducible refine yak ?_))); (case side2 => exact HC0_5.out); (case side3 => repeat (first | exact (yag HR1_5.out HB.out) | (with_reducible refine yah ?_ _) | (with_reducible refine yai ?_ _) | (with_reducible refine yak ?_))); (case side4 => exact HC1_5.out); rintro e w35 ⟨rfl, hb⟩; refine ⟨_, rfl, ?_⟩; replace b0 := yaa (yaj (upB b0.out) hb); replace b1 := yaa (yaj (upB b1.out) hb); replace HB := yaa (yaf (by repeat (with_reducible first | exact HB.out | apply yac | apply yab | apply yad | refine yae ?_ (Aside0.out ‹_›))) hb); (try clear hb); obtain ⟨t2, t3, t4, t5, t6, t7, t8, t9⟩ := cc8_ b0.out; obtain ⟨u0, u1, u2, u3, u4, u5, u6, u7⟩ := cf8_ b0.out; obtain ⟨u8, u9, v0, v1, v2, v3, v4, v5⟩ := cc8_ b1.out; obtain ⟨v6, v7, v8, v9, w0, w1, w2⟩ := cf7_ b1.out; have w3 := yam b1.out 7) | ((with_reducible refine gc_ 94 rfl ?_); refine gl_ (some 41) rfl Try.func94 #[.slice A0_6 l0_6.length c0_6, .slice A1_6 l1_6.length c1_6] ?_; (with_reducible refine (laws_eqStringS.calls k _ _ l0_6 _ _ l1_6 true _ ?side1 ?side2 ?side3 ?side4 A11.out).mono ?_); (case side1 => repeat (first | exact (yag HR0_6.out HB.out) | (with_reducible refine yah ?_ _) | (with_reducible refine yai ?_ _) | (with_reducible refine yak ?_))); (case side2 => exact HC0_6.out); (case side3 => repeat (first | exact (yag HR1_6.out HB.out) | (with_reducible refine yah ?_ _) | (with_reducible refine yai ?_ _) | (with_reducible refine yak ?_))); (case side4 => exact HC1_6.out); rintro e w' ⟨rfl, ⟨nd, rfl⟩⟩; refine ⟨_, rfl, ?_⟩) | ((with_reducible refine gc_ 95 rfl ?_); refine gl_ (some 47) rfl Try.func95 #[.slice A0_7 l0_7.length c0_7, .slice A1_7 l1_7.length c1_7] ?_; (with_reducible refine (laws_eqTenOutS.calls k _ _ l0_7 _ _ l1_7 false _ ?side1 ?side2 ?side3 ?side4 A13.out).mono ?_); (case side1 => repeat (first | exact (yag HR0_7.out (by repeat (with_reducible first | exact HB.out | apply yac | apply yab | apply yad | refine yae ?_ (Aside0.out ‹_›)))) | (with_reducible refine yah ?_ _) | (with_reducible refine yai ?_ _) | (with_reducible refine yak ?_))); (case side2 => exact HC0_7.out); (case side3 => repeat (first | exact (yag HR1_7.out (by repeat (with_reducible first | exact HB.out | apply yac | apply yab | apply yad | refine yae ?_ (Aside0.out ‹_›)))) | (with_reducible refine yah ?_ _) | (with_reducible refine yai ?_ _) | (with_reducible refine yak ?_))); (case side4 => exact HC1_7.out); rintro e w38 ⟨rfl, hb⟩; refine ⟨_, rfl, ?_⟩; replace b0 := yaa (yaj (upB b0.out) hb); replace b1 := yaa (yaj (upB b1.out) hb); replace HB := yaa (yaf (by repeat (with_reducible first | exact HB.out | apply yac | apply yab | apply yad | refine yae ?_ (Aside0.out ‹_›))) hb); (try clear hb)))
         go_ret
         exact ⟨by first | rfl | (simp [*, errW_none, errW_some] <;> rfl), by repeat (with_reducible first | exact HB.out | apply yac | apply yab | apply yad | refine yae ?_ (Aside0.out ‹_›))⟩
       ·
        replace c12 := Bool.eq_false_iff.mpr c12
        subst c12
        rw [if_neg (show ¬ (false = true) by decide)] at H
        obtain rfl := Option.some.inj H
        go_enter Try.func40, Try.ntmps40
        go_wp2_with (first | ((with_reducible refine gd_ 2 rfl ?_); refine bx_ 2 rfl #[.int .i64 a0_0, .int .i64 a0_1, .int .i64 a0_2, .int .i64 a0_3, .slice A0_4 l0_4.length c0_4, .slice A0_5 l0_5.length c0_5, .slice A0_6 l0_6.length c0_6, .slice A0_7 l0_7.length c0_7] 63 ?_; intro b4 hg w39 hbox hb; have b0 := yaa (hbox); have b7 := yaa ((by rw [hg]; exact (yal (upH HB.out)) : w.heap.size ≤ b4)); replace HB := yaa (yaf (upH HB.out) hb); have c1 := b7; clear hb hbox hg) | ((with_reducible refine gd_ 3 rfl ?_); refine bx_ 3 rfl #[.int .i64 a1_0, .int .i64 a1_1, .int .i64 a1_2, .int .i64 a1_3, .slice A1_4 l1_4.length c1_4, .slice A1_5 l1_5.length c1_5, .slice A1_6 l1_6.length c1_6, .slice A1_7 l1_7.length c1_7] 63 ?_; intro b5 hg w40 hbox hb; have b1 := yaa (hbox); have b8 := yaa ((by rw [hg]; exact (yal (by repeat (with_reducible first | exact HB.out | apply yac | apply yab | apply yad | refine yae ?_ (Aside0.out ‹_›)))) : w.heap.size ≤ b5)); replace HB := yaa (yaf (by repeat (with_reducible first | exact HB.out | apply yac | apply yab | apply yad | refine yae ?_ (Aside0.out ‹_›))) hb); have c2 := b8; have b2 := yaa ((by rw [hg]; exact Nat.ne_of_lt (blk_lt (upB b0.out)) : b4 ≠ b5)); replace b0 := yaa (yaj (upB b0.out) hb); have b3 := yaa b2.out.symm; clear hb hbox hg; have bN := b2.out; have bO := b3.out; obtain ⟨w4, w5, w6, w7, w8, w9, x0, x1⟩ := cc8_ b0.out; obtain ⟨x2, x3, x4, x5, x6, x7, x8, x9⟩ := cf8_ b0.out; obtain ⟨y0, y1, y2, y3, y4, y5, y6, y7⟩ := cc8_ b1.out; obtain ⟨y8, y9, z0, z1, z2, z3, z4⟩ := cf7_ b1.out; have z5 := yam b1.out 7) | ((with_reducible refine gc_ 92 rfl ?_); refine gl_ (some 29) rfl Try.func92 #[.slice A0_4 l0_4.length c0_4, .slice A1_4 l1_4.length c1_4] ?_; (with_reducible refine (laws_eqTenJobS.calls k _ _ l0_4 _ _ l1_4 true _ ?side1 ?side2 ?side3 ?side4 A7.out).mono ?_); (case side1 => repeat (first | exact (yag HR0_4.out HB.out) | (with_reducible refine yah ?_ _) | (with_reducible refine yai ?_ _) | (with_reducible refine yak ?_))); (case side2 => exact HC0_4.out); (case side3 => repeat (first | exact (yag HR1_4.out HB.out) | (with_reducible refine yah ?_ _) | (with_reducible refine yai ?_ _) | (with_reducible refine yak ?_))); (case side4 => exact HC1_4.out); rintro e w44 ⟨rfl, hb⟩; refine ⟨_, rfl, ?_⟩; replace b0 := yaa (yaj (upB b0.out) hb); replace b1 := yaa (yaj (upB b1.out) hb); replace HB := yaa (yaf (by repeat (with_reducible first | exact HB.out | apply yac | apply yab | apply yad | refine yae ?_ (Aside0.out ‹_›))) hb); (try clear hb); obtain ⟨z6, z7, z8, z9, A0, A1, A2, A3⟩ := cc8_ b0.out; obtain ⟨A4, A5, A6, A8, B0, B1, B2, B3⟩ := cf8_ b0.out; obtain ⟨B4, B5, B6, B7, B8, B9, C0, C1⟩ := cc8_ b1.out; obtain ⟨C2, C3, C4, C5, C6, C7, C8⟩ := cf7_ b1.out; have C9 := yam b1.out 7) | ((with_reducible refine gc_ 93 rfl ?_); refine gl_ (some 35) rfl Try.func93 #[.slice A0_5 l0_5.length c0_5, .slice A1_5 l1_5.length c1_5] ?_; (with_reducible refine (laws_eqTenFileS.calls k _ _ l0_5 _ _ l1_5 true _ ?side1 ?side2 ?side3 ?side4 A9.out).mono ?_); (case side1 => repeat (first | exact (yag HR0_5.out HB.out) | (with_reducible refine yah ?_ _) | (with_reducible refine yai ?_ _) | (with_reducible refine yak ?_))); (case side2 => exact HC0_5.out); (case side3 => repeat (first | exact (yag HR1_5.out HB.out) | (with_reducible refine yah ?_ _) | (with_reducible refine yai ?_ _) | (with_reducible refine yak ?_))); (case side4 => exact HC1_5.out); rintro e w47 ⟨rfl, hb⟩; refine ⟨_, rfl, ?_⟩; replace b0 := yaa (yaj (upB b0.out) hb); replace b1 := yaa (yaj (upB b1.out) hb); replace HB := yaa (yaf (by repeat (with_reducible first | exact HB.out | apply yac | apply yab | apply yad | refine yae ?_ (Aside0.out ‹_›))) hb); (try clear hb); obtain ⟨D0, D1, D2, D3, D4, D5, D6, D7⟩ := cc8_ b0.out; obtain ⟨D8, D9, E0, E1, E2, E3, E4, E5⟩ := cf8_ b0.out; obtain ⟨E6, E7, E8, E9, F0, F1, F2, F3⟩ := cc8_ b1.out; obtain ⟨F4, F5, F6, F7, F8, F9, G0⟩ := cf7_ b1.out; have G1 := yam b1.out 7) | ((with_reducible refine gc_ 94 rfl ?_); refine gl_ (some 41) rfl Try.func94 #[.slice A0_6 l0_6.length c0_6, .slice A1_6 l1_6.length c1_6] ?_; (with_reducible refine (laws_eqStringS.calls k _ _ l0_6 _ _ l1_6 false _ ?side1 ?side2 ?side3 ?side4 A11.out).mono ?_); (case side1 => repeat (first | exact (yag HR0_6.out HB.out) | (with_reducible refine yah ?_ _) | (with_reducible refine yai ?_ _) | (with_reducible refine yak ?_))); (case side2 => exact HC0_6.out); (case side3 => repeat (first | exact (yag HR1_6.out HB.out) | (with_reducible refine yah ?_ _) | (with_reducible refine yai ?_ _) | (with_reducible refine yak ?_))); (case side4 => exact HC1_6.out); rintro e w' ⟨rfl, ⟨nd, rfl⟩⟩; refine ⟨_, rfl, ?_⟩))
        go_ret
        exact ⟨by first | rfl | (simp [*, errW_none, errW_some] <;> rfl), by repeat (with_reducible first | exact HB.out | apply yac | apply yab | apply yad | refine yae ?_ (Aside0.out ‹_›))⟩
      ·
       replace c10 := Bool.eq_false_iff.mpr c10
       subst c10
       rw [if_neg (show ¬ (false = true) by decide)] at H
       obtain rfl := Option.some.inj H
       go_enter Try.func40, Try.ntmps40
       go_wp2_with (first | ((with_reducible refine gd_ 2 rfl ?_); refine bx_ 2 rfl #[.int .i64 a0_0, .int .i64 a0_1, .int .i64 a0_2, .int .i64 a0_3, .slice A0_4 l0_4.length c0_4, .slice A0_5 l0_5.length c0_5, .slice A0_6 l0_6.length c0_6, .slice A0_7 l0_7.length c0_7] 63 ?_; intro b4 hg w50 hbox hb; have b0 := yaa (hbox); have b7 := yaa ((by rw [hg]; exact (yal (upH HB.out)) : w.heap.size ≤ b4)); replace HB := yaa (yaf (upH HB.out) hb); have c1 := b7; clear hb hbox hg) | ((with_reducible refine gd_ 3 rfl ?_); refine bx_ 3 rfl #[.int .i64 a1_0, .int .i64 a1_1, .int .i64 a1_2, .int .i64 a1_3, .slice A1_4 l1_4.length c1_4, .slice A1_5 l1_5.length c1_5, .slice A1_6 l1_6.length c1_6, .slice A1_7 l1_7.length c1_7] 63 ?_; intro b5 hg w51 hbox hb; have b1 := yaa (hbox); have b8 := yaa ((by rw [hg]; exact (yal (by repeat (with_reducible first | exact HB.out | apply yac | apply yab | apply yad | refine yae ?_ (Aside0.out ‹_›)))) : w.heap.size ≤ b5)); replace HB := yaa (yaf (by repeat (with_reducible first | exact HB.out | apply yac | apply yab | apply yad | refine yae ?_ (Aside0.out ‹_›))) hb); have c2 := b8; have b2 := yaa ((by rw [hg]; exact Nat.ne_of_lt (blk_lt (upB b0.out)) : b4 ≠ b5)); replace b0 := yaa (yaj (upB b0.out) hb); have b3 := yaa b2.out.symm; clear hb hbox hg; have bP := b2.out; have bQ := b3.out; obtain ⟨G2, G3, G4, G5, G6, G7, G8, G9⟩ := cc8_ b0.out; obtain ⟨H0, H1, H2, H3, H4, H5, H6, H7⟩ := cf8_ b0.out; obtain ⟨H8, H9, I0, I1, I2, I3, I4, I5⟩ := cc8_ b1.out; obtain ⟨I6, I7, I8, I9, J0, J1, J2⟩ := cf7_ b1.out; have J3 := yam b1.out 7) | ((with_reducible refine gc_ 92 rfl ?_); refine gl_ (some 29) rfl Try.func92 #[.slice A0_4 l0_4.length c0_4, .slice A1_4 l1_4.length c1_4] ?_; (with_reducible refine (laws_eqTenJobS.calls k _ _ l0_4 _ _ l1_4 true _ ?side1 ?side2 ?side3 ?side4 A7.out).mono ?_); (case side1 => repeat (first | exact (yag HR0_4.out HB.out) | (with_reducible refine yah ?_ _) | (with_reducible refine yai ?_ _) | (with_reducible refine yak ?_))); (case side2 => exact HC0_4.out); (case side3 => repeat (first | exact (yag HR1_4.out HB.out) | (with_reducible refine yah ?_ _) | (with_reducible refine yai ?_ _) | (with_reducible refine yak ?_))); (case side4 => exact HC1_4.out); rintro e w55 ⟨rfl, hb⟩; refine ⟨_, rfl, ?_⟩; replace b0 := yaa (yaj (upB b0.out) hb); replace b1 := yaa (yaj (upB b1.out) hb); replace HB := yaa (yaf (by repeat (with_reducible first | exact HB.out | apply yac | apply yab | apply yad | refine yae ?_ (Aside0.out ‹_›))) hb); (try clear hb); obtain ⟨J4, J5, J6, J7, J8, J9, K0, K1⟩ := cc8_ b0.out; obtain ⟨K2, K3, K4, K5, K6, K7, K8, K9⟩ := cf8_ b0.out; obtain ⟨L0, L1, L2, L3, L4, L5, L6, L7⟩ := cc8_ b1.out; obtain ⟨L8, L9, M0, M1, M2, M3, M4⟩ := cf7_ b1.out; have M5 := yam b1.out 7) | ((with_reducible refine gc_ 93 rfl ?_); refine gl_ (some 35) rfl Try.func93 #[.slice A0_5 l0_5.length c0_5, .slice A1_5 l1_5.length c1_5] ?_; (with_reducible refine (laws_eqTenFileS.calls k _ _ l0_5 _ _ l1_5 false _ ?side1 ?side2 ?side3 ?side4 A9.out).mono ?_); (case side1 => repeat (first | exact (yag HR0_5.out HB.out) | (with_reducible refine yah ?_ _) | (with_reducible refine yai ?_ _) | (with_reducible refine yak ?_))); (case side2 => exact HC0_5.out); (case side3 => repeat (first | exact (yag HR1_5.out HB.out) | (with_reducible refine yah ?_ _) | (with_reducible refine yai ?_ _) | (with_reducible refine yak ?_))); (case side4 => exact HC1_5.out); rintro e w58 ⟨rfl, hb⟩; refine ⟨_, rfl, ?_⟩; replace b0 := yaa (yaj (upB b0.out) hb); replace b1 := yaa (yaj (upB b1.out) hb); replace HB := yaa (yaf (by repeat (with_reducible first | exact HB.out | apply yac | apply yab | apply yad | refine yae ?_ (Aside0.out ‹_›))) hb); (try clear hb)))
       go_ret
       exact ⟨by first | rfl | (simp [*, errW_none, errW_some] <;> rfl), by repeat (with_reducible first | exact HB.out | apply yac | apply yab | apply yad | refine yae ?_ (Aside0.out ‹_›))⟩
     ·
      replace c8 := Bool.eq_false_iff.mpr c8
      subst c8
      rw [if_neg (show ¬ (false = true) by decide)] at H
      obtain rfl := Option.some.inj H
      go_enter Try.func40, Try.ntmps40
      go_wp2_with (first | ((with_reducible refine gd_ 2 rfl ?_); refine bx_ 2 rfl #[.int .i64 a0_0, .int .i64 a0_1, .int .i64 a0_2, .int .i64 a0_3, .slice A0_4 l0_4.length c0_4, .slice A0_5 l0_5.length c0_5, .slice A0_6 l0_6.length c0_6, .slice A0_7 l0_7.length c0_7] 63 ?_; intro b4 hg w59 hbox hb; have b0 := yaa (hbox); have b7 := yaa ((by rw [hg]; exact (yal (upH HB.out)) : w.heap.size ≤ b4)); replace HB := yaa (yaf (upH HB.out) hb); have c1 := b7; clear hb hbox hg) | ((with_reducible refine gd_ 3 rfl ?_); refine bx_ 3 rfl #[.int .i64 a1_0, .int .i64 a1_1, .int .i64 a1_2, .int .i64 a1_3, .slice A1_4 l1_4.length c1_4, .slice A1_5 l1_5.length c1_5, .slice A1_6 l1_6.length c1_6, .slice A1_7 l1_7.length c1_7] 63 ?_; intro b5 hg w60 hbox hb; have b1 := yaa (hbox); have b8 := yaa ((by rw [hg]; exact (yal (by repeat (with_reducible first | exact HB.out | apply yac | apply yab | apply yad | refine yae ?_ (Aside0.out ‹_›)))) : w.heap.size ≤ b5)); replace HB := yaa (yaf (by repeat (with_reducible first | exact HB.out | apply yac | apply yab | apply yad | refine yae ?_ (Aside0.out ‹_›))) hb); have c2 := b8; have b2 := yaa ((by rw [hg]; exact Nat.ne_of_lt (blk_lt (upB b0.out)) : b4 ≠ b5)); replace b0 := yaa (yaj (upB b0.out) hb); have b3 := yaa b2.out.symm; clear hb hbox hg; have bR := b2.out; have bS := b3.out; obtain ⟨M6, M7, M8, M9, N0, N1, N2, N3⟩ := cc8_ b0.out; obtain ⟨N4, N5, N6, N7, N8, N9, O0, O1⟩ := cf8_ b0.out; obtain ⟨O2, O3, O4, O5, O6, O7, O8, O9⟩ := cc8_ b1.out; obtain ⟨P0, P1, P2, P3, P4, P5, P6⟩ := cf7_ b1.out; have P7 := yam b1.out 7) | ((with_reducible refine gc_ 92 rfl ?_); refine gl_ (some 29) rfl Try.func92 #[.slice A0_4 l0_4.length c0_4, .slice A1_4 l1_4.length c1_4] ?_; (with_reducible refine (laws_eqTenJobS.calls k _ _ l0_4 _ _ l1_4 false _ ?side1 ?side2 ?side3 ?side4 A7.out).mono ?_); (case side1 => repeat (first | exact (yag HR0_4.out HB.out) | (with_reducible refine yah ?_ _) | (with_reducible refine yai ?_ _) | (with_reducible refine yak ?_))); (case side2 => exact HC0_4.out); (case side3 => repeat (first | exact (yag HR1_4.out HB.out) | (with_reducible refine yah ?_ _) | (with_reducible refine yai ?_ _) | (with_reducible refine yak ?_))); (case side4 => exact HC1_4.out); rintro e w64 ⟨rfl, hb⟩; refine ⟨_, rfl, ?_⟩; replace b0 := yaa (yaj (upB b0.out) hb); replace b1 := yaa (yaj (upB b1.out) hb); replace HB := yaa (yaf (by repeat (with_reducible first | exact HB.out | apply yac | apply yab | apply yad | refine yae ?_ (Aside0.out ‹_›))) hb); (try clear hb)))
      go_ret
      exact ⟨by first | rfl | (simp [*, errW_none, errW_some] <;> rfl), by repeat (with_reducible first | exact HB.out | apply yac | apply yab | apply yad | refine yae ?_ (Aside0.out ‹_›))⟩
    ·
     rw [if_neg c6] at H
     have bH := beq_eq_false_iff_ne.mpr c6; have bI := bne_iff_ne.mpr c6; obtain rfl := Option.some.inj H
     go_enter Try.func40, Try.ntmps40
     go_wp2_with (first | ((with_reducible refine gd_ 2 rfl ?_); refine bx_ 2 rfl #[.int .i64 a0_0, .int .i64 a0_1, .int .i64 a0_2, .int .i64 a0_3, .slice A0_4 l0_4.length c0_4, .slice A0_5 l0_5.length c0_5, .slice A0_6 l0_6.length c0_6, .slice A0_7 l0_7.length c0_7] 63 ?_; intro b4 hg w65 hbox hb; have b0 := yaa (hbox); have b7 := yaa ((by rw [hg]; exact (yal (upH HB.out)) : w.heap.size ≤ b4)); replace HB := yaa (yaf (upH HB.out) hb); have c1 := b7; clear hb hbox hg) | ((with_reducible refine gd_ 3 rfl ?_); refine bx_ 3 rfl #[.int .i64 a1_0, .int .i64 a1_1, .int .i64 a1_2, .int .i64 a1_3, .slice A1_4 l1_4.length c1_4, .slice A1_5 l1_5.length c1_5, .slice A1_6 l1_6.length c1_6, .slice A1_7 l1_7.length c1_7] 63 ?_; intro b5 hg w66 hbox hb; have b1 := yaa (hbox); have b8 := yaa ((by rw [hg]; exact (yal (by repeat (with_reducible first | exact HB.out | apply yac | apply yab | apply yad | refine yae ?_ (Aside0.out ‹_›)))) : w.heap.size ≤ b5)); replace HB := yaa (yaf (by repeat (with_reducible first | exact HB.out | apply yac | apply yab | apply yad | refine yae ?_ (Aside0.out ‹_›))) hb); have c2 := b8; have b2 := yaa ((by rw [hg]; exact Nat.ne_of_lt (blk_lt (upB b0.out)) : b4 ≠ b5)); replace b0 := yaa (yaj (upB b0.out) hb); have b3 := yaa b2.out.symm; clear hb hbox hg; have bT := b2.out; have bU := b3.out; obtain ⟨P8, P9, Q0, Q1, Q3, Q4, Q5, Q6⟩ := cc8_ b0.out; obtain ⟨Q7, Q8, Q9, R0, R1, R2, R3, R4⟩ := cf8_ b0.out; obtain ⟨R5, R6, R7, R8, R9, S0, S1, S2⟩ := cc8_ b1.out; obtain ⟨S3, S4, S5, S6, S7, S8, S9⟩ := cf7_ b1.out; have T0 := yam b1.out 7))
     go_ret
     exact ⟨by first | rfl | (simp [*, errW_none, errW_some] <;> rfl), by repeat (with_reducible first | exact HB.out | apply yac | apply yab | apply yad | refine yae ?_ (Aside0.out ‹_›))⟩
   ·
    rw [if_neg c5] at H
    have bF := beq_eq_false_iff_ne.mpr c5; have bG := bne_iff_ne.mpr c5; obtain rfl := Option.some.inj H
    go_enter Try.func40, Try.ntmps40
    go_wp2_with (first | ((with_reducible refine gd_ 2 rfl ?_); refine bx_ 2 rfl #[.int .i64 a0_0, .int .i64 a0_1, .int .i64 a0_2, .int .i64 a0_3, .slice A0_4 l0_4.length c0_4, .slice A0_5 l0_5.length c0_5, .slice A0_6 l0_6.length c0_6, .slice A0_7 l0_7.length c0_7] 63 ?_; intro b4 hg w70 hbox hb; have b0 := yaa (hbox); have b7 := yaa ((by rw [hg]; exact (yal (upH HB.out)) : w.heap.size ≤ b4)); replace HB := yaa (yaf (upH HB.out) hb); have c1 := b7; clear hb hbox hg) | ((with_reducible refine gd_ 3 rfl ?_); refine bx_ 3 rfl #[.int .i64 a1_0, .int .i64 a1_1, .int .i64 a1_2, .int .i64 a1_3, .slice A1_4 l1_4.length c1_4, .slice A1_5 l1_5.length c1_5, .slice A1_6 l1_6.length c1_6, .slice A1_7 l1_7.length c1_7] 63 ?_; intro b5 hg w71 hbox hb; have b1 := yaa (hbox); have b8 := yaa ((by rw [hg]; exact (yal (by repeat (with_reducible first | exact HB.out | apply yac | apply yab | apply yad | refine yae ?_ (Aside0.out ‹_›)))) : w.heap.size ≤ b5)); replace HB := yaa (yaf (by repeat (with_reducible first | exact HB.out | apply yac | apply yab | apply yad | refine yae ?_ (Aside0.out ‹_›))) hb); have c2 := b8; have b2 := yaa ((by rw [hg]; exact Nat.ne_of_lt (blk_lt (upB b0.out)) : b4 ≠ b5)); replace b0 := yaa (yaj (upB b0.out) hb); have b3 := yaa b2.out.symm; clear hb hbox hg; have bV := b2.out; have bW := b3.out; obtain ⟨T1, T2, T3, T4, T5, T6, T7, T8⟩ := cc8_ b0.out; obtain ⟨T9, U0, U1, U2, U3, U4, U5, U6⟩ := cf8_ b0.out; obtain ⟨U7, U8, U9, V0, V1, V2, V3, V4⟩ := cc8_ b1.out; obtain ⟨V5, V6, V7, V8, V9, W0, W1⟩ := cf7_ b1.out; have W2 := yam b1.out 7))
    go_ret
    exact ⟨by first | rfl | (simp [*, errW_none, errW_some] <;> rfl), by repeat (with_reducible first | exact HB.out | apply yac | apply yab | apply yad | refine yae ?_ (Aside0.out ‹_›))⟩
  ·
   rw [if_neg c4] at H
   have bD := beq_eq_false_iff_ne.mpr c4; have bE := bne_iff_ne.mpr c4; obtain rfl := Option.some.inj H
   go_enter Try.func40, Try.ntmps40
   go_wp2_with (first | ((with_reducible refine gd_ 2 rfl ?_); refine bx_ 2 rfl #[.int .i64 a0_0, .int .i64 a0_1, .int .i64 a0_2, .int .i64 a0_3, .slice A0_4 l0_4.length c0_4, .slice A0_5 l0_5.length c0_5, .slice A0_6 l0_6.length c0_6, .slice A0_7 l0_7.length c0_7] 63 ?_; intro b4 hg w75 hbox hb; have b0 := yaa (hbox); have b7 := yaa ((by rw [hg]; exact (yal (upH HB.out)) : w.heap.size ≤ b4)); replace HB := yaa (yaf (upH HB.out) hb); have c1 := b7; clear hb hbox hg) | ((with_reducible refine gd_ 3 rfl ?_); refine bx_ 3 rfl #[.int .i64 a1_0, .int .i64 a1_1, .int .i64 a1_2, .int .i64 a1_3, .slice A1_4 l1_4.length c1_4, .slice A1_5 l1_5.length c1_5, .slice A1_6 l1_6.length c1_6, .slice A1_7 l1_7.length c1_7] 63 ?_; intro b5 hg w76 hbox hb; have b1 := yaa (hbox); have b8 := yaa ((by rw [hg]; exact (yal (by repeat (with_reducible first | exact HB.out | apply yac | apply yab | apply yad | refine yae ?_ (Aside0.out ‹_›)))) : w.heap.size ≤ b5)); replace HB := yaa (yaf (by repeat (with_reducible first | exact HB.out | apply yac | apply yab | apply yad | refine yae ?_ (Aside0.out ‹_›))) hb); have c2 := b8; have b2 := yaa ((by rw [hg]; exact Nat.ne_of_lt (blk_lt (upB b0.out)) : b4 ≠ b5)); replace b0 := yaa (yaj (upB b0.out) hb); have b3 := yaa b2.out.symm; clear hb hbox hg; have bX := b2.out; have bY := b3.out; obtain ⟨W3, W4, W5, W6, W7, W8, W9, X0⟩ := cc8_ b0.out; obtain ⟨X1, X2, X3, X4, X5, X6, X7, X8⟩ := cf8_ b0.out; obtain ⟨X9, Y0, Y1, Y2, Y3, Y4, Y5, Y6⟩ := cc8_ b1.out; obtain ⟨Y7, Y8, Y9, Z0, Z1, Z2, Z3⟩ := cf7_ b1.out; have Z4 := yam b1.out 7))
   go_ret
   exact ⟨by first | rfl | (simp [*, errW_none, errW_some] <;> rfl), by repeat (with_reducible first | exact HB.out | apply yac | apply yab | apply yad | refine yae ?_ (Aside0.out ‹_›))⟩
 ·
  rw [if_neg c3] at H
  have bB := beq_eq_false_iff_ne.mpr c3; have bC := bne_iff_ne.mpr c3; obtain rfl := Option.some.inj H
  go_enter Try.func40, Try.ntmps40
  go_wp2_with (first | ((with_reducible refine gd_ 2 rfl ?_); refine bx_ 2 rfl #[.int .i64 a0_0, .int .i64 a0_1, .int .i64 a0_2, .int .i64 a0_3, .slice A0_4 l0_4.length c0_4, .slice A0_5 l0_5.length c0_5, .slice A0_6 l0_6.length c0_6, .slice A0_7 l0_7.length c0_7] 63 ?_; intro b4 hg w80 hbox hb; have b0 := yaa (hbox); have b7 := yaa ((by rw [hg]; exact (yal (upH HB.out)) : w.heap.size ≤ b4)); replace HB := yaa (yaf (upH HB.out) hb); have c1 := b7; clear hb hbox hg) | ((with_reducible refine gd_ 3 rfl ?_); refine bx_ 3 rfl #[.int .i64 a1_0, .int .i64 a1_1, .int .i64 a1_2, .int .i64 a1_3, .slice A1_4 l1_4.length c1_4, .slice A1_5 l1_5.length c1_5, .slice A1_6 l1_6.length c1_6, .slice A1_7 l1_7.length c1_7] 63 ?_; intro b5 hg w81 hbox hb; have b1 := yaa (hbox); have b8 := yaa ((by rw [hg]; exact (yal (by repeat (with_reducible first | exact HB.out | apply yac | apply yab | apply yad | refine yae ?_ (Aside0.out ‹_›)))) : w.heap.size ≤ b5)); replace HB := yaa (yaf (by repeat (with_reducible first | exact HB.out | apply yac | apply yab | apply yad | refine yae ?_ (Aside0.out ‹_›))) hb); have c2 := b8; have b2 := yaa ((by rw [hg]; exact Nat.ne_of_lt (blk_lt (upB b0.out)) : b4 ≠ b5)); replace b0 := yaa (yaj (upB b0.out) hb); have b3 := yaa b2.out.symm; clear hb hbox hg; have bZ := b2.out; have cA := b3.out; obtain ⟨Z5, Z6, Z7, Z8, Z9, aA, aB, aC⟩ := cc8_ b0.out; obtain ⟨aD, aE, aF, aG, aH, aI, aJ, aK⟩ := cf8_ b0.out; obtain ⟨aL, aM, aN, aO, aP, aQ, aR, aS⟩ := cc8_ b1.out; obtain ⟨aT, aU, aV, aW, aX, aY, aZ⟩ := cf7_ b1.out; have bA := yam b1.out 7))
  go_ret
  exact ⟨by first | rfl | (simp [*, errW_none, errW_some] <;> rfl), by repeat (with_reducible first | exact HB.out | apply yac | apply yab | apply yad | refine yae ?_ (Aside0.out ‹_›))⟩
end
section
def laws_szOpOpS.f (l0 : List (S148)) (a1 : Int) : Option (Int) := if (wrap64 (a1 - (l0.length : Int))) < 0 then (some (-1)) else (some (wrap64 (a1 - (l0.length : Int))))
set_option maxHeartbeats 8000000 in
set_option maxRecDepth 100000 in
theorem laws_szOpOpS.calls (A0 : Option Addr) (c0 : Nat) (l0 : List (S148)) (a1 : Int) (r : Int) (w : World) (hr0 : Kd.C k148 w A0 l0.length l0) (hc0 : l0.length ≤ c0) (h : laws_szOpOpS.f l0 a1 = some r) :
    Calls Try.prog 68 #[.slice A0 l0.length c0, .int .i64 a1] w fun e w' => e = .returned (.int .i64 r) ∧ Drawn0 w w' := by
  have HR0 := Aside0.mk hr0; have HC0 := Aside0.mk hc0; clear hr0 hc0; have H : (if (wrap64 (a1 - (l0.length : Int))) < 0 then (some (-1)) else (some (wrap64 (a1 - (l0.length : Int))))) = some r := h; clear h
  by_cases c3 : (wrap64 (a1 - (l0.length : Int))) < 0
  · rw [if_pos c3] at H
    have c3b0 : decide ((wrap64 (a1 - (l0.length : Int))) < 0) = true := decide_eq_true c3; clear c3; obtain rfl := Option.some.inj H
    go_enter Try.func68, Try.ntmps68
    go_wp2
    go_ret
    exact ⟨by first | rfl | (simp; done) | (simp [*]; done), by repeat (first | exact Drawn0.refl _ | apply Drawn0.step)⟩
  · rw [if_neg c3] at H
    have c3b0 : decide ((wrap64 (a1 - (l0.length : Int))) < 0) = false := decide_eq_false c3; clear c3; obtain rfl := Option.some.inj H
    go_enter Try.func68, Try.ntmps68
    go_wp2
    go_ret
    exact ⟨by first | rfl | (simp; done) | (simp [*]; done), by repeat (first | exact Drawn0.refl _ | apply Drawn0.step)⟩
end
section
def laws_szTenJob.f (a0_0 : Int) (a0_1 : ByteArray) (l0_2 : List (S148)) (a0_3 : Int) (a1 : Int) : Option (Int) := if (wrap64 (a1 - (a0_1.size : Int))) < 0 then (some (-1)) else ((laws_szOpOpS.f l0_2 (wrap64 (a1 - (a0_1.size : Int)))).bind fun t102 => (if t102 < 0 then (some (-1)) else (some t102)))
set_option maxHeartbeats 8000000 in
set_option maxRecDepth 100000 in
theorem laws_szTenJob.calls (a0_0 : Int) (a0_1 : ByteArray) (A0_2 : Option Addr) (c0_2 : Nat) (l0_2 : List (S148)) (a0_3 : Int) (a1 : Int) (r : Int) (w : World) (hr0_2 : Kd.C k148 w A0_2 l0_2.length l0_2) (hc0_2 : l0_2.length ≤ c0_2) (h : laws_szTenJob.f a0_0 a0_1 l0_2 a0_3 a1 = some r) :
  Calls Try.prog 135 #[.agg #[.int .i64 a0_0, .string a0_1, .slice A0_2 l0_2.length c0_2, .int .i64 a0_3], .int .i64 a1] w fun e w' => e = .returned (.int .i64 r) ∧ Below w.heap.size w w' := by
 have hu165 := Try.underlying165; have HR0_2 := Aside0.mk hr0_2; have HC0_2 := Aside0.mk hc0_2; clear hr0_2 hc0_2; have HB := Aside0.mk (Below.refl w.heap.size w); have H : (if (wrap64 (a1 - (a0_1.size : Int))) < 0 then (some (-1)) else ((laws_szOpOpS.f l0_2 (wrap64 (a1 - (a0_1.size : Int)))).bind fun a2 => (if a2 < 0 then (some (-1)) else (some a2)))) = some r := h; clear h
 by_cases c3 : (wrap64 (a1 - (a0_1.size : Int))) < 0
 ·
  rw [if_pos c3] at H
  have b6 : decide ((wrap64 (a1 - (a0_1.size : Int))) < 0) = true := decide_eq_true c3; clear c3; obtain rfl := Option.some.inj H
  go_enter Try.func135, Try.ntmps135
  go_wp2_with (first | ((with_reducible refine gd_ 2 rfl ?_); refine bx_ 2 rfl #[.int .i64 a0_0, .string a0_1, .slice A0_2 l0_2.length c0_2, .int .i64 a0_3] 165 ?_; intro a3 hg w4 hbox hb; have a0 := Aside0.mk (hbox); have a4 := Aside0.mk ((by rw [hg]; exact (below_size (upH HB.out)) : w.heap.size ≤ a3)); replace HB := Aside0.mk (below_step (upH HB.out) hb); have a5 := a4; clear hb hbox hg; obtain ⟨b7, b8, b9, c0⟩ := cc4_ a0.out; obtain ⟨c1, c2, c4⟩ := cf3_ a0.out; have c5 := blk_frozen a0.out 3))
  go_ret
  exact ⟨by first | rfl | (simp [*, errW_none, errW_some] <;> rfl), by repeat (with_reducible first | exact HB.out | apply below_alloc | apply pw_below_drewN | apply below_drew1 | refine below_set ?_ (Aside0.out ‹_›))⟩
 ·
  rw [if_neg c3] at H
  have b6 : decide ((wrap64 (a1 - (a0_1.size : Int))) < 0) = false := decide_eq_false c3; clear c3; obtain ⟨a2, A6, H⟩ := bindA H; (try dsimp only at H)
  by_cases c7 : a2 < 0
  ·
   rw [if_pos c7] at H
   have c6 : decide (a2 < 0) = true := decide_eq_true c7; clear c7; obtain rfl := Option.some.inj H
   go_enter Try.func135, Try.ntmps135
   go_wp2_with (first | ((with_reducible refine gd_ 2 rfl ?_); refine bx_ 2 rfl #[.int .i64 a0_0, .string a0_1, .slice A0_2 l0_2.length c0_2, .int .i64 a0_3] 165 ?_; intro a3 hg w8 hbox hb; have a0 := Aside0.mk (hbox); have a4 := Aside0.mk ((by rw [hg]; exact (below_size (upH HB.out)) : w.heap.size ≤ a3)); replace HB := Aside0.mk (below_step (upH HB.out) hb); have a5 := a4; clear hb hbox hg; obtain ⟨c8, c9, d0, d1⟩ := cc4_ a0.out; obtain ⟨d2, d3, d4⟩ := cf3_ a0.out; have d5 := blk_frozen a0.out 3) | ((with_reducible refine gc_ 68 rfl ?_); refine gl_ (some 15) rfl Try.func68 #[.slice A0_2 l0_2.length c0_2, .int .i64 (wrap64 (a1 - (a0_1.size : Int)))] ?_; (with_reducible refine (laws_szOpOpS.calls _ _ l0_2 (wrap64 (a1 - (a0_1.size : Int))) a2 _ ?side1 ?side2 A6.out).mono ?_); (case side1 => repeat (first | exact (Kd.C_below HR0_2.out HB.out) | (with_reducible refine Kd.C_alloc ?_ _) | (with_reducible refine Kd.C_drewN ?_ _) | (with_reducible refine Kd.C_drew ?_))); (case side2 => exact HC0_2.out); rintro e w' ⟨rfl, ⟨nd, rfl⟩⟩; refine ⟨_, rfl, ?_⟩))
   go_ret
   exact ⟨by first | rfl | (simp [*, errW_none, errW_some] <;> rfl), by repeat (with_reducible first | exact HB.out | apply below_alloc | apply pw_below_drewN | apply below_drew1 | refine below_set ?_ (Aside0.out ‹_›))⟩
  ·
   rw [if_neg c7] at H
   have c6 : decide (a2 < 0) = false := decide_eq_false c7; clear c7; obtain rfl := Option.some.inj H
   go_enter Try.func135, Try.ntmps135
   go_wp2_with (first | ((with_reducible refine gd_ 2 rfl ?_); refine bx_ 2 rfl #[.int .i64 a0_0, .string a0_1, .slice A0_2 l0_2.length c0_2, .int .i64 a0_3] 165 ?_; intro a3 hg w10 hbox hb; have a0 := Aside0.mk (hbox); have a4 := Aside0.mk ((by rw [hg]; exact (below_size (upH HB.out)) : w.heap.size ≤ a3)); replace HB := Aside0.mk (below_step (upH HB.out) hb); have a5 := a4; clear hb hbox hg; obtain ⟨a8, a9, b0, b1⟩ := cc4_ a0.out; obtain ⟨b2, b3, b4⟩ := cf3_ a0.out; have b5 := blk_frozen a0.out 3) | ((with_reducible refine gc_ 68 rfl ?_); refine gl_ (some 15) rfl Try.func68 #[.slice A0_2 l0_2.length c0_2, .int .i64 (wrap64 (a1 - (a0_1.size : Int)))] ?_; (with_reducible refine (laws_szOpOpS.calls _ _ l0_2 (wrap64 (a1 - (a0_1.size : Int))) a2 _ ?side1 ?side2 A6.out).mono ?_); (case side1 => repeat (first | exact (Kd.C_below HR0_2.out HB.out) | (with_reducible refine Kd.C_alloc ?_ _) | (with_reducible refine Kd.C_drewN ?_ _) | (with_reducible refine Kd.C_drew ?_))); (case side2 => exact HC0_2.out); rintro e w' ⟨rfl, ⟨nd, rfl⟩⟩; refine ⟨_, rfl, ?_⟩))
   go_ret
   exact ⟨by first | rfl | (simp [*, errW_none, errW_some] <;> rfl), by repeat (with_reducible first | exact HB.out | apply below_alloc | apply pw_below_drewN | apply below_drew1 | refine below_set ?_ (Aside0.out ‹_›))⟩
end
section
def laws_szTenJobS.l0 : Nat → List (S165) → Int → Int → Option (Int)
 | 0, _, _, _ => none
 | k + 1, x0, x1, x5 => if x5 < (x0.length : Int) then (if 0 ≤ x5 then ((laws_szTenJob.f ((rd_T165 x0 x5).f0) ((rd_T165 x0 x5).f1) ((rd_T165 x0 x5).f2) ((rd_T165 x0 x5).f3) x1).bind fun t102 => (if t102 < 0 then (some (-1)) else (laws_szTenJobS.l0 k x0 t102 (wrap64 (x5 + 1))))) else (none)) else (some x1)
def laws_szTenJobS.f (k : Nat) (l0 : List (S165)) (a1 : Int) : Option (Int) := if (wrap64 (a1 - (l0.length : Int))) < 0 then (some (-1)) else (laws_szTenJobS.l0 k l0 (wrap64 (a1 - (l0.length : Int))) 0)
set_option maxHeartbeats 8000000 in
set_option maxRecDepth 100000 in
theorem laws_szTenJobS.calls (k : Nat) (A0 : Option Addr) (c0 : Nat) (l0 : List (S165)) (a1 : Int) (r : Int) (w : World) (hr0 : Kd.C k165 w A0 l0.length l0) (hc0 : l0.length ≤ c0) (h : laws_szTenJobS.f k l0 a1 = some r) :
  Calls Try.prog 104 #[.slice A0 l0.length c0, .int .i64 a1] w fun e w' => e = .returned (.int .i64 r) ∧ Below w.heap.size w w' := by
 have hu165 := Try.underlying165; have HR0 := Aside0.mk hr0; have HC0 := Aside0.mk hc0; clear hr0 hc0; have HB := Aside0.mk (Below.refl w.heap.size w); have H : (if (wrap64 (a1 - (l0.length : Int))) < 0 then (some (-1)) else (laws_szTenJobS.l0 k l0 (wrap64 (a1 - (l0.length : Int))) 0)) = some r := h; clear h
 by_cases c3 : (wrap64 (a1 - (l0.length : Int))) < 0
 ·
  rw [if_pos c3] at H
  have b2 : decide ((wrap64 (a1 - (l0.length : Int))) < 0) = true := decide_eq_true c3; clear c3; obtain rfl := Option.some.inj H
  go_enter Try.func104, Try.ntmps104
  go_wp2
  go_ret
  exact ⟨by first | rfl | (simp [*, errW_none, errW_some] <;> rfl), upH HB.out⟩
 ·
  rw [if_neg c3] at H
  have b2 : decide ((wrap64 (a1 - (l0.length : Int))) < 0) = false := decide_eq_false c3; clear c3; have H' := Aside0.mk H; clear H
  go_enter Try.func104, Try.ntmps104
  go_wp2
  (try simp only [Act.put, List.setIfInBounds_toArray, List.set_cons_zero, List.set_cons_succ])
  go_loopg [1, 5] k (fun kq v1 v5 w' => ∃ (a7 : Int) (a2 : Int), v1 = .int .i64 a7 ∧ v5 = .int .i64 a2 ∧ Aside0 (laws_szTenJobS.l0 kq l0 a7 a2 = some r) ∧ Aside0 (kq ≤ k) ∧ Aside0 (Below w.heap.size w w'))
  case atStart => exact ⟨(wrap64 (a1 - (l0.length : Int))), (0), (by first | rfl | (simp; done) | (simp [*]; done)), (by first | rfl | (simp; done) | (simp [*]; done)), H', ⟨Nat.le_refl _⟩, ⟨upH HB.out⟩⟩
  case round =>
   clear H'; (try clear c1); (try clear p2); (try clear c3); (try clear b2); obtain ⟨a7, a2, rfl, rfl, HA, HK1, HB⟩ := hrel
   cases gk with
   | zero => exact absurd HA.out (by simp [laws_szTenJobS.l0])
   | succ k1 =>
    have H := HA.out; clear HA
    simp only [laws_szTenJobS.l0] at H
    by_cases c4 : a2 < (l0.length : Int)
    ·
     rw [if_pos c4] at H
     have b3 : decide (a2 < (l0.length : Int)) = true := decide_eq_true c4; clear c4
     by_cases c5 : 0 ≤ a2
     ·
      rw [if_pos c5] at H
      replace c5 := decide_eq_true c5; obtain ⟨b0, A6, H⟩ := bindA H; (try dsimp only at H)
      by_cases c7 : b0 < 0
      ·
       rw [if_pos c7] at H
       have b4 : decide (b0 < 0) = true := decide_eq_true c7; clear c7; obtain rfl := Option.some.inj H
       have p101 : 0 ≤ (a2 : Int) := of_decide_eq_true (by first | (with_reducible assumption) | assumption)
       have q101 : a2 < (l0.length : Int) := of_decide_eq_true (by first | (with_reducible assumption) | assumption)
       obtain ⟨ad101, a8, a9, b1, a3, a4, a5, a6, hl101_2, hi101_2⟩ := at_T165 HR0.out a2 p101 q101
       cases b1
       replace a3 := (HB.out.cell (World.block_lt_of_cell? w _ a3)).trans a3; replace a4 := (HB.out.cell (World.block_lt_of_cell? w _ a4)).trans a4; replace a5 := (HB.out.cell (World.block_lt_of_cell? w _ a5)).trans a5; replace a6 := (HB.out.cell (World.block_lt_of_cell? w _ a6)).trans a6; have HR101_2 := Aside0.mk hi101_2; have HC101_2 := Aside0.mk hl101_2; clear hi101_2 hl101_2; replace p101 := eq_true p101; replace q101 := eq_true q101
       go_wp2_with (first | ((with_reducible refine gc_ 135 rfl ?_); refine gl_ (some 23) rfl Try.func135 #[.agg #[.int .i64 ((rd_T165 l0 a2).f0), .string ((rd_T165 l0 a2).f1), .slice a8 ((rd_T165 l0 a2).f2).length a9, .int .i64 ((rd_T165 l0 a2).f3)], .int .i64 a7] ?_; (with_reducible refine (laws_szTenJob.calls ((rd_T165 l0 a2).f0) ((rd_T165 l0 a2).f1) _ _ ((rd_T165 l0 a2).f2) ((rd_T165 l0 a2).f3) a7 b0 _ ?side1 ?side2 A6.out).mono ?_); (case side1 => repeat (first | exact (Kd.C_below HR101_2.out HB.out) | (with_reducible refine Kd.C_alloc ?_ _) | (with_reducible refine Kd.C_drewN ?_ _) | (with_reducible refine Kd.C_drew ?_))); (case side2 => exact HC101_2.out); rintro e w8 ⟨rfl, hb⟩; refine ⟨_, rfl, ?_⟩; replace HB := Aside0.mk (below_step (upH HB.out) hb); (try clear hb)))
       go_ret
       exact ⟨by first | rfl | (simp [*, errW_none, errW_some] <;> rfl), upH HB.out⟩
      ·
       rw [if_neg c7] at H
       have b4 : decide (b0 < 0) = false := decide_eq_false c7; clear c7; have H' := Aside0.mk H; clear H
       have p101 : 0 ≤ (a2 : Int) := of_decide_eq_true (by first | (with_reducible assumption) | assumption)
       have q101 : a2 < (l0.length : Int) := of_decide_eq_true (by first | (with_reducible assumption) | assumption)
       obtain ⟨ad101, a8, a9, b1, a3, a4, a5, a6, hl101_2, hi101_2⟩ := at_T165 HR0.out a2 p101 q101
       cases b1
       replace a3 := (HB.out.cell (World.block_lt_of_cell? w _ a3)).trans a3; replace a4 := (HB.out.cell (World.block_lt_of_cell? w _ a4)).trans a4; replace a5 := (HB.out.cell (World.block_lt_of_cell? w _ a5)).trans a5; replace a6 := (HB.out.cell (World.block_lt_of_cell? w _ a6)).trans a6; have HR101_2 := Aside0.mk hi101_2; have HC101_2 := Aside0.mk hl101_2; clear hi101_2 hl101_2; replace p101 := eq_true p101; replace q101 := eq_true q101
       go_wp2_with (first | ((with_reducible refine gc_ 135 rfl ?_); refine gl_ (some 23) rfl Try.func135 #[.agg #[.int .i64 ((rd_T165 l0 a2).f0), .string ((rd_T165 l0 a2).f1), .slice a8 ((rd_T165 l0 a2).f2).length a9, .int .i64 ((rd_T165 l0 a2).f3)], .int .i64 a7] ?_; (with_reducible refine (laws_szTenJob.calls ((rd_T165 l0 a2).f0) ((rd_T165 l0 a2).f1) _ _ ((rd_T165 l0 a2).f2) ((rd_T165 l0 a2).f3) a7 b0 _ ?side1 ?side2 A6.out).mono ?_); (case side1 => repeat (first | exact (Kd.C_below HR101_2.out HB.out) | (with_reducible refine Kd.C_alloc ?_ _) | (with_reducible refine Kd.C_drewN ?_ _) | (with_reducible refine Kd.C_drew ?_))); (case side2 => exact HC101_2.out); rintro e w9 ⟨rfl, hb⟩; refine ⟨_, rfl, ?_⟩; replace HB := Aside0.mk (below_step (upH HB.out) hb); (try clear hb)))
       go_roundg k1
       case measure => have := HK1.out; omega
       case rel => exact ⟨(b0), (wrap64 (a2 + 1)), (by first | rfl | (simp; done) | (simp [*]; done)), (by first | rfl | (simp; done) | (simp [*]; done)), H', ⟨by have := HK1.out; omega⟩, ⟨upH HB.out⟩⟩
     ·
      rw [if_neg c5] at H
      exact absurd H (by simp)
    ·
     rw [if_neg c4] at H
     have b3 : decide (a2 < (l0.length : Int)) = false := decide_eq_false c4; clear c4; obtain rfl := Option.some.inj H
     go_wp2
     go_ret
     exact ⟨by first | rfl | (simp [*, errW_none, errW_some] <;> rfl), upH HB.out⟩
end
section
def laws_szTenFile.f (a0_0 : ByteArray) (a0_1 : Int) (l0_2 : List Int) (a1 : Int) : Option (Int) := if (wrap64 (a1 - (a0_0.size : Int))) < 0 then (some (-1)) else ((laws_szByteS.f l0_2 (wrap64 (a1 - (a0_0.size : Int)))).bind fun t102 => (if t102 < 0 then (some (-1)) else (some t102)))
set_option maxHeartbeats 8000000 in
set_option maxRecDepth 100000 in
theorem laws_szTenFile.calls (a0_0 : ByteArray) (a0_1 : Int) (A0_2 : Option Addr) (c0_2 : Nat) (l0_2 : List Int) (a1 : Int) (r : Int) (w : World) (hr0_2 : Kd.C (Kd.int .u8) w A0_2 l0_2.length l0_2) (hc0_2 : l0_2.length ≤ c0_2) (h : laws_szTenFile.f a0_0 a0_1 l0_2 a1 = some r) :
  Calls Try.prog 136 #[.agg #[.string a0_0, .int .i64 a0_1, .slice A0_2 l0_2.length c0_2], .int .i64 a1] w fun e w' => e = .returned (.int .i64 r) ∧ Below w.heap.size w w' := by
 have hu167 := Try.underlying167; have HR0_2 := Aside0.mk hr0_2; have HC0_2 := Aside0.mk hc0_2; clear hr0_2 hc0_2; have HB := Aside0.mk (Below.refl w.heap.size w); have H : (if (wrap64 (a1 - (a0_0.size : Int))) < 0 then (some (-1)) else ((laws_szByteS.f l0_2 (wrap64 (a1 - (a0_0.size : Int)))).bind fun a2 => (if a2 < 0 then (some (-1)) else (some a2)))) = some r := h; clear h
 by_cases c3 : (wrap64 (a1 - (a0_0.size : Int))) < 0
 ·
  rw [if_pos c3] at H
  have b4 : decide ((wrap64 (a1 - (a0_0.size : Int))) < 0) = true := decide_eq_true c3; clear c3; obtain rfl := Option.some.inj H
  go_enter Try.func136, Try.ntmps136
  go_wp2_with (first | ((with_reducible refine gd_ 2 rfl ?_); refine bx_ 2 rfl #[.string a0_0, .int .i64 a0_1, .slice A0_2 l0_2.length c0_2] 167 ?_; intro a3 hg w4 hbox hb; have a0 := Aside0.mk (hbox); have a4 := Aside0.mk ((by rw [hg]; exact (below_size (upH HB.out)) : w.heap.size ≤ a3)); replace HB := Aside0.mk (below_step (upH HB.out) hb); have a5 := a4; clear hb hbox hg; obtain ⟨b5, b6, b7⟩ := cc3_ a0.out; obtain ⟨b8, b9⟩ := cf2_ a0.out; have c0 := blk_frozen a0.out 2))
  go_ret
  exact ⟨by first | rfl | (simp [*, errW_none, errW_some] <;> rfl), by repeat (with_reducible first | exact HB.out | apply below_alloc | apply pw_below_drewN | apply below_drew1 | refine below_set ?_ (Aside0.out ‹_›))⟩
 ·
  rw [if_neg c3] at H
  have b4 : decide ((wrap64 (a1 - (a0_0.size : Int))) < 0) = false := decide_eq_false c3; clear c3; obtain ⟨a2, A6, H⟩ := bindA H; (try dsimp only at H)
  by_cases c7 : a2 < 0
  ·
   rw [if_pos c7] at H
   have c1 : decide (a2 < 0) = true := decide_eq_true c7; clear c7; obtain rfl := Option.some.inj H
   go_enter Try.func136, Try.ntmps136
   go_wp2_with (first | ((with_reducible refine gd_ 2 rfl ?_); refine bx_ 2 rfl #[.string a0_0, .int .i64 a0_1, .slice A0_2 l0_2.length c0_2] 167 ?_; intro a3 hg w8 hbox hb; have a0 := Aside0.mk (hbox); have a4 := Aside0.mk ((by rw [hg]; exact (below_size (upH HB.out)) : w.heap.size ≤ a3)); replace HB := Aside0.mk (below_step (upH HB.out) hb); have a5 := a4; clear hb hbox hg; obtain ⟨c2, c4, c5⟩ := cc3_ a0.out; obtain ⟨c6, c8⟩ := cf2_ a0.out; have c9 := blk_frozen a0.out 2) | ((with_reducible refine gc_ 65 rfl ?_); refine gl_ (some 15) rfl Try.func65 #[.slice A0_2 l0_2.length c0_2, .int .i64 (wrap64 (a1 - (a0_0.size : Int)))] ?_; (with_reducible refine (laws_szByteS.calls _ _ l0_2 (wrap64 (a1 - (a0_0.size : Int))) a2 _ ?side1 ?side2 A6.out).mono ?_); (case side1 => repeat (first | exact (Kd.C_below HR0_2.out HB.out) | (with_reducible refine Kd.C_alloc ?_ _) | (with_reducible refine Kd.C_drewN ?_ _) | (with_reducible refine Kd.C_drew ?_))); (case side2 => exact HC0_2.out); rintro e w' ⟨rfl, ⟨nd, rfl⟩⟩; refine ⟨_, rfl, ?_⟩))
   go_ret
   exact ⟨by first | rfl | (simp [*, errW_none, errW_some] <;> rfl), by repeat (with_reducible first | exact HB.out | apply below_alloc | apply pw_below_drewN | apply below_drew1 | refine below_set ?_ (Aside0.out ‹_›))⟩
  ·
   rw [if_neg c7] at H
   have c1 : decide (a2 < 0) = false := decide_eq_false c7; clear c7; obtain rfl := Option.some.inj H
   go_enter Try.func136, Try.ntmps136
   go_wp2_with (first | ((with_reducible refine gd_ 2 rfl ?_); refine bx_ 2 rfl #[.string a0_0, .int .i64 a0_1, .slice A0_2 l0_2.length c0_2] 167 ?_; intro a3 hg w10 hbox hb; have a0 := Aside0.mk (hbox); have a4 := Aside0.mk ((by rw [hg]; exact (below_size (upH HB.out)) : w.heap.size ≤ a3)); replace HB := Aside0.mk (below_step (upH HB.out) hb); have a5 := a4; clear hb hbox hg; obtain ⟨a8, a9, b0⟩ := cc3_ a0.out; obtain ⟨b1, b2⟩ := cf2_ a0.out; have b3 := blk_frozen a0.out 2) | ((with_reducible refine gc_ 65 rfl ?_); refine gl_ (some 15) rfl Try.func65 #[.slice A0_2 l0_2.length c0_2, .int .i64 (wrap64 (a1 - (a0_0.size : Int)))] ?_; (with_reducible refine (laws_szByteS.calls _ _ l0_2 (wrap64 (a1 - (a0_0.size : Int))) a2 _ ?side1 ?side2 A6.out).mono ?_); (case side1 => repeat (first | exact (Kd.C_below HR0_2.out HB.out) | (with_reducible refine Kd.C_alloc ?_ _) | (with_reducible refine Kd.C_drewN ?_ _) | (with_reducible refine Kd.C_drew ?_))); (case side2 => exact HC0_2.out); rintro e w' ⟨rfl, ⟨nd, rfl⟩⟩; refine ⟨_, rfl, ?_⟩))
   go_ret
   exact ⟨by first | rfl | (simp [*, errW_none, errW_some] <;> rfl), by repeat (with_reducible first | exact HB.out | apply below_alloc | apply pw_below_drewN | apply below_drew1 | refine below_set ?_ (Aside0.out ‹_›))⟩
end
section
def laws_szTenFileS.l0 : Nat → List (S167) → Int → Int → Option (Int)
 | 0, _, _, _ => none
 | k + 1, x0, x1, x5 => if x5 < (x0.length : Int) then (if 0 ≤ x5 then ((laws_szTenFile.f ((rd_T167 x0 x5).f0) ((rd_T167 x0 x5).f1) ((rd_T167 x0 x5).f2) x1).bind fun t102 => (if t102 < 0 then (some (-1)) else (laws_szTenFileS.l0 k x0 t102 (wrap64 (x5 + 1))))) else (none)) else (some x1)
def laws_szTenFileS.f (k : Nat) (l0 : List (S167)) (a1 : Int) : Option (Int) := if (wrap64 (a1 - (l0.length : Int))) < 0 then (some (-1)) else (laws_szTenFileS.l0 k l0 (wrap64 (a1 - (l0.length : Int))) 0)
set_option maxHeartbeats 8000000 in
set_option maxRecDepth 100000 in
theorem laws_szTenFileS.calls (k : Nat) (A0 : Option Addr) (c0 : Nat) (l0 : List (S167)) (a1 : Int) (r : Int) (w : World) (hr0 : Kd.C k167 w A0 l0.length l0) (hc0 : l0.length ≤ c0) (h : laws_szTenFileS.f k l0 a1 = some r) :
  Calls Try.prog 105 #[.slice A0 l0.length c0, .int .i64 a1] w fun e w' => e = .returned (.int .i64 r) ∧ Below w.heap.size w w' := by
 have hu167 := Try.underlying167; have HR0 := Aside0.mk hr0; have HC0 := Aside0.mk hc0; clear hr0 hc0; have HB := Aside0.mk (Below.refl w.heap.size w); have H : (if (wrap64 (a1 - (l0.length : Int))) < 0 then (some (-1)) else (laws_szTenFileS.l0 k l0 (wrap64 (a1 - (l0.length : Int))) 0)) = some r := h; clear h
 by_cases c3 : (wrap64 (a1 - (l0.length : Int))) < 0
 ·
  rw [if_pos c3] at H
  have b1 : decide ((wrap64 (a1 - (l0.length : Int))) < 0) = true := decide_eq_true c3; clear c3; obtain rfl := Option.some.inj H
  go_enter Try.func105, Try.ntmps105
  go_wp2
  go_ret
  exact ⟨by first | rfl | (simp [*, errW_none, errW_some] <;> rfl), upH HB.out⟩
 ·
  rw [if_neg c3] at H
  have b1 : decide ((wrap64 (a1 - (l0.length : Int))) < 0) = false := decide_eq_false c3; clear c3; have H' := Aside0.mk H; clear H
  go_enter Try.func105, Try.ntmps105
  go_wp2
  (try simp only [Act.put, List.setIfInBounds_toArray, List.set_cons_zero, List.set_cons_succ])
  go_loopg [1, 5] k (fun kq v1 v5 w' => ∃ (a6 : Int) (a2 : Int), v1 = .int .i64 a6 ∧ v5 = .int .i64 a2 ∧ Aside0 (laws_szTenFileS.l0 kq l0 a6 a2 = some r) ∧ Aside0 (kq ≤ k) ∧ Aside0 (Below w.heap.size w w'))
  case atStart => exact ⟨(wrap64 (a1 - (l0.length : Int))), (0), (by first | rfl | (simp; done) | (simp [*]; done)), (by first | rfl | (simp; done) | (simp [*]; done)), H', ⟨Nat.le_refl _⟩, ⟨upH HB.out⟩⟩
  case round =>
   clear H'; (try clear c1); (try clear p2); (try clear c3); (try clear b1); obtain ⟨a6, a2, rfl, rfl, HA, HK1, HB⟩ := hrel
   cases gk with
   | zero => exact absurd HA.out (by simp [laws_szTenFileS.l0])
   | succ k1 =>
    have H := HA.out; clear HA
    simp only [laws_szTenFileS.l0] at H
    by_cases c4 : a2 < (l0.length : Int)
    ·
     rw [if_pos c4] at H
     have b2 : decide (a2 < (l0.length : Int)) = true := decide_eq_true c4; clear c4
     by_cases c5 : 0 ≤ a2
     ·
      rw [if_pos c5] at H
      replace c5 := decide_eq_true c5; obtain ⟨a9, A6, H⟩ := bindA H; (try dsimp only at H)
      by_cases c7 : a9 < 0
      ·
       rw [if_pos c7] at H
       have b3 : decide (a9 < 0) = true := decide_eq_true c7; clear c7; obtain rfl := Option.some.inj H
       have p101 : 0 ≤ (a2 : Int) := of_decide_eq_true (by first | (with_reducible assumption) | assumption)
       have q101 : a2 < (l0.length : Int) := of_decide_eq_true (by first | (with_reducible assumption) | assumption)
       obtain ⟨ad101, a7, a8, b0, a3, a4, a5, hl101_2, hi101_2⟩ := at_T167 HR0.out a2 p101 q101
       cases b0
       replace a3 := (HB.out.cell (World.block_lt_of_cell? w _ a3)).trans a3; replace a4 := (HB.out.cell (World.block_lt_of_cell? w _ a4)).trans a4; replace a5 := (HB.out.cell (World.block_lt_of_cell? w _ a5)).trans a5; have HR101_2 := Aside0.mk hi101_2; have HC101_2 := Aside0.mk hl101_2; clear hi101_2 hl101_2; replace p101 := eq_true p101; replace q101 := eq_true q101
       go_wp2_with (first | ((with_reducible refine gc_ 136 rfl ?_); refine gl_ (some 23) rfl Try.func136 #[.agg #[.string ((rd_T167 l0 a2).f0), .int .i64 ((rd_T167 l0 a2).f1), .slice a7 ((rd_T167 l0 a2).f2).length a8], .int .i64 a6] ?_; (with_reducible refine (laws_szTenFile.calls ((rd_T167 l0 a2).f0) ((rd_T167 l0 a2).f1) _ _ ((rd_T167 l0 a2).f2) a6 a9 _ ?side1 ?side2 A6.out).mono ?_); (case side1 => repeat (first | exact (Kd.C_below HR101_2.out HB.out) | (with_reducible refine Kd.C_alloc ?_ _) | (with_reducible refine Kd.C_drewN ?_ _) | (with_reducible refine Kd.C_drew ?_))); (case side2 => exact HC101_2.out); rintro e w8 ⟨rfl, hb⟩; refine ⟨_, rfl, ?_⟩; replace HB := Aside0.mk (below_step (upH HB.out) hb); (try clear hb)))
       go_ret
       exact ⟨by first | rfl | (simp [*, errW_none, errW_some] <;> rfl), upH HB.out⟩
      ·
       rw [if_neg c7] at H
       have b3 : decide (a9 < 0) = false := decide_eq_false c7; clear c7; have H' := Aside0.mk H; clear H
       have p101 : 0 ≤ (a2 : Int) := of_decide_eq_true (by first | (with_reducible assumption) | assumption)
       have q101 : a2 < (l0.length : Int) := of_decide_eq_true (by first | (with_reducible assumption) | assumption)
       obtain ⟨ad101, a7, a8, b0, a3, a4, a5, hl101_2, hi101_2⟩ := at_T167 HR0.out a2 p101 q101
       cases b0
       replace a3 := (HB.out.cell (World.block_lt_of_cell? w _ a3)).trans a3; replace a4 := (HB.out.cell (World.block_lt_of_cell? w _ a4)).trans a4; replace a5 := (HB.out.cell (World.block_lt_of_cell? w _ a5)).trans a5; have HR101_2 := Aside0.mk hi101_2; have HC101_2 := Aside0.mk hl101_2; clear hi101_2 hl101_2; replace p101 := eq_true p101; replace q101 := eq_true q101
       go_wp2_with (first | ((with_reducible refine gc_ 136 rfl ?_); refine gl_ (some 23) rfl Try.func136 #[.agg #[.string ((rd_T167 l0 a2).f0), .int .i64 ((rd_T167 l0 a2).f1), .slice a7 ((rd_T167 l0 a2).f2).length a8], .int .i64 a6] ?_; (with_reducible refine (laws_szTenFile.calls ((rd_T167 l0 a2).f0) ((rd_T167 l0 a2).f1) _ _ ((rd_T167 l0 a2).f2) a6 a9 _ ?side1 ?side2 A6.out).mono ?_); (case side1 => repeat (first | exact (Kd.C_below HR101_2.out HB.out) | (with_reducible refine Kd.C_alloc ?_ _) | (with_reducible refine Kd.C_drewN ?_ _) | (with_reducible refine Kd.C_drew ?_))); (case side2 => exact HC101_2.out); rintro e w9 ⟨rfl, hb⟩; refine ⟨_, rfl, ?_⟩; replace HB := Aside0.mk (below_step (upH HB.out) hb); (try clear hb)))
       go_roundg k1
       case measure => have := HK1.out; omega
       case rel => exact ⟨(a9), (wrap64 (a2 + 1)), (by first | rfl | (simp; done) | (simp [*]; done)), (by first | rfl | (simp; done) | (simp [*]; done)), H', ⟨by have := HK1.out; omega⟩, ⟨upH HB.out⟩⟩
     ·
      rw [if_neg c5] at H
      exact absurd H (by simp)
    ·
     rw [if_neg c4] at H
     have b2 : decide (a2 < (l0.length : Int)) = false := decide_eq_false c4; clear c4; obtain rfl := Option.some.inj H
     go_wp2
     go_ret
     exact ⟨by first | rfl | (simp [*, errW_none, errW_some] <;> rfl), upH HB.out⟩
end
section
def laws_szStringS.l0 : Nat → List ByteArray → Int → Int → Option (Int)
 | 0, _, _, _ => none
 | k + 1, x0, x1, x5 => if x5 < (x0.length : Int) then (if 0 ≤ x5 then (if (wrap64 (x1 - ((rdOf ByteArray.empty x0 x5).size : Int))) < 0 then (some (-1)) else (laws_szStringS.l0 k x0 (wrap64 (x1 - ((rdOf ByteArray.empty x0 x5).size : Int))) (wrap64 (x5 + 1)))) else (none)) else (some x1)
def laws_szStringS.f (k : Nat) (l0 : List ByteArray) (a1 : Int) : Option (Int) := if (wrap64 (a1 - (l0.length : Int))) < 0 then (some (-1)) else (laws_szStringS.l0 k l0 (wrap64 (a1 - (l0.length : Int))) 0)
set_option maxHeartbeats 8000000 in
set_option maxRecDepth 100000 in
theorem laws_szStringS.calls (k : Nat) (A0 : Option Addr) (c0 : Nat) (l0 : List ByteArray) (a1 : Int) (r : Int) (w : World) (hr0 : Kd.C Kd.string w A0 l0.length l0) (hc0 : l0.length ≤ c0) (h : laws_szStringS.f k l0 a1 = some r) :
  Calls Try.prog 106 #[.slice A0 l0.length c0, .int .i64 a1] w fun e w' => e = .returned (.int .i64 r) ∧ Drawn0 w w' := by
 have HR0 := Aside0.mk hr0; have HC0 := Aside0.mk hc0; clear hr0 hc0; have H : (if (wrap64 (a1 - (l0.length : Int))) < 0 then (some (-1)) else (laws_szStringS.l0 k l0 (wrap64 (a1 - (l0.length : Int))) 0)) = some r := h; clear h
 by_cases c3 : (wrap64 (a1 - (l0.length : Int))) < 0
 ·
  rw [if_pos c3] at H
  have a6 : decide ((wrap64 (a1 - (l0.length : Int))) < 0) = true := decide_eq_true c3; clear c3; obtain rfl := Option.some.inj H
  go_enter Try.func106, Try.ntmps106
  go_wp2
  go_ret
  exact ⟨by first | rfl | (simp; done) | (simp [*]; done), by repeat (first | exact Drawn0.refl _ | apply Drawn0.step)⟩
 ·
  rw [if_neg c3] at H
  have a6 : decide ((wrap64 (a1 - (l0.length : Int))) < 0) = false := decide_eq_false c3; clear c3; have H' := Aside0.mk H; clear H
  go_enter Try.func106, Try.ntmps106
  go_wp2
  (try simp only [Act.put, List.setIfInBounds_toArray, List.set_cons_zero, List.set_cons_succ])
  go_loopg [1, 5] k (fun kq v1 v5 w' => ∃ (a3 : Int) (a2 : Int), v1 = .int .i64 a3 ∧ v5 = .int .i64 a2 ∧ Aside0 (laws_szStringS.l0 kq l0 a3 a2 = some r) ∧ Aside0 (kq ≤ k) ∧ Drawn0 w w')
  case atStart => exact ⟨(wrap64 (a1 - (l0.length : Int))), (0), (by first | rfl | (simp; done) | (simp [*]; done)), (by first | rfl | (simp; done) | (simp [*]; done)), H', ⟨Nat.le_refl _⟩, by repeat (first | exact Drawn0.refl _ | apply Drawn0.step)⟩
  case round =>
   clear H'; (try clear c1); (try clear p2); (try clear c3); (try clear a6); obtain ⟨a3, a2, rfl, rfl, HA, HK1, ⟨m1, rfl⟩⟩ := hrel
   cases gk with
   | zero => exact absurd HA.out (by simp [laws_szStringS.l0])
   | succ k1 =>
    have H := HA.out; clear HA
    simp only [laws_szStringS.l0] at H
    by_cases c4 : a2 < (l0.length : Int)
    ·
     rw [if_pos c4] at H
     have a7 : decide (a2 < (l0.length : Int)) = true := decide_eq_true c4; clear c4
     by_cases c5 : 0 ≤ a2
     ·
      rw [if_pos c5] at H
      replace c5 := decide_eq_true c5
      by_cases c6 : (wrap64 (a3 - ((rdOf ByteArray.empty l0 a2).size : Int))) < 0
      ·
       rw [if_pos c6] at H
       have a8 : decide ((wrap64 (a3 - ((rdOf ByteArray.empty l0 a2).size : Int))) < 0) = true := decide_eq_true c6; clear c6; obtain rfl := Option.some.inj H
       have p101 : 0 ≤ (a2 : Int) := of_decide_eq_true (by first | (with_reducible assumption) | assumption)
       have q101 : a2 < (l0.length : Int) := of_decide_eq_true (by first | (with_reducible assumption) | assumption)
       obtain ⟨ad101, a5, a4⟩ := Kd.at_string HR0.out a2 p101 q101
       cases a5
       replace p101 := eq_true p101; replace q101 := eq_true q101
       go_wp2
       go_ret
       exact ⟨by first | rfl | (simp; done) | (simp [*]; done), by repeat (first | exact Drawn0.refl _ | apply Drawn0.step)⟩
      ·
       rw [if_neg c6] at H
       have a8 : decide ((wrap64 (a3 - ((rdOf ByteArray.empty l0 a2).size : Int))) < 0) = false := decide_eq_false c6; clear c6; have H' := Aside0.mk H; clear H
       have p101 : 0 ≤ (a2 : Int) := of_decide_eq_true (by first | (with_reducible assumption) | assumption)
       have q101 : a2 < (l0.length : Int) := of_decide_eq_true (by first | (with_reducible assumption) | assumption)
       obtain ⟨ad101, a5, a4⟩ := Kd.at_string HR0.out a2 p101 q101
       cases a5
       replace p101 := eq_true p101; replace q101 := eq_true q101
       go_wp2
       go_roundg k1
       case measure => have := HK1.out; omega
       case rel => exact ⟨(wrap64 (a3 - ((rdOf ByteArray.empty l0 a2).size : Int))), (wrap64 (a2 + 1)), (by first | rfl | (simp; done) | (simp [*]; done)), (by first | rfl | (simp; done) | (simp [*]; done)), H', ⟨by have := HK1.out; omega⟩, by repeat (first | exact Drawn0.refl _ | apply Drawn0.step)⟩
     ·
      rw [if_neg c5] at H
      exact absurd H (by simp)
    ·
     rw [if_neg c4] at H
     have a7 : decide (a2 < (l0.length : Int)) = false := decide_eq_false c4; clear c4; obtain rfl := Option.some.inj H
     go_wp2
     go_ret
     exact ⟨by first | rfl | (simp; done) | (simp [*]; done), by repeat (first | exact Drawn0.refl _ | apply Drawn0.step)⟩
end
section
def laws_szTenOut.f (a0_0 : Int) (a0_1 : Int) (l0_2 : List Int) (a1 : Int) : Option (Int) := (laws_szByteS.f l0_2 a1).bind fun t102 => (if t102 < 0 then (some (-1)) else (some t102))
set_option maxHeartbeats 8000000 in
set_option maxRecDepth 100000 in
theorem laws_szTenOut.calls (a0_0 : Int) (a0_1 : Int) (A0_2 : Option Addr) (c0_2 : Nat) (l0_2 : List Int) (a1 : Int) (r : Int) (w : World) (hr0_2 : Kd.C (Kd.int .u8) w A0_2 l0_2.length l0_2) (hc0_2 : l0_2.length ≤ c0_2) (h : laws_szTenOut.f a0_0 a0_1 l0_2 a1 = some r) :
    Calls Try.prog 137 #[.agg #[.int .i64 a0_0, .int .i64 a0_1, .slice A0_2 l0_2.length c0_2], .int .i64 a1] w fun e w' => e = .returned (.int .i64 r) ∧ Below w.heap.size w w' := by
  have hu169 := Try.underlying169; have HR0_2 := Aside0.mk hr0_2; have HC0_2 := Aside0.mk hc0_2; clear hr0_2 hc0_2; have HB := Aside0.mk (Below.refl w.heap.size w); have H : ((laws_szByteS.f l0_2 a1).bind fun t102 => (if t102 < 0 then (some (-1)) else (some t102))) = some r := h; clear h; obtain ⟨t102, A3, H⟩ := bindA H; (try dsimp only at H)
  by_cases c4 : t102 < 0
  · rw [if_pos c4] at H
    have c4b0 : decide (t102 < 0) = true := decide_eq_true c4; clear c4; obtain rfl := Option.some.inj H
    go_enter Try.func137, Try.ntmps137
    go_wp2_with (first | ((with_reducible refine gd_ 2 rfl ?_); refine bx_ 2 rfl #[.int .i64 a0_0, .int .i64 a0_1, .slice A0_2 l0_2.length c0_2] 169 ?_; intro gb101 hg w5 hbox hb; have BK101 := Aside0.mk (hbox); have GW101 := Aside0.mk ((by rw [hg]; exact (below_size (upH HB.out)) : w.heap.size ≤ gb101)); replace HB := Aside0.mk (below_step (upH HB.out) hb); have GE101 := GW101; clear hb hbox hg; obtain ⟨hcz6_0, hcz6_1, hcz6_2⟩ := cc3_ BK101.out; obtain ⟨hfz6_0, hfz6_1⟩ := cf2_ BK101.out; have hfz6_2 := blk_frozen BK101.out 2) | ((with_reducible refine gc_ 65 rfl ?_); refine gl_ (some 8) rfl Try.func65 #[.slice A0_2 l0_2.length c0_2, .int .i64 a1] ?_; (with_reducible refine (laws_szByteS.calls _ _ l0_2 a1 t102 _ ?side1 ?side2 A3.out).mono ?_); (case side1 => repeat (first | exact (Kd.C_below HR0_2.out HB.out) | (with_reducible refine Kd.C_alloc ?_ _) | (with_reducible refine Kd.C_drewN ?_ _) | (with_reducible refine Kd.C_drew ?_))); (case side2 => exact HC0_2.out); rintro e w' ⟨rfl, ⟨nd, rfl⟩⟩; refine ⟨_, rfl, ?_⟩))
    go_ret
    exact ⟨by first | rfl | (simp [*, errW_none, errW_some] <;> rfl), by repeat (with_reducible first | exact HB.out | apply below_alloc | apply pw_below_drewN | apply below_drew1 | refine below_set ?_ (Aside0.out ‹_›))⟩
  · rw [if_neg c4] at H
    have c4b0 : decide (t102 < 0) = false := decide_eq_false c4; clear c4; obtain rfl := Option.some.inj H
    go_enter Try.func137, Try.ntmps137
    go_wp2_with (first | ((with_reducible refine gd_ 2 rfl ?_); refine bx_ 2 rfl #[.int .i64 a0_0, .int .i64 a0_1, .slice A0_2 l0_2.length c0_2] 169 ?_; intro gb101 hg w7 hbox hb; have BK101 := Aside0.mk (hbox); have GW101 := Aside0.mk ((by rw [hg]; exact (below_size (upH HB.out)) : w.heap.size ≤ gb101)); replace HB := Aside0.mk (below_step (upH HB.out) hb); have GE101 := GW101; clear hb hbox hg; obtain ⟨hcz8_0, hcz8_1, hcz8_2⟩ := cc3_ BK101.out; obtain ⟨hfz8_0, hfz8_1⟩ := cf2_ BK101.out; have hfz8_2 := blk_frozen BK101.out 2) | ((with_reducible refine gc_ 65 rfl ?_); refine gl_ (some 8) rfl Try.func65 #[.slice A0_2 l0_2.length c0_2, .int .i64 a1] ?_; (with_reducible refine (laws_szByteS.calls _ _ l0_2 a1 t102 _ ?side1 ?side2 A3.out).mono ?_); (case side1 => repeat (first | exact (Kd.C_below HR0_2.out HB.out) | (with_reducible refine Kd.C_alloc ?_ _) | (with_reducible refine Kd.C_drewN ?_ _) | (with_reducible refine Kd.C_drew ?_))); (case side2 => exact HC0_2.out); rintro e w' ⟨rfl, ⟨nd, rfl⟩⟩; refine ⟨_, rfl, ?_⟩))
    go_ret
    exact ⟨by first | rfl | (simp [*, errW_none, errW_some] <;> rfl), by repeat (with_reducible first | exact HB.out | apply below_alloc | apply pw_below_drewN | apply below_drew1 | refine below_set ?_ (Aside0.out ‹_›))⟩
end
section
def laws_szTenOutS.l0 : Nat → List (S169) → Int → Int → Option (Int)
 | 0, _, _, _ => none
 | k + 1, x0, x1, x5 => if x5 < (x0.length : Int) then (if 0 ≤ x5 then ((laws_szTenOut.f ((rd_T169 x0 x5).f0) ((rd_T169 x0 x5).f1) ((rd_T169 x0 x5).f2) x1).bind fun t102 => (if t102 < 0 then (some (-1)) else (laws_szTenOutS.l0 k x0 t102 (wrap64 (x5 + 1))))) else (none)) else (some x1)
def laws_szTenOutS.f (k : Nat) (l0 : List (S169)) (a1 : Int) : Option (Int) := if (wrap64 (a1 - (l0.length : Int))) < 0 then (some (-1)) else (laws_szTenOutS.l0 k l0 (wrap64 (a1 - (l0.length : Int))) 0)
set_option maxHeartbeats 8000000 in
set_option maxRecDepth 100000 in
theorem laws_szTenOutS.calls (k : Nat) (A0 : Option Addr) (c0 : Nat) (l0 : List (S169)) (a1 : Int) (r : Int) (w : World) (hr0 : Kd.C k169 w A0 l0.length l0) (hc0 : l0.length ≤ c0) (h : laws_szTenOutS.f k l0 a1 = some r) :
  Calls Try.prog 107 #[.slice A0 l0.length c0, .int .i64 a1] w fun e w' => e = .returned (.int .i64 r) ∧ Below w.heap.size w w' := by
 have hu169 := Try.underlying169; have HR0 := Aside0.mk hr0; have HC0 := Aside0.mk hc0; clear hr0 hc0; have HB := Aside0.mk (Below.refl w.heap.size w); have H : (if (wrap64 (a1 - (l0.length : Int))) < 0 then (some (-1)) else (laws_szTenOutS.l0 k l0 (wrap64 (a1 - (l0.length : Int))) 0)) = some r := h; clear h
 by_cases c3 : (wrap64 (a1 - (l0.length : Int))) < 0
 ·
  rw [if_pos c3] at H
  have b1 : decide ((wrap64 (a1 - (l0.length : Int))) < 0) = true := decide_eq_true c3; clear c3; obtain rfl := Option.some.inj H
  go_enter Try.func107, Try.ntmps107
  go_wp2
  go_ret
  exact ⟨by first | rfl | (simp [*, errW_none, errW_some] <;> rfl), upH HB.out⟩
 ·
  rw [if_neg c3] at H
  have b1 : decide ((wrap64 (a1 - (l0.length : Int))) < 0) = false := decide_eq_false c3; clear c3; have H' := Aside0.mk H; clear H
  go_enter Try.func107, Try.ntmps107
  go_wp2
  (try simp only [Act.put, List.setIfInBounds_toArray, List.set_cons_zero, List.set_cons_succ])
  go_loopg [1, 5] k (fun kq v1 v5 w' => ∃ (a6 : Int) (a2 : Int), v1 = .int .i64 a6 ∧ v5 = .int .i64 a2 ∧ Aside0 (laws_szTenOutS.l0 kq l0 a6 a2 = some r) ∧ Aside0 (kq ≤ k) ∧ Aside0 (Below w.heap.size w w'))
  case atStart => exact ⟨(wrap64 (a1 - (l0.length : Int))), (0), (by first | rfl | (simp; done) | (simp [*]; done)), (by first | rfl | (simp; done) | (simp [*]; done)), H', ⟨Nat.le_refl _⟩, ⟨upH HB.out⟩⟩
  case round =>
   clear H'; (try clear c1); (try clear p2); (try clear c3); (try clear b1); obtain ⟨a6, a2, rfl, rfl, HA, HK1, HB⟩ := hrel
   cases gk with
   | zero => exact absurd HA.out (by simp [laws_szTenOutS.l0])
   | succ k1 =>
    have H := HA.out; clear HA
    simp only [laws_szTenOutS.l0] at H
    by_cases c4 : a2 < (l0.length : Int)
    ·
     rw [if_pos c4] at H
     have b2 : decide (a2 < (l0.length : Int)) = true := decide_eq_true c4; clear c4
     by_cases c5 : 0 ≤ a2
     ·
      rw [if_pos c5] at H
      replace c5 := decide_eq_true c5; obtain ⟨a9, A6, H⟩ := bindA H; (try dsimp only at H)
      by_cases c7 : a9 < 0
      ·
       rw [if_pos c7] at H
       have b3 : decide (a9 < 0) = true := decide_eq_true c7; clear c7; obtain rfl := Option.some.inj H
       have p101 : 0 ≤ (a2 : Int) := of_decide_eq_true (by first | (with_reducible assumption) | assumption)
       have q101 : a2 < (l0.length : Int) := of_decide_eq_true (by first | (with_reducible assumption) | assumption)
       obtain ⟨ad101, a7, a8, b0, a3, a4, a5, hl101_2, hi101_2⟩ := at_T169 HR0.out a2 p101 q101
       cases b0
       replace a3 := (HB.out.cell (World.block_lt_of_cell? w _ a3)).trans a3; replace a4 := (HB.out.cell (World.block_lt_of_cell? w _ a4)).trans a4; replace a5 := (HB.out.cell (World.block_lt_of_cell? w _ a5)).trans a5; have HR101_2 := Aside0.mk hi101_2; have HC101_2 := Aside0.mk hl101_2; clear hi101_2 hl101_2; replace p101 := eq_true p101; replace q101 := eq_true q101
       go_wp2_with (first | ((with_reducible refine gc_ 137 rfl ?_); refine gl_ (some 23) rfl Try.func137 #[.agg #[.int .i64 ((rd_T169 l0 a2).f0), .int .i64 ((rd_T169 l0 a2).f1), .slice a7 ((rd_T169 l0 a2).f2).length a8], .int .i64 a6] ?_; (with_reducible refine (laws_szTenOut.calls ((rd_T169 l0 a2).f0) ((rd_T169 l0 a2).f1) _ _ ((rd_T169 l0 a2).f2) a6 a9 _ ?side1 ?side2 A6.out).mono ?_); (case side1 => repeat (first | exact (Kd.C_below HR101_2.out HB.out) | (with_reducible refine Kd.C_alloc ?_ _) | (with_reducible refine Kd.C_drewN ?_ _) | (with_reducible refine Kd.C_drew ?_))); (case side2 => exact HC101_2.out); rintro e w8 ⟨rfl, hb⟩; refine ⟨_, rfl, ?_⟩; replace HB := Aside0.mk (below_step (upH HB.out) hb); (try clear hb)))
       go_ret
       exact ⟨by first | rfl | (simp [*, errW_none, errW_some] <;> rfl), upH HB.out⟩
      ·
       rw [if_neg c7] at H
       have b3 : decide (a9 < 0) = false := decide_eq_false c7; clear c7; have H' := Aside0.mk H; clear H
       have p101 : 0 ≤ (a2 : Int) := of_decide_eq_true (by first | (with_reducible assumption) | assumption)
       have q101 : a2 < (l0.length : Int) := of_decide_eq_true (by first | (with_reducible assumption) | assumption)
       obtain ⟨ad101, a7, a8, b0, a3, a4, a5, hl101_2, hi101_2⟩ := at_T169 HR0.out a2 p101 q101
       cases b0
       replace a3 := (HB.out.cell (World.block_lt_of_cell? w _ a3)).trans a3; replace a4 := (HB.out.cell (World.block_lt_of_cell? w _ a4)).trans a4; replace a5 := (HB.out.cell (World.block_lt_of_cell? w _ a5)).trans a5; have HR101_2 := Aside0.mk hi101_2; have HC101_2 := Aside0.mk hl101_2; clear hi101_2 hl101_2; replace p101 := eq_true p101; replace q101 := eq_true q101
       go_wp2_with (first | ((with_reducible refine gc_ 137 rfl ?_); refine gl_ (some 23) rfl Try.func137 #[.agg #[.int .i64 ((rd_T169 l0 a2).f0), .int .i64 ((rd_T169 l0 a2).f1), .slice a7 ((rd_T169 l0 a2).f2).length a8], .int .i64 a6] ?_; (with_reducible refine (laws_szTenOut.calls ((rd_T169 l0 a2).f0) ((rd_T169 l0 a2).f1) _ _ ((rd_T169 l0 a2).f2) a6 a9 _ ?side1 ?side2 A6.out).mono ?_); (case side1 => repeat (first | exact (Kd.C_below HR101_2.out HB.out) | (with_reducible refine Kd.C_alloc ?_ _) | (with_reducible refine Kd.C_drewN ?_ _) | (with_reducible refine Kd.C_drew ?_))); (case side2 => exact HC101_2.out); rintro e w9 ⟨rfl, hb⟩; refine ⟨_, rfl, ?_⟩; replace HB := Aside0.mk (below_step (upH HB.out) hb); (try clear hb)))
       go_roundg k1
       case measure => have := HK1.out; omega
       case rel => exact ⟨(a9), (wrap64 (a2 + 1)), (by first | rfl | (simp; done) | (simp [*]; done)), (by first | rfl | (simp; done) | (simp [*]; done)), H', ⟨by have := HK1.out; omega⟩, ⟨upH HB.out⟩⟩
     ·
      rw [if_neg c5] at H
      exact absurd H (by simp)
    ·
     rw [if_neg c4] at H
     have b2 : decide (a2 < (l0.length : Int)) = false := decide_eq_false c4; clear c4; obtain rfl := Option.some.inj H
     go_wp2
     go_ret
     exact ⟨by first | rfl | (simp [*, errW_none, errW_some] <;> rfl), upH HB.out⟩
end
section
open Go.Proofs.YtgpkkkmapgnhkaaW.PrintWords.Aside0 renaming mk → yaa
open Go.Proofs.YtgpkkkmapgnhkaaW.PrintWords renaming pw_below_drewN → yab, below_alloc → yac, below_drew1 → yad, below_step → yae, below_set → yaf

def laws_szTenState.f (k : Nat) (a0_0 : Int) (a0_1 : Int) (a0_2 : Int) (a0_3 : Int) (l0_4 : List (S165)) (l0_5 : List (S167)) (l0_6 : List ByteArray) (l0_7 : List (S169)) (a1 : Int) : Option (Int) := (laws_szTenJobS.f k l0_4 a1).bind fun t102 => (if t102 < 0 then (some (-1)) else ((laws_szTenFileS.f k l0_5 t102).bind fun t103 => (if t103 < 0 then (some (-1)) else ((laws_szStringS.f k l0_6 t103).bind fun t104 => (if t104 < 0 then (some (-1)) else ((laws_szTenOutS.f k l0_7 t104).bind fun t105 => (if t105 < 0 then (some (-1)) else (some t105))))))))
set_option maxHeartbeats 8000000 in
set_option maxRecDepth 100000 in
theorem laws_szTenState.calls (k : Nat) (a0_0 : Int) (a0_1 : Int) (a0_2 : Int) (a0_3 : Int) (A0_4 : Option Addr) (c0_4 : Nat) (l0_4 : List (S165)) (A0_5 : Option Addr) (c0_5 : Nat) (l0_5 : List (S167)) (A0_6 : Option Addr) (c0_6 : Nat) (l0_6 : List ByteArray) (A0_7 : Option Addr) (c0_7 : Nat) (l0_7 : List (S169)) (a1 : Int) (r : Int) (w : World) (hr0_4 : Kd.C k165 w A0_4 l0_4.length l0_4) (hc0_4 : l0_4.length ≤ c0_4) (hr0_5 : Kd.C k167 w A0_5 l0_5.length l0_5) (hc0_5 : l0_5.length ≤ c0_5) (hr0_6 : Kd.C Kd.string w A0_6 l0_6.length l0_6) (hc0_6 : l0_6.length ≤ c0_6) (hr0_7 : Kd.C k169 w A0_7 l0_7.length l0_7) (hc0_7 : l0_7.length ≤ c0_7) (h : laws_szTenState.f k a0_0 a0_1 a0_2 a0_3 l0_4 l0_5 l0_6 l0_7 a1 = some r) :
  Calls Try.prog 53 #[.agg #[.int .i64 a0_0, .int .i64 a0_1, .int .i64 a0_2, .int .i64 a0_3, .slice A0_4 l0_4.length c0_4, .slice A0_5 l0_5.length c0_5, .slice A0_6 l0_6.length c0_6, .slice A0_7 l0_7.length c0_7], .int .i64 a1] w fun e w' => e = .returned (.int .i64 r) ∧ Below w.heap.size w w' := by
 have hu83 := Try.underlying83; have HR0_4 := yaa hr0_4; have HC0_4 := yaa hc0_4; clear hr0_4 hc0_4; have HR0_5 := yaa hr0_5; have HC0_5 := yaa hc0_5; clear hr0_5 hc0_5; have HR0_6 := yaa hr0_6; have HC0_6 := yaa hc0_6; clear hr0_6 hc0_6; have HR0_7 := yaa hr0_7; have HC0_7 := yaa hc0_7; clear hr0_7 hc0_7; have HB := yaa (Below.refl w.heap.size w); have H : ((laws_szTenJobS.f k l0_4 a1).bind fun b0 => (if b0 < 0 then (some (-1)) else ((laws_szTenFileS.f k l0_5 b0).bind fun b1 => (if b1 < 0 then (some (-1)) else ((laws_szStringS.f k l0_6 b1).bind fun b4 => (if b4 < 0 then (some (-1)) else ((laws_szTenOutS.f k l0_7 b4).bind fun b7 => (if b7 < 0 then (some (-1)) else (some b7))))))))) = some r := h; clear h; obtain ⟨b0, A3, H⟩ := bindA H; (try dsimp only at H)
 by_cases c4 : b0 < 0
 ·
  rw [if_pos c4] at H
  have t9 : decide (b0 < 0) = true := decide_eq_true c4; clear c4; obtain rfl := Option.some.inj H
  go_enter Try.func53, Try.ntmps53
  go_wp2_with (first | ((with_reducible refine gd_ 2 rfl ?_); refine bx_ 2 rfl #[.int .i64 a0_0, .int .i64 a0_1, .int .i64 a0_2, .int .i64 a0_3, .slice A0_4 l0_4.length c0_4, .slice A0_5 l0_5.length c0_5, .slice A0_6 l0_6.length c0_6, .slice A0_7 l0_7.length c0_7] 83 ?_; intro b2 hg w5 hbox hb; have a9 := yaa (hbox); have b3 := yaa ((by rw [hg]; exact (below_size (upH HB.out)) : w.heap.size ≤ b2)); replace HB := yaa (yae (upH HB.out) hb); have b8 := b3; clear hb hbox hg; obtain ⟨u0, u1, u2, u3, u4, u5, u6, u7⟩ := cc8_ a9.out; obtain ⟨u8, u9, v0, v1, v2, v3, v4⟩ := cf7_ a9.out; have v5 := blk_frozen a9.out 7) | ((with_reducible refine gc_ 104 rfl ?_); refine gl_ (some 8) rfl Try.func104 #[.slice A0_4 l0_4.length c0_4, .int .i64 a1] ?_; (with_reducible refine (laws_szTenJobS.calls k _ _ l0_4 a1 b0 _ ?side1 ?side2 A3.out).mono ?_); (case side1 => repeat (first | exact (Kd.C_below HR0_4.out HB.out) | (with_reducible refine Kd.C_alloc ?_ _) | (with_reducible refine Kd.C_drewN ?_ _) | (with_reducible refine Kd.C_drew ?_))); (case side2 => exact HC0_4.out); rintro e w7 ⟨rfl, hb⟩; refine ⟨_, rfl, ?_⟩; replace a9 := yaa (blk_below (upB a9.out) hb); replace HB := yaa (yae (by repeat (with_reducible first | exact HB.out | apply yac | apply yab | apply yad | refine yaf ?_ (Aside0.out ‹_›))) hb); (try clear hb)))
  go_ret
  exact ⟨by first | rfl | (simp [*, errW_none, errW_some] <;> rfl), by repeat (with_reducible first | exact HB.out | apply yac | apply yab | apply yad | refine yaf ?_ (Aside0.out ‹_›))⟩
 ·
  rw [if_neg c4] at H
  have t9 : decide (b0 < 0) = false := decide_eq_false c4; clear c4; obtain ⟨b1, A8, H⟩ := bindA H; (try dsimp only at H)
  by_cases c9 : b1 < 0
  ·
   rw [if_pos c9] at H
   have v6 : decide (b1 < 0) = true := decide_eq_true c9; clear c9; obtain rfl := Option.some.inj H
   go_enter Try.func53, Try.ntmps53
   go_wp2_with (first | ((with_reducible refine gd_ 2 rfl ?_); refine bx_ 2 rfl #[.int .i64 a0_0, .int .i64 a0_1, .int .i64 a0_2, .int .i64 a0_3, .slice A0_4 l0_4.length c0_4, .slice A0_5 l0_5.length c0_5, .slice A0_6 l0_6.length c0_6, .slice A0_7 l0_7.length c0_7] 83 ?_; intro b2 hg w10 hbox hb; have a9 := yaa (hbox); have b3 := yaa ((by rw [hg]; exact (below_size (upH HB.out)) : w.heap.size ≤ b2)); replace HB := yaa (yae (upH HB.out) hb); have b8 := b3; clear hb hbox hg; obtain ⟨c1, c2, c3, c5, c6, c7, c8, d0⟩ := cc8_ a9.out; obtain ⟨d1, d2, d3, d4, d5, d6, d7⟩ := cf7_ a9.out; have d8 := blk_frozen a9.out 7) | ((with_reducible refine gc_ 104 rfl ?_); refine gl_ (some 8) rfl Try.func104 #[.slice A0_4 l0_4.length c0_4, .int .i64 a1] ?_; (with_reducible refine (laws_szTenJobS.calls k _ _ l0_4 a1 b0 _ ?side1 ?side2 A3.out).mono ?_); (case side1 => repeat (first | exact (Kd.C_below HR0_4.out HB.out) | (with_reducible refine Kd.C_alloc ?_ _) | (with_reducible refine Kd.C_drewN ?_ _) | (with_reducible refine Kd.C_drew ?_))); (case side2 => exact HC0_4.out); rintro e w12 ⟨rfl, hb⟩; refine ⟨_, rfl, ?_⟩; replace a9 := yaa (blk_below (upB a9.out) hb); replace HB := yaa (yae (by repeat (with_reducible first | exact HB.out | apply yac | apply yab | apply yad | refine yaf ?_ (Aside0.out ‹_›))) hb); (try clear hb); obtain ⟨d9, e0, e1, e2, e3, e4, e5, e6⟩ := cc8_ a9.out; obtain ⟨e7, e8, e9, f0, f1, f2, f3⟩ := cf7_ a9.out; have f4 := blk_frozen a9.out 7) | ((with_reducible refine gc_ 105 rfl ?_); refine gl_ (some 14) rfl Try.func105 #[.slice A0_5 l0_5.length c0_5, .int .i64 b0] ?_; (with_reducible refine (laws_szTenFileS.calls k _ _ l0_5 b0 b1 _ ?side1 ?side2 A8.out).mono ?_); (case side1 => repeat (first | exact (Kd.C_below HR0_5.out HB.out) | (with_reducible refine Kd.C_alloc ?_ _) | (with_reducible refine Kd.C_drewN ?_ _) | (with_reducible refine Kd.C_drew ?_))); (case side2 => exact HC0_5.out); rintro e w14 ⟨rfl, hb⟩; refine ⟨_, rfl, ?_⟩; replace a9 := yaa (blk_below (upB a9.out) hb); replace HB := yaa (yae (by repeat (with_reducible first | exact HB.out | apply yac | apply yab | apply yad | refine yaf ?_ (Aside0.out ‹_›))) hb); (try clear hb)))
   go_ret
   exact ⟨by first | rfl | (simp [*, errW_none, errW_some] <;> rfl), by repeat (with_reducible first | exact HB.out | apply yac | apply yab | apply yad | refine yaf ?_ (Aside0.out ‹_›))⟩
  ·
   rw [if_neg c9] at H
   have v6 : decide (b1 < 0) = false := decide_eq_false c9; clear c9; obtain ⟨b4, A15, H⟩ := bindA H; (try dsimp only at H)
   by_cases c16 : b4 < 0
   ·
    rw [if_pos c16] at H
    have b9 : decide (b4 < 0) = true := decide_eq_true c16; clear c16; obtain rfl := Option.some.inj H
    go_enter Try.func53, Try.ntmps53
    go_wp2_with (first | ((with_reducible refine gd_ 2 rfl ?_); refine bx_ 2 rfl #[.int .i64 a0_0, .int .i64 a0_1, .int .i64 a0_2, .int .i64 a0_3, .slice A0_4 l0_4.length c0_4, .slice A0_5 l0_5.length c0_5, .slice A0_6 l0_6.length c0_6, .slice A0_7 l0_7.length c0_7] 83 ?_; intro b2 hg w17 hbox hb; have a9 := yaa (hbox); have b3 := yaa ((by rw [hg]; exact (below_size (upH HB.out)) : w.heap.size ≤ b2)); replace HB := yaa (yae (upH HB.out) hb); have b8 := b3; clear hb hbox hg; obtain ⟨f5, f6, f7, f8, f9, g0, g1, g2⟩ := cc8_ a9.out; obtain ⟨g3, g4, g5, g6, g7, g8, g9⟩ := cf7_ a9.out; have h0 := blk_frozen a9.out 7) | ((with_reducible refine gc_ 104 rfl ?_); refine gl_ (some 8) rfl Try.func104 #[.slice A0_4 l0_4.length c0_4, .int .i64 a1] ?_; (with_reducible refine (laws_szTenJobS.calls k _ _ l0_4 a1 b0 _ ?side1 ?side2 A3.out).mono ?_); (case side1 => repeat (first | exact (Kd.C_below HR0_4.out HB.out) | (with_reducible refine Kd.C_alloc ?_ _) | (with_reducible refine Kd.C_drewN ?_ _) | (with_reducible refine Kd.C_drew ?_))); (case side2 => exact HC0_4.out); rintro e w19 ⟨rfl, hb⟩; refine ⟨_, rfl, ?_⟩; replace a9 := yaa (blk_below (upB a9.out) hb); replace HB := yaa (yae (by repeat (with_reducible first | exact HB.out | apply yac | apply yab | apply yad | refine yaf ?_ (Aside0.out ‹_›))) hb); (try clear hb); obtain ⟨h1, h2, h3, h4, h5, h6, h7, h8⟩ := cc8_ a9.out; obtain ⟨h9, i0, i1, i2, i3, i4, i5⟩ := cf7_ a9.out; have i6 := blk_frozen a9.out 7) | ((with_reducible refine gc_ 105 rfl ?_); refine gl_ (some 14) rfl Try.func105 #[.slice A0_5 l0_5.length c0_5, .int .i64 b0] ?_; (with_reducible refine (laws_szTenFileS.calls k _ _ l0_5 b0 b1 _ ?side1 ?side2 A8.out).mono ?_); (case side1 => repeat (first | exact (Kd.C_below HR0_5.out HB.out) | (with_reducible refine Kd.C_alloc ?_ _) | (with_reducible refine Kd.C_drewN ?_ _) | (with_reducible refine Kd.C_drew ?_))); (case side2 => exact HC0_5.out); rintro e w21 ⟨rfl, hb⟩; refine ⟨_, rfl, ?_⟩; replace a9 := yaa (blk_below (upB a9.out) hb); replace HB := yaa (yae (by repeat (with_reducible first | exact HB.out | apply yac | apply yab | apply yad | refine yaf ?_ (Aside0.out ‹_›))) hb); (try clear hb); obtain ⟨i7, i8, i9, j0, j1, j2, j3, j4⟩ := cc8_ a9.out; obtain ⟨j5, j6, j7, j8, j9, k0, k1⟩ := cf7_ a9.out; have k2 := blk_frozen a9.out 7) | ((with_reducible refine gc_ 106 rfl ?_); refine gl_ (some 20) rfl Try.func106 #[.slice A0_6 l0_6.length c0_6, .int .i64 b1] ?_; (with_reducible refine (laws_szStringS.calls k _ _ l0_6 b1 b4 _ ?side1 ?side2 A15.out).mono ?_); (case side1 => repeat (first | exact (Kd.C_below HR0_6.out HB.out) | (with_reducible refine Kd.C_alloc ?_ _) | (with_reducible refine Kd.C_drewN ?_ _) | (with_reducible refine Kd.C_drew ?_))); (case side2 => exact HC0_6.out); rintro e w' ⟨rfl, ⟨nd, rfl⟩⟩; refine ⟨_, rfl, ?_⟩))
    go_ret
    exact ⟨by first | rfl | (simp [*, errW_none, errW_some] <;> rfl), by repeat (with_reducible first | exact HB.out | apply yac | apply yab | apply yad | refine yaf ?_ (Aside0.out ‹_›))⟩
   ·
    rw [if_neg c16] at H
    have b9 : decide (b4 < 0) = false := decide_eq_false c16; clear c16; obtain ⟨b7, A23, H⟩ := bindA H; (try dsimp only at H)
    by_cases c24 : b7 < 0
    ·
     rw [if_pos c24] at H
     have c0 : decide (b7 < 0) = true := decide_eq_true c24; clear c24; obtain rfl := Option.some.inj H
     go_enter Try.func53, Try.ntmps53
     go_wp2_with (first | ((with_reducible refine gd_ 2 rfl ?_); refine bx_ 2 rfl #[.int .i64 a0_0, .int .i64 a0_1, .int .i64 a0_2, .int .i64 a0_3, .slice A0_4 l0_4.length c0_4, .slice A0_5 l0_5.length c0_5, .slice A0_6 l0_6.length c0_6, .slice A0_7 l0_7.length c0_7] 83 ?_; intro b2 hg w25 hbox hb; have a9 := yaa (hbox); have b3 := yaa ((by rw [hg]; exact (below_size (upH HB.out)) : w.heap.size ≤ b2)); replace HB := yaa (yae (upH HB.out) hb); have b8 := b3; clear hb hbox hg; obtain ⟨k3, k4, k5, k6, k7, k8, k9, l0⟩ := cc8_ a9.out; obtain ⟨l1, l2, l3, l4, l5, l6, l7⟩ := cf7_ a9.out; have l8 := blk_frozen a9.out 7) | ((with_reducible refine gc_ 104 rfl ?_); refine gl_ (some 8) rfl Try.func104 #[.slice A0_4 l0_4.length c0_4, .int .i64 a1] ?_; (with_reducible refine (laws_szTenJobS.calls k _ _ l0_4 a1 b0 _ ?side1 ?side2 A3.out).mono ?_); (case side1 => repeat (first | exact (Kd.C_below HR0_4.out HB.out) | (with_reducible refine Kd.C_alloc ?_ _) | (with_reducible refine Kd.C_drewN ?_ _) | (with_reducible refine Kd.C_drew ?_))); (case side2 => exact HC0_4.out); rintro e w27 ⟨rfl, hb⟩; refine ⟨_, rfl, ?_⟩; replace a9 := yaa (blk_below (upB a9.out) hb); replace HB := yaa (yae (by repeat (with_reducible first | exact HB.out | apply yac | apply yab | apply yad | refine yaf ?_ (Aside0.out ‹_›))) hb); (try clear hb); obtain ⟨l9, m0, m1, m2, m3, m4, m5, m6⟩ := cc8_ a9.out; obtain ⟨m7, m8, m9, n0, n1, n2, n3⟩ := cf7_ a9.out; have n4 := blk_frozen a9.out 7) | ((with_reducible refine gc_ 105 rfl ?_); refine gl_ (some 14) rfl Try.func105 #[.slice A0_5 l0_5.length c0_5, .int .i64 b0] ?_; (with_reducible refine (laws_szTenFileS.calls k _ _ l0_5 b0 b1 _ ?side1 ?side2 A8.out).mono ?_); (case side1 => repeat (first | exact (Kd.C_below HR0_5.out HB.out) | (with_reducible refine Kd.C_alloc ?_ _) | (with_reducible refine Kd.C_drewN ?_ _) | (with_reducible refine Kd.C_drew ?_))); (case side2 => exact HC0_5.out); rintro e w29 ⟨rfl, hb⟩; refine ⟨_, rfl, ?_⟩; replace a9 := yaa (blk_below (upB a9.out) hb); replace HB := yaa (yae (by repeat (with_reducible first | exact HB.out | apply yac | apply yab | apply yad | refine yaf ?_ (Aside0.out ‹_›))) hb); (try clear hb); obtain ⟨n5, n6, n7, n8, n9, o0, o1, o2⟩ := cc8_ a9.out; obtain ⟨o3, o4, o5, o6, o7, o8, o9⟩ := cf7_ a9.out; have p0 := blk_frozen a9.out 7) | ((with_reducible refine gc_ 106 rfl ?_); refine gl_ (some 20) rfl Try.func106 #[.slice A0_6 l0_6.length c0_6, .int .i64 b1] ?_; (with_reducible refine (laws_szStringS.calls k _ _ l0_6 b1 b4 _ ?side1 ?side2 A15.out).mono ?_); (case side1 => repeat (first | exact (Kd.C_below HR0_6.out HB.out) | (with_reducible refine Kd.C_alloc ?_ _) | (with_reducible refine Kd.C_drewN ?_ _) | (with_reducible refine Kd.C_drew ?_))); (case side2 => exact HC0_6.out); rintro e w' ⟨rfl, ⟨nd, rfl⟩⟩; refine ⟨_, rfl, ?_⟩) | ((with_reducible refine gc_ 107 rfl ?_); refine gl_ (some 26) rfl Try.func107 #[.slice A0_7 l0_7.length c0_7, .int .i64 b4] ?_; (with_reducible refine (laws_szTenOutS.calls k _ _ l0_7 b4 b7 _ ?side1 ?side2 A23.out).mono ?_); (case side1 => repeat (first | exact (Kd.C_below HR0_7.out (by repeat (with_reducible first | exact HB.out | apply yac | apply yab | apply yad | refine yaf ?_ (Aside0.out ‹_›)))) | (with_reducible refine Kd.C_alloc ?_ _) | (with_reducible refine Kd.C_drewN ?_ _) | (with_reducible refine Kd.C_drew ?_))); (case side2 => exact HC0_7.out); rintro e w31 ⟨rfl, hb⟩; refine ⟨_, rfl, ?_⟩; replace a9 := yaa (blk_below (upB a9.out) hb); replace HB := yaa (yae (by repeat (with_reducible first | exact HB.out | apply yac | apply yab | apply yad | refine yaf ?_ (Aside0.out ‹_›))) hb); (try clear hb)))
     go_ret
     exact ⟨by first | rfl | (simp [*, errW_none, errW_some] <;> rfl), by repeat (with_reducible first | exact HB.out | apply yac | apply yab | apply yad | refine yaf ?_ (Aside0.out ‹_›))⟩
    ·
     rw [if_neg c24] at H
     have c0 : decide (b7 < 0) = false := decide_eq_false c24; clear c24; obtain rfl := Option.some.inj H
     go_enter Try.func53, Try.ntmps53
     go_wp2_with (first | ((with_reducible refine gd_ 2 rfl ?_); refine bx_ 2 rfl #[.int .i64 a0_0, .int .i64 a0_1, .int .i64 a0_2, .int .i64 a0_3, .slice A0_4 l0_4.length c0_4, .slice A0_5 l0_5.length c0_5, .slice A0_6 l0_6.length c0_6, .slice A0_7 l0_7.length c0_7] 83 ?_; intro b2 hg w32 hbox hb; have a9 := yaa (hbox); have b3 := yaa ((by rw [hg]; exact (below_size (upH HB.out)) : w.heap.size ≤ b2)); replace HB := yaa (yae (upH HB.out) hb); have b8 := b3; clear hb hbox hg; obtain ⟨p1, p2, p3, p4, p5, p6, p7, p8⟩ := cc8_ a9.out; obtain ⟨p9, q0, q1, q2, q3, q4, q5⟩ := cf7_ a9.out; have q6 := blk_frozen a9.out 7) | ((with_reducible refine gc_ 104 rfl ?_); refine gl_ (some 8) rfl Try.func104 #[.slice A0_4 l0_4.length c0_4, .int .i64 a1] ?_; (with_reducible refine (laws_szTenJobS.calls k _ _ l0_4 a1 b0 _ ?side1 ?side2 A3.out).mono ?_); (case side1 => repeat (first | exact (Kd.C_below HR0_4.out HB.out) | (with_reducible refine Kd.C_alloc ?_ _) | (with_reducible refine Kd.C_drewN ?_ _) | (with_reducible refine Kd.C_drew ?_))); (case side2 => exact HC0_4.out); rintro e w34 ⟨rfl, hb⟩; refine ⟨_, rfl, ?_⟩; replace a9 := yaa (blk_below (upB a9.out) hb); replace HB := yaa (yae (by repeat (with_reducible first | exact HB.out | apply yac | apply yab | apply yad | refine yaf ?_ (Aside0.out ‹_›))) hb); (try clear hb); obtain ⟨q7, q8, q9, r0, r1, r2, r3, r4⟩ := cc8_ a9.out; obtain ⟨r5, r6, r7, r8, r9, s0, s1⟩ := cf7_ a9.out; have s2 := blk_frozen a9.out 7) | ((with_reducible refine gc_ 105 rfl ?_); refine gl_ (some 14) rfl Try.func105 #[.slice A0_5 l0_5.length c0_5, .int .i64 b0] ?_; (with_reducible refine (laws_szTenFileS.calls k _ _ l0_5 b0 b1 _ ?side1 ?side2 A8.out).mono ?_); (case side1 => repeat (first | exact (Kd.C_below HR0_5.out HB.out) | (with_reducible refine Kd.C_alloc ?_ _) | (with_reducible refine Kd.C_drewN ?_ _) | (with_reducible refine Kd.C_drew ?_))); (case side2 => exact HC0_5.out); rintro e w36 ⟨rfl, hb⟩; refine ⟨_, rfl, ?_⟩; replace a9 := yaa (blk_below (upB a9.out) hb); replace HB := yaa (yae (by repeat (with_reducible first | exact HB.out | apply yac | apply yab | apply yad | refine yaf ?_ (Aside0.out ‹_›))) hb); (try clear hb); obtain ⟨s3, s4, s5, s6, s7, s8, s9, t0⟩ := cc8_ a9.out; obtain ⟨t1, t2, t3, t4, t5, t6, t7⟩ := cf7_ a9.out; have t8 := blk_frozen a9.out 7) | ((with_reducible refine gc_ 106 rfl ?_); refine gl_ (some 20) rfl Try.func106 #[.slice A0_6 l0_6.length c0_6, .int .i64 b1] ?_; (with_reducible refine (laws_szStringS.calls k _ _ l0_6 b1 b4 _ ?side1 ?side2 A15.out).mono ?_); (case side1 => repeat (first | exact (Kd.C_below HR0_6.out HB.out) | (with_reducible refine Kd.C_alloc ?_ _) | (with_reducible refine Kd.C_drewN ?_ _) | (with_reducible refine Kd.C_drew ?_))); (case side2 => exact HC0_6.out); rintro e w' ⟨rfl, ⟨nd, rfl⟩⟩; refine ⟨_, rfl, ?_⟩) | ((with_reducible refine gc_ 107 rfl ?_); refine gl_ (some 26) rfl Try.func107 #[.slice A0_7 l0_7.length c0_7, .int .i64 b4] ?_; (with_reducible refine (laws_szTenOutS.calls k _ _ l0_7 b4 b7 _ ?side1 ?side2 A23.out).mono ?_); (case side1 => repeat (first | exact (Kd.C_below HR0_7.out (by repeat (with_reducible first | exact HB.out | apply yac | apply yab | apply yad | refine yaf ?_ (Aside0.out ‹_›)))) | (with_reducible refine Kd.C_alloc ?_ _) | (with_reducible refine Kd.C_drewN ?_ _) | (with_reducible refine Kd.C_drew ?_))); (case side2 => exact HC0_7.out); rintro e w38 ⟨rfl, hb⟩; refine ⟨_, rfl, ?_⟩; replace a9 := yaa (blk_below (upB a9.out) hb); replace HB := yaa (yae (by repeat (with_reducible first | exact HB.out | apply yac | apply yab | apply yad | refine yaf ?_ (Aside0.out ‹_›))) hb); (try clear hb)))
     go_ret
     exact ⟨by first | rfl | (simp [*, errW_none, errW_some] <;> rfl), by repeat (with_reducible first | exact HB.out | apply yac | apply yab | apply yad | refine yaf ?_ (Aside0.out ‹_›))⟩
end
section
def spec_l1In.f (a0 : Int) (a1 : Int) (a2 : Int) : Option (Bool) := if a0 ≥ a1 then (some (decide (a0 ≤ a2))) else (some false)
set_option maxHeartbeats 8000000 in
set_option maxRecDepth 100000 in
theorem spec_l1In.calls (a0 : Int) (a1 : Int) (a2 : Int) (r : Bool) (w : World) (h : spec_l1In.f a0 a1 a2 = some r) :
    Calls Try.prog 63 #[.int .i64 a0, .int .i64 a1, .int .i64 a2] w fun e w' => e = .returned (.bool r) ∧ Drawn0 w w' := by
  have H : (if a0 ≥ a1 then (some (decide (a0 ≤ a2))) else (some false)) = some r := h; clear h
  by_cases c4 : a0 ≥ a1
  · rw [if_pos c4] at H
    have c4b0 : decide (a1 ≤ a0) = true := decide_eq_true c4; clear c4; obtain rfl := Option.some.inj H
    go_enter Try.func63, Try.ntmps63
    go_wp2
    go_ret
    exact ⟨by first | rfl | (simp; done) | (simp [*]; done), by repeat (first | exact Drawn0.refl _ | apply Drawn0.step)⟩
  · rw [if_neg c4] at H
    have c4b0 : decide (a1 ≤ a0) = false := decide_eq_false c4; clear c4; obtain rfl := Option.some.inj H
    go_enter Try.func63, Try.ntmps63
    go_wp2
    go_ret
    exact ⟨by first | rfl | (simp; done) | (simp [*]; done), by repeat (first | exact Drawn0.refl _ | apply Drawn0.step)⟩
end
end Go.Proofs.Ytgpkkkmapgnhkaa.X
