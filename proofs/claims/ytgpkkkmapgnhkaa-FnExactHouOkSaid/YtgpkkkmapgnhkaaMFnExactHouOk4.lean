/- Lemmas and contracts for the law FnExactHouOk, part 4: of the program's functions, and over data alone. No condition. -/
import Derived.Test.YtgpkkkmapgnhkaaMFnExactHouOk2
import Derived.Test.YtgpkkkmapgnhkaaMFnExactHouOk3
namespace Go.Proofs.Ytgpkkkmapgnhkaa.X
open Go.RowKit Go.Proofs.YtgpkkkmapgnhkaaW.PrintWords Go.Proofs.YtgpkkkmapgnhkaaW.PrintLast Go.Proofs.YtgpkkkmapgnhkaaW.PrintMore
attribute [local go_sem] max2_int min2_int max_two min_two max_three min_three max_four min_four
set_option linter.unusedVariables false
set_option linter.unusedSimpArgs false
section
open Go.Proofs.YtgpkkkmapgnhkaaW.PrintWords renaming blk_cell → yaa, pw_below_drewN → yad, below_drew1 → yae, below_alloc → yaf, below_set → yag, blk_far → yah, blk_below → yai, blk_put → yaj, blk_drew → yak, Aside0 → yal, below_step → yam
open Go.Proofs.YtgpkkkmapgnhkaaW.PrintWords.Aside0 renaming mk → yab
open Go.Proofs.Ytgpkkkmapgnhkaa.X renaming rd_T124 → yac
abbrev q108_0 : Array Bool := Array.replicate 43 false
abbrev q108_1 : Array Bool := bl_ 43 1
abbrev q108_2 : Array Bool := bl_ 43 5
abbrev q108_3 : Array Bool := bl_ 43 7
abbrev q108_4 : Array Bool := bl_ 43 15
abbrev q108_5 : Array Bool := bl_ 43 31
abbrev q108_6 : Array Bool := bl_ 43 63
abbrev q108_7 : Array Bool := bl_ 43 127
abbrev q108_8 : Array Bool := bl_ 43 255
abbrev q108_9 : Array Bool := bl_ 43 511
abbrev q108_10 : Array Bool := bl_ 43 1023
abbrev q108_11 : Array Bool := bl_ 43 2047
abbrev q108_12 : Array Bool := bl_ 43 4095
abbrev q108_13 : Array Bool := bl_ 43 12287
abbrev q108_14 : Array Bool := bl_ 43 28671
abbrev q108_15 : Array Bool := bl_ 43 290815
abbrev q108_16 : Array Bool := bl_ 43 294911
abbrev q108_17 : Array Bool := bl_ 43 327679
abbrev q108_18 : Array Bool := bl_ 43 393215
abbrev q108_19 : Array Bool := bl_ 43 524287
abbrev q108_20 : Array Bool := bl_ 43 1048575
abbrev q108_21 : Array Bool := bl_ 43 2097151
abbrev q108_22 : Array Bool := bl_ 43 4194303
abbrev q108_23 : Array Bool := bl_ 43 8388607
abbrev q108_24 : Array Bool := bl_ 43 16777215
abbrev q108_25 : Array Bool := bl_ 43 33554431
abbrev q108_26 : Array Bool := bl_ 43 67108863
abbrev q108_27 : Array Bool := bl_ 43 134217727
abbrev q108_28 : Array Bool := bl_ 43 268435455
abbrev q108_29 : Array Bool := bl_ 43 536870911
abbrev q108_30 : Array Bool := bl_ 43 1073741823
abbrev q108_31 : Array Bool := bl_ 43 2147483647
abbrev q108_32 : Array Bool := bl_ 43 4294967295
abbrev q108_33 : Array Bool := bl_ 43 8589934591
abbrev q108_34 : Array Bool := bl_ 43 17179869183
abbrev q108_35 : Array Bool := bl_ 43 34359738367
abbrev q108_36 : Array Bool := bl_ 43 68719476735
abbrev q108_37 : Array Bool := bl_ 43 137438953471
abbrev q108_38 : Array Bool := bl_ 43 274877906943
abbrev q108_39 : Array Bool := bl_ 43 549755813887
abbrev q108_40 : Array Bool := bl_ 43 1099511627775
abbrev q108_41 : Array Bool := bl_ 43 2199023255551
abbrev q108_42 : Array Bool := bl_ 43 4398046511103
abbrev q108_43 : Array Bool := bl_ 43 8796093022207
abbrev q108_44 : Array Bool := bl_ 43 412316860415
abbrev q108_45 : Array Bool := bl_ 43 8191
abbrev q108_46 : Array Bool := bl_ 43 16383
abbrev q108_47 : Array Bool := bl_ 43 32767
abbrev q108_48 : Array Bool := bl_ 43 65535
abbrev q108_49 : Array Bool := bl_ 43 131071
abbrev q108_50 : Array Bool := bl_ 43 262143
def spec_l8Jobs.l0 : Nat → Int → List Int → Int → Int → Int → Int → Int → Int → Int → Int → Int → Int → List (S124) → List (S156) → List ByteArray → List (S158) → Option (Bool)
 | 0, _, _, _, _, _, _, _, _, _, _, _, _, _, _, _, _ => none
 | k + 1, x5, x102000, x102001, x102002, x102003, x102004, x102005, x102006, x103000, x103001, x103002, x103003, x103004, x103005, x103006, x103007 => if x5 < (x103004.length : Int) then (if 0 ≤ x5 then ((spec_l1In.f ((rd_T124 x103004 x5).f0) 0 (wrap64 (x103003 - 1))).bind fun t105 => (if t105 = true then (if x5 > 0 then (if 0 ≤ (wrap64 (x5 - 1)) then (if (wrap64 (x5 - 1)) < (x103004.length : Int) then (if ((rd_T124 x103004 (wrap64 (x5 - 1))).f0) ≥ ((rd_T124 x103004 x5).f0) then (some false) else ((spec_l7Path.f k ((rd_T124 x103004 x5).f1)).bind fun t107 => (if t107 = true then ((spec_l6All.f k ((rd_T124 x103004 x5).f2)).bind fun t108 => (if t108 = true then ((spec_l1In.f ((rd_T124 x103004 x5).f3) 0 x103000).bind fun t109 => (if t109 = true then (spec_l8Jobs.l0 k (wrap64 (x5 + 1)) x102000 x102001 x102002 x102003 x102004 x102005 x102006 x103000 x103001 x103002 x103003 x103004 x103005 x103006 x103007) else (some false))) else (some false))) else (some false)))) else (none)) else (none)) else ((spec_l7Path.f k ((rd_T124 x103004 x5).f1)).bind fun t110 => (if t110 = true then ((spec_l6All.f k ((rd_T124 x103004 x5).f2)).bind fun t111 => (if t111 = true then ((spec_l1In.f ((rd_T124 x103004 x5).f3) 0 x103000).bind fun t112 => (if t112 = true then (spec_l8Jobs.l0 k (wrap64 (x5 + 1)) x102000 x102001 x102002 x102003 x102004 x102005 x102006 x103000 x103001 x103002 x103003 x103004 x103005 x103006 x103007) else (some false))) else (some false))) else (some false)))) else (some false))) else (none)) else (some (decide ((x103004.length : Int) ≤ x102003)))
def spec_l8Jobs.f (k : Nat) (l0_0 : List Int) (a0_1 : Int) (a0_2 : Int) (a0_3 : Int) (a0_4 : Int) (a0_5 : Int) (a0_6 : Int) (a1_0 : Int) (a1_1 : Int) (a1_2 : Int) (a1_3 : Int) (l1_4 : List (S124)) (l1_5 : List (S156)) (l1_6 : List ByteArray) (l1_7 : List (S158)) : Option (Bool) := spec_l8Jobs.l0 k 0 l0_0 a0_1 a0_2 a0_3 a0_4 a0_5 a0_6 a1_0 a1_1 a1_2 a1_3 l1_4 l1_5 l1_6 l1_7
def spec_l8Jobs.T5 : Bool × List (List Nat × List Nat) := (true, [([], []), ([0], [0]), ([], []), ([2], [2]), ([3], [3]), ([1, 4], [1, 4]), ([5], [5]), ([6, 5], [6]), ([7], [7]), ([8, 7], [7, 8]), ([9, 7, 7], [7, 9]), ([10], [10]), ([11, 10], [10, 11]), ([10], [10]), ([13, 10], [10, 13]), ([12, 14, 10], [10, 12, 14]), ([15, 10], [10, 15]), ([16, 10], [10, 16]), ([10], [10]), ([18, 10], [10, 18]), ([17, 19, 10], [10, 17, 19]), ([10, 20, 7], [7, 10, 20]), ([7, 21], [7, 21]), ([22, 10], [22]), ([23], [23]), ([24, 23], [23, 24]), ([25, 23, 23], [23, 25]), ([26, 23], [23, 26]), ([23, 27], [23, 27]), ([28, 26], [28]), ([29], [29]), ([30, 29], [29, 30]), ([31, 29, 29], [29, 31]), ([32, 29], [29, 32]), ([29, 33], [29, 33]), ([34, 32], [34]), ([35], [35]), ([36, 35], [35, 36]), ([35], [35]), ([38, 35], [35, 38]), ([37, 39, 35, 35], [35, 37, 39]), ([40, 35], [35, 40]), ([35, 41], [35, 41])])
def spec_l8Jobs.B5 : List Nat := [0, 1, 0, 4, 12, 31, 63, 127, 255, 511, 1023, 2047, 4095, 2047, 10239, 32767, 65535, 131071, 2047, 264191, 1048575, 2097151, 4194303, 8388607, 16777215, 33554431, 67108863, 134217727, 268435455, 536870911, 1073741823, 2147483647, 4294967295, 8589934591, 17179869183, 34359738367, 68719476735, 137438953471, 68719476735, 343597383679, 1099511627775, 2199023255551, 4398046511103]
theorem spec_l8Jobs.tab5 : rtab .any (opsOf Try.f108 5) = spec_l8Jobs.T5 := by kernel_rfl
theorem spec_l8Jobs.bits5 : waitsOk spec_l8Jobs.T5.2 spec_l8Jobs.B5 = true := by kernel_rfl
set_option maxHeartbeats 8000000 in
set_option maxRecDepth 100000 in
theorem spec_l8Jobs.calls (k : Nat) (A0_0 : Option Addr) (c0_0 : Nat) (l0_0 : List Int) (a0_1 : Int) (a0_2 : Int) (a0_3 : Int) (a0_4 : Int) (a0_5 : Int) (a0_6 : Int) (a1_0 : Int) (a1_1 : Int) (a1_2 : Int) (a1_3 : Int) (A1_4 : Option Addr) (c1_4 : Nat) (l1_4 : List (S124)) (A1_5 : Option Addr) (c1_5 : Nat) (l1_5 : List (S156)) (A1_6 : Option Addr) (c1_6 : Nat) (l1_6 : List ByteArray) (A1_7 : Option Addr) (c1_7 : Nat) (l1_7 : List (S158)) (r : Bool) (w : World) (hr0_0 : Kd.C (Kd.int .u8) w A0_0 l0_0.length l0_0) (hc0_0 : l0_0.length ≤ c0_0) (hr1_4 : Kd.C k124 w A1_4 l1_4.length l1_4) (hc1_4 : l1_4.length ≤ c1_4) (hr1_5 : Kd.C k156 w A1_5 l1_5.length l1_5) (hc1_5 : l1_5.length ≤ c1_5) (hr1_6 : Kd.C Kd.string w A1_6 l1_6.length l1_6) (hc1_6 : l1_6.length ≤ c1_6) (hr1_7 : Kd.C k158 w A1_7 l1_7.length l1_7) (hc1_7 : l1_7.length ≤ c1_7) (h : spec_l8Jobs.f k l0_0 a0_1 a0_2 a0_3 a0_4 a0_5 a0_6 a1_0 a1_1 a1_2 a1_3 l1_4 l1_5 l1_6 l1_7 = some r) :
  Calls Try.prog 108 #[.agg #[.slice A0_0 l0_0.length c0_0, .int .i64 a0_1, .int .i64 a0_2, .int .i64 a0_3, .int .i64 a0_4, .int .i64 a0_5, .int .i64 a0_6], .agg #[.int .i64 a1_0, .int .i64 a1_1, .int .i64 a1_2, .int .i64 a1_3, .slice A1_4 l1_4.length c1_4, .slice A1_5 l1_5.length c1_5, .slice A1_6 l1_6.length c1_6, .slice A1_7 l1_7.length c1_7]] w fun e w' => e = .returned (.bool r) ∧ Below w.heap.size w w' := by
 have hu24 := Try.underlying24; have hu63 := Try.underlying63; have hu124 := Try.underlying124; have HR0_0 := yab hr0_0; have HC0_0 := yab hc0_0; clear hr0_0 hc0_0; have HR1_4 := yab hr1_4; have HC1_4 := yab hc1_4; clear hr1_4 hc1_4; have HR1_5 := yab hr1_5; have HC1_5 := yab hc1_5; clear hr1_5 hc1_5; have HR1_6 := yab hr1_6; have HC1_6 := yab hc1_6; clear hr1_6 hc1_6; have HR1_7 := yab hr1_7; have HC1_7 := yab hc1_7; clear hr1_7 hc1_7; have HB := yab (Below.refl w.heap.size w); have H : (spec_l8Jobs.l0 k 0 l0_0 a0_1 a0_2 a0_3 a0_4 a0_5 a0_6 a1_0 a1_1 a1_2 a1_3 l1_4 l1_5 l1_6 l1_7) = some r := h; clear h; have H' := yab H; clear H
 go_enter Try.func108, Try.ntmps108
 go_wp2_with (first | ((with_reducible refine gd_ 2 rfl ?_); refine bx_ 2 rfl #[.slice A0_0 l0_0.length c0_0, .int .i64 a0_1, .int .i64 a0_2, .int .i64 a0_3, .int .i64 a0_4, .int .i64 a0_5, .int .i64 a0_6] 24 ?_; intro e1 hg w3 hbox hb; have b6 := yab (hbox); have f9 := yab ((by rw [hg]; exact (below_size (upH HB.out)) : w.heap.size ≤ e1)); replace HB := yab (yam (upH HB.out) hb); have K8 := f9; clear hb hbox hg) | ((with_reducible refine gd_ 3 rfl ?_); refine bx_ 3 rfl #[.int .i64 a1_0, .int .i64 a1_1, .int .i64 a1_2, .int .i64 a1_3, .slice A1_4 l1_4.length c1_4, .slice A1_5 l1_5.length c1_5, .slice A1_6 l1_6.length c1_6, .slice A1_7 l1_7.length c1_7] 63 ?_; intro b7 hg w4 hbox hb; have b0 := yab (hbox); have g0 := yab ((by rw [hg]; exact (below_size (by repeat (with_reducible first | exact HB.out | apply yaf | apply yad | apply yae | refine yag ?_ (Aside0.out ‹_›)))) : w.heap.size ≤ b7)); replace HB := yab (yam (by repeat (with_reducible first | exact HB.out | apply yaf | apply yad | apply yae | refine yag ?_ (Aside0.out ‹_›))) hb); have K9 := g0; have d9 := yab ((by rw [hg]; exact Nat.ne_of_lt (blk_lt (upB b6.out)) : e1 ≠ b7)); replace b6 := yab (yai (upB b6.out) hb); have e0 := yab d9.out.symm; clear hb hbox hg))
 (try simp only [Act.put, List.setIfInBounds_toArray, List.set_cons_zero, List.set_cons_succ])
 go_loopg [5] k (fun kq v5 w' => ∃ (b2 : Int), v5 = .int .i64 b2 ∧ yal (spec_l8Jobs.l0 kq b2 l0_0 a0_1 a0_2 a0_3 a0_4 a0_5 a0_6 a1_0 a1_1 a1_2 a1_3 l1_4 l1_5 l1_6 l1_7 = some r) ∧ yal (kq ≤ k) ∧ yal (w'.heap[e1]? = some (.cells #[(.slice A0_0 l0_0.length c0_0), .int .i64 a0_1, .int .i64 a0_2, .int .i64 a0_3, .int .i64 a0_4, .int .i64 a0_5, .int .i64 a0_6] 24 (0, 0))) ∧ yal (w'.heap[b7]? = some (.cells #[.int .i64 a1_0, .int .i64 a1_1, .int .i64 a1_2, .int .i64 a1_3, (.slice A1_4 l1_4.length c1_4), (.slice A1_5 l1_5.length c1_5), (.slice A1_6 l1_6.length c1_6), (.slice A1_7 l1_7.length c1_7)] 63 (0, 0))) ∧ yal (Below w.heap.size w w'))
 case atStart => exact ⟨(0), (by first | rfl | (simp; done) | (simp [*]; done)), H', ⟨Nat.le_refl _⟩, ⟨by exact upB b6.out⟩, ⟨by exact upB b0.out⟩, ⟨by repeat (with_reducible first | exact HB.out | apply yaf | apply yad | apply yae | refine yag ?_ (Aside0.out ‹_›))⟩⟩
 case round =>
  clear H'; (try clear c1); (try clear p2); obtain ⟨b2, rfl, HA, HK1, b6, b0, HB⟩ := hrel
  cases gk with
  | zero => exact absurd HA.out (by simp [spec_l8Jobs.l0])
  | succ k1 =>
   have H := HA.out; clear HA
   simp only [spec_l8Jobs.l0] at H
   by_cases c5 : b2 < (l1_4.length : Int)
   rotate_left
   ·
    rw [if_neg c5] at H
    have J2 : decide (b2 < (l1_4.length : Int)) = false := decide_eq_false c5; clear c5; obtain rfl := Option.some.inj H; have K6 := e0.out; have K7 := d9.out; obtain ⟨j4, j5, j6, j7, j8, j9, k0, k2⟩ := cc8_ b0.out; obtain ⟨k3, k4, k5, k6, k7, k8, k9, l1⟩ := cf8_ b0.out; obtain ⟨l2, l3, l4, l5, l6, l7, l8⟩ := cc7_ b6.out; obtain ⟨l9, m0, m1, m2, m3, m4, m5⟩ := cf7_ b6.out
    go_wp2
    go_ret
    exact ⟨by first | rfl | (simp [*, errW_none, errW_some] <;> rfl), by repeat (with_reducible first | exact HB.out | apply yaf | apply yad | apply yae | refine yag ?_ (Aside0.out ‹_›))⟩
   rw [if_pos c5] at H
   have J2 : decide (b2 < (l1_4.length : Int)) = true := decide_eq_true c5; clear c5
   by_cases c6 : 0 ≤ b2
   rotate_left
   ·
    rw [if_neg c6] at H
    exact absurd H (by simp)
   rw [if_pos c6] at H
   replace c6 := decide_eq_true c6; obtain ⟨J3, A7, H⟩ := bindA H; (try dsimp only at H)
   by_cases c8 : J3 = true
   rotate_left
   ·
    replace c8 := Bool.eq_false_iff.mpr c8
    subst c8
    rw [if_neg (show ¬ (false = true) by decide)] at H
    obtain rfl := Option.some.inj H; have K0 := e0.out; have K1 := d9.out; obtain ⟨h0, h1, h2, h3, h4, h5, h6, h7⟩ := cc8_ b0.out; obtain ⟨h8, h9, i0, i1, i2, i3, i4, i5⟩ := cf8_ b0.out; have p103 : 0 ≤ (b2 : Int) := of_decide_eq_true (by assumption); have q103 : b2 < (l1_4.length : Int) := of_decide_eq_true (by assumption); obtain ⟨ad103, b8, b9, e3, c0, c2, c3, c4, hl103_2, hi103_2⟩ := at_T124 HR1_4.out b2 p103 q103
    cases e3
    replace c0 := (upc_ HB.out c0 :); replace c2 := (upc_ HB.out c2 :); replace c3 := (upc_ HB.out c3 :); replace c4 := (upc_ HB.out c4 :); have HR103_2 := yab hi103_2; have HC103_2 := yab hl103_2; clear hi103_2 hl103_2; replace p103 := eq_true p103; replace q103 := eq_true q103
    try go_wp2_with (first | ((with_reducible refine gd_ 6 rfl ?_); refine bx_ 6 rfl #[.int .i64 0, .string (⟨#[]⟩ : ByteArray), .slice none 0 0, .int .i64 0] 124 ?_; intro b5 hg w106 hbox hb; have b1 := yab (hbox); have e2 := yab ((by rw [hg]; exact (below_size (by repeat (with_reducible first | exact HB.out | apply yaf | apply yad | apply yae | refine yag ?_ (Aside0.out ‹_›)))) : w.heap.size ≤ b5)); replace HB := yab (yam (by repeat (with_reducible first | exact HB.out | apply yaf | apply yad | apply yae | refine yag ?_ (Aside0.out ‹_›))) hb); have e6 := e2; have b3 := yab ((by rw [hg]; exact Nat.ne_of_lt (blk_lt (upB b6.out)) : e1 ≠ b5)); replace b6 := yab (yai (upB b6.out) hb); have c7 := yab b3.out.symm; have b4 := yab ((by rw [hg]; exact Nat.ne_of_lt (blk_lt (upB b0.out)) : b7 ≠ b5)); replace b0 := yab (yai (upB b0.out) hb); have d0 := yab b4.out.symm; clear hb hbox hg; have K2 := c7.out; have K3 := b3.out; have K4 := d0.out; have K5 := b4.out; obtain ⟨i6, i7, i8, i9⟩ := cc4_ b1.out; obtain ⟨j0, j1, j2⟩ := cf3_ b1.out; have j3 := blk_frozen b1.out 3))
    generalize hg_ : ((((w106.setCell ⟨b5, 0, none⟩ (.int .i64 ((yac l1_4 b2).f0))).setCell ⟨b5, 1, none⟩ (.string ((yac l1_4 b2).f1))).setCell ⟨b5, 2, none⟩ (.slice b8 ((yac l1_4 b2).f2).length b9)).setCell ⟨b5, 3, none⟩ (.int .i64 ((yac l1_4 b2).f3))) = w110
    replace b6 : yal (w110.heap[e1]? = some (.cells #[.slice A0_0 l0_0.length c0_0, .int .i64 a0_1, .int .i64 a0_2, .int .i64 a0_3, .int .i64 a0_4, .int .i64 a0_5, .int .i64 a0_6] 24 (0, 0))) := ⟨by subst hg_; (repeat refine oneB ?_); refine yah ?_ b3.out _; (repeat refine oneB ?_); refine yah ?_ b3.out _; (repeat refine oneB ?_); refine yah ?_ b3.out _; (repeat refine oneB ?_); refine yah ?_ b3.out _; exact upB b6.out⟩; replace b0 : yal (w110.heap[b7]? = some (.cells #[.int .i64 a1_0, .int .i64 a1_1, .int .i64 a1_2, .int .i64 a1_3, .slice (some ad103) l1_4.length c1_4, .slice A1_5 l1_5.length c1_5, .slice A1_6 l1_6.length c1_6, .slice A1_7 l1_7.length c1_7] 63 (0, 0))) := ⟨by subst hg_; (repeat refine oneB ?_); refine yah ?_ b4.out _; (repeat refine oneB ?_); refine yah ?_ b4.out _; (repeat refine oneB ?_); refine yah ?_ b4.out _; (repeat refine oneB ?_); refine yah ?_ b4.out _; exact upB b0.out⟩; replace b1 : yal (w110.heap[b5]? = some (.cells #[.int .i64 ((yac l1_4 b2).f0), .string ((yac l1_4 b2).f1), .slice b8 ((yac l1_4 b2).f2).length b9, .int .i64 ((yac l1_4 b2).f3)] 124 (0, 0))) := ⟨by subst hg_; (repeat refine oneB ?_); refine yaj (cs := #[.int .i64 ((yac l1_4 b2).f0), .string ((yac l1_4 b2).f1), .slice b8 ((yac l1_4 b2).f2).length b9, .int .i64 0]) ?_ 3 _ rfl; refine yaj (cs := #[.int .i64 ((yac l1_4 b2).f0), .string ((yac l1_4 b2).f1), .slice none 0 0, .int .i64 0]) ?_ 2 _ rfl; refine yaj (cs := #[.int .i64 ((yac l1_4 b2).f0), .string (⟨#[]⟩ : ByteArray), .slice none 0 0, .int .i64 0]) ?_ 1 _ rfl; refine yaj (cs := #[.int .i64 0, .string (⟨#[]⟩ : ByteArray), .slice none 0 0, .int .i64 0]) ?_ 0 _ rfl; exact upB b1.out⟩
    replace HB : yal (Below w.heap.size w w110) := ⟨by subst hg_; repeat (with_reducible first | exact HB.out | apply yaf | apply yad | apply yae | refine yag ?_ (Aside0.out ‹_›))⟩
    clear hg_; replace b6 := yab (yak b6.out); replace b0 := yab (yak b0.out); replace b1 := yab (yak b1.out); replace HB := yab (yae HB.out)
    refine start_ (n := 43) (S := fun w' => w'.cell? ⟨b5, 0, none⟩ = some (.int .i64 ((yac l1_4 b2).f0)) ∧ w'.cell? ⟨b5, 1, none⟩ = some (.string ((yac l1_4 b2).f1)) ∧ w'.cell? ⟨b5, 2, none⟩ = some (.slice b8 ((yac l1_4 b2).f2).length b9) ∧ w'.cell? ⟨b5, 3, none⟩ = some (.int .i64 ((yac l1_4 b2).f3)) ∧ w'.cell? ⟨b7, 0, none⟩ = some (.int .i64 a1_0) ∧ w'.cell? ⟨b7, 1, none⟩ = some (.int .i64 a1_1) ∧ w'.cell? ⟨b7, 2, none⟩ = some (.int .i64 a1_2) ∧ w'.cell? ⟨b7, 3, none⟩ = some (.int .i64 a1_3) ∧ w'.cell? ⟨b7, 4, none⟩ = some (.slice (some ad103) l1_4.length c1_4) ∧ w'.cell? ⟨b7, 5, none⟩ = some (.slice A1_5 l1_5.length c1_5) ∧ w'.cell? ⟨b7, 6, none⟩ = some (.slice A1_6 l1_6.length c1_6) ∧ w'.cell? ⟨b7, 7, none⟩ = some (.slice A1_7 l1_7.length c1_7)) (ds := []) q108_0 (by kernel_rfl) rfl rfl ⟨(yaa b1.out 0).trans rfl, (yaa b1.out 1).trans rfl, (yaa b1.out 2).trans rfl, (yaa b1.out 3).trans rfl, (yaa b0.out 0).trans rfl, (yaa b0.out 1).trans rfl, (yaa b0.out 2).trans rfl, (yaa b0.out 3).trans rfl, (yaa b0.out 4).trans rfl, (yaa b0.out 5).trans rfl, (yaa b0.out 6).trans rfl, (yaa b0.out 7).trans rfl⟩ (fun hHeld => ?_); refine with_tabW spec_l8Jobs.tab5 spec_l8Jobs.bits5 (fun HT_ HW_ => ?_)
    generalize w110.drew = w111 at b6 b0 b1 HB hHeld ⊢
    refine pz_ 0 19 q108_1 HT_ (by kernel_rfl) ?_
    refine pz_ 2 21 q108_2 HT_ (by kernel_rfl) ?_
    refine tz_ 1 20 q108_3 HT_ HW_ (by kernel_rfl) hHeld ?_
    refine tz_ 3 22 q108_4 HT_ HW_ (by kernel_rfl) hHeld ?_
    refine pz_ 4 23 q108_5 HT_ (by kernel_rfl) ?_
    refine one_ (i := 5) (N := some 24) q108_6 rfl rfl (one_of HT_.out (by kernel_rfl)) (by decide) (fun K hK => ?_)
    refine goes_ Try.func63 (by kernel_rfl) rfl #[.int .i64 ((yac l1_4 b2).f0), .int .i64 0, .int .i64 (wrap64 (a1_3 - 1))] (by rfl) rfl rfl (by (try simp only [List.map_toArray, List.map_cons, List.map_nil]); first | done | rfl | (simp only [List.length_drop, List.length_take]; rfl)) ?_
    with_reducible refine (spec_l1In.calls ((yac l1_4 b2).f0) 0 (wrap64 (a1_3 - 1)) false _ A7.out).mono ?_
    rintro e w' ⟨rfl, ⟨nd, rfl⟩⟩; refine ⟨_, rfl, ?_⟩
    refine hK.out _ _ ⟨(yaa b1.out 0).trans rfl, (yaa b1.out 1).trans rfl, (yaa b1.out 2).trans rfl, (yaa b1.out 3).trans rfl, (yaa b0.out 0).trans rfl, (yaa b0.out 1).trans rfl, (yaa b0.out 2).trans rfl, (yaa b0.out 3).trans rfl, (yaa b0.out 4).trans rfl, (yaa b0.out 5).trans rfl, (yaa b0.out 6).trans rfl, (yaa b0.out 7).trans rfl⟩ (fun hHeld => ?_)
    clear hK K
    refine norm_ (a' := ?_) ?_ ?_
    rotate_left
    ·
     show Act.put _ (some 24) _ = _
     simp only [Act.put, List.setIfInBounds_toArray, List.set_cons_zero, List.set_cons_succ, i64_w, i32_w]
     rfl
    refine pz_ 6 25 q108_7 HT_ (by kernel_rfl) ?_
    refine pz_ 7 26 q108_8 HT_ (by kernel_rfl) ?_
    refine pu_ 8 27 q108_9 HT_ (by kernel_rfl) ?_
    refine pu_ 9 28 q108_10 HT_ (by kernel_rfl) ?_
    refine pu_ 10 29 q108_11 HT_ (by kernel_rfl) ?_
    refine pu_ 11 30 q108_12 HT_ (by kernel_rfl) ?_
    refine pu_ 12 31 q108_45 HT_ (by kernel_rfl) ?_
    refine pu_ 13 32 q108_46 HT_ (by kernel_rfl) ?_
    refine pu_ 14 33 q108_47 HT_ (by kernel_rfl) ?_
    refine pu_ 15 34 q108_48 HT_ (by kernel_rfl) ?_
    refine pu_ 16 35 q108_49 HT_ (by kernel_rfl) ?_
    refine pu_ 17 36 q108_50 HT_ (by kernel_rfl) ?_
    refine pu_ 18 37 q108_19 HT_ (by kernel_rfl) ?_
    refine pu_ 19 38 q108_20 HT_ (by kernel_rfl) ?_
    refine pu_ 20 39 q108_21 HT_ (by kernel_rfl) ?_
    refine pu_ 21 40 q108_22 HT_ (by kernel_rfl) ?_
    refine pz_ 22 41 q108_23 HT_ (by kernel_rfl) ?_
    refine pz_ 23 42 q108_24 HT_ (by kernel_rfl) ?_
    refine pu_ 24 43 q108_25 HT_ (by kernel_rfl) ?_
    refine pu_ 25 44 q108_26 HT_ (by kernel_rfl) ?_
    refine pu_ 26 45 q108_27 HT_ (by kernel_rfl) ?_
    refine pu_ 27 46 q108_28 HT_ (by kernel_rfl) ?_
    refine pz_ 28 47 q108_29 HT_ (by kernel_rfl) ?_
    refine pz_ 29 48 q108_30 HT_ (by kernel_rfl) ?_
    refine pu_ 30 49 q108_31 HT_ (by kernel_rfl) ?_
    refine pu_ 31 50 q108_32 HT_ (by kernel_rfl) ?_
    refine pu_ 32 51 q108_33 HT_ (by kernel_rfl) ?_
    refine pu_ 33 52 q108_34 HT_ (by kernel_rfl) ?_
    refine pz_ 34 53 q108_35 HT_ (by kernel_rfl) ?_
    refine pz_ 35 54 q108_36 HT_ (by kernel_rfl) ?_
    refine pu_ 36 55 q108_37 HT_ (by kernel_rfl) ?_
    refine pu_ 37 56 q108_38 HT_ (by kernel_rfl) ?_
    refine pu_ 38 57 q108_39 HT_ (by kernel_rfl) ?_
    refine pu_ 39 58 q108_40 HT_ (by kernel_rfl) ?_
    refine pu_ 40 59 q108_41 HT_ (by kernel_rfl) ?_
    refine pu_ 41 60 q108_42 HT_ (by kernel_rfl) ?_
    refine pz_ 42 61 q108_43 HT_ (by kernel_rfl) ?_
    refine done_ (done_of HT_.out (by kernel_rfl)) ?_
    try go_wp2
    go_ret
    exact ⟨by first | rfl | (simp [*, errW_none, errW_some] <;> rfl), by repeat (with_reducible first | exact HB.out | apply yaf | apply yad | apply yae | refine yag ?_ (Aside0.out ‹_›))⟩
   subst c8
   rw [if_pos rfl] at H
   by_cases c9 : b2 > 0
   rotate_left
   ·
    rw [if_neg c9] at H
    have J4 : decide (0 < b2) = false := decide_eq_false c9; clear c9; obtain ⟨J5, A63, H⟩ := bindA H; (try dsimp only at H)
    by_cases c64 : J5 = true
    rotate_left
    ·
     replace c64 := Bool.eq_false_iff.mpr c64
     subst c64
     rw [if_neg (show ¬ (false = true) by decide)] at H
     obtain rfl := Option.some.inj H; have P8 := e0.out; have P9 := d9.out; obtain ⟨H6, H7, H8, H9, I0, I1, I2, I3⟩ := cc8_ b0.out; obtain ⟨I4, I5, I6, I7, I8, I9, J0, J1⟩ := cf8_ b0.out; have p103 : 0 ≤ (b2 : Int) := of_decide_eq_true (by assumption); have q103 : b2 < (l1_4.length : Int) := of_decide_eq_true (by assumption); obtain ⟨ad103, b8, b9, e3, c0, c2, c3, c4, hl103_2, hi103_2⟩ := at_T124 HR1_4.out b2 p103 q103
     cases e3
     replace c0 := (upc_ HB.out c0 :); replace c2 := (upc_ HB.out c2 :); replace c3 := (upc_ HB.out c3 :); replace c4 := (upc_ HB.out c4 :); have HR103_2 := yab hi103_2; have HC103_2 := yab hl103_2; clear hi103_2 hl103_2; replace p103 := eq_true p103; replace q103 := eq_true q103
     try go_wp2_with (first | ((with_reducible refine gd_ 6 rfl ?_); refine bx_ 6 rfl #[.int .i64 0, .string (⟨#[]⟩ : ByteArray), .slice none 0 0, .int .i64 0] 124 ?_; intro b5 hg w98 hbox hb; have b1 := yab (hbox); have e2 := yab ((by rw [hg]; exact (below_size (by repeat (with_reducible first | exact HB.out | apply yaf | apply yad | apply yae | refine yag ?_ (Aside0.out ‹_›)))) : w.heap.size ≤ b5)); replace HB := yab (yam (by repeat (with_reducible first | exact HB.out | apply yaf | apply yad | apply yae | refine yag ?_ (Aside0.out ‹_›))) hb); have e6 := e2; have b3 := yab ((by rw [hg]; exact Nat.ne_of_lt (blk_lt (upB b6.out)) : e1 ≠ b5)); replace b6 := yab (yai (upB b6.out) hb); have c7 := yab b3.out.symm; have b4 := yab ((by rw [hg]; exact Nat.ne_of_lt (blk_lt (upB b0.out)) : b7 ≠ b5)); replace b0 := yab (yai (upB b0.out) hb); have d0 := yab b4.out.symm; clear hb hbox hg; have Q0 := c7.out; have Q1 := b3.out; have J8 := d0.out; have J9 := b4.out; obtain ⟨g2, g3, g4, g5⟩ := cc4_ b1.out; obtain ⟨g6, g7, g8⟩ := cf3_ b1.out; have g9 := blk_frozen b1.out 3))
     generalize hg_ : ((((w98.setCell ⟨b5, 0, none⟩ (.int .i64 ((yac l1_4 b2).f0))).setCell ⟨b5, 1, none⟩ (.string ((yac l1_4 b2).f1))).setCell ⟨b5, 2, none⟩ (.slice b8 ((yac l1_4 b2).f2).length b9)).setCell ⟨b5, 3, none⟩ (.int .i64 ((yac l1_4 b2).f3))) = w102
     replace b6 : yal (w102.heap[e1]? = some (.cells #[.slice A0_0 l0_0.length c0_0, .int .i64 a0_1, .int .i64 a0_2, .int .i64 a0_3, .int .i64 a0_4, .int .i64 a0_5, .int .i64 a0_6] 24 (0, 0))) := ⟨by subst hg_; (repeat refine oneB ?_); refine yah ?_ b3.out _; (repeat refine oneB ?_); refine yah ?_ b3.out _; (repeat refine oneB ?_); refine yah ?_ b3.out _; (repeat refine oneB ?_); refine yah ?_ b3.out _; exact upB b6.out⟩; replace b0 : yal (w102.heap[b7]? = some (.cells #[.int .i64 a1_0, .int .i64 a1_1, .int .i64 a1_2, .int .i64 a1_3, .slice (some ad103) l1_4.length c1_4, .slice A1_5 l1_5.length c1_5, .slice A1_6 l1_6.length c1_6, .slice A1_7 l1_7.length c1_7] 63 (0, 0))) := ⟨by subst hg_; (repeat refine oneB ?_); refine yah ?_ b4.out _; (repeat refine oneB ?_); refine yah ?_ b4.out _; (repeat refine oneB ?_); refine yah ?_ b4.out _; (repeat refine oneB ?_); refine yah ?_ b4.out _; exact upB b0.out⟩; replace b1 : yal (w102.heap[b5]? = some (.cells #[.int .i64 ((yac l1_4 b2).f0), .string ((yac l1_4 b2).f1), .slice b8 ((yac l1_4 b2).f2).length b9, .int .i64 ((yac l1_4 b2).f3)] 124 (0, 0))) := ⟨by subst hg_; (repeat refine oneB ?_); refine yaj (cs := #[.int .i64 ((yac l1_4 b2).f0), .string ((yac l1_4 b2).f1), .slice b8 ((yac l1_4 b2).f2).length b9, .int .i64 0]) ?_ 3 _ rfl; refine yaj (cs := #[.int .i64 ((yac l1_4 b2).f0), .string ((yac l1_4 b2).f1), .slice none 0 0, .int .i64 0]) ?_ 2 _ rfl; refine yaj (cs := #[.int .i64 ((yac l1_4 b2).f0), .string (⟨#[]⟩ : ByteArray), .slice none 0 0, .int .i64 0]) ?_ 1 _ rfl; refine yaj (cs := #[.int .i64 0, .string (⟨#[]⟩ : ByteArray), .slice none 0 0, .int .i64 0]) ?_ 0 _ rfl; exact upB b1.out⟩
     replace HB : yal (Below w.heap.size w w102) := ⟨by subst hg_; repeat (with_reducible first | exact HB.out | apply yaf | apply yad | apply yae | refine yag ?_ (Aside0.out ‹_›))⟩
     clear hg_; replace b6 := yab (yak b6.out); replace b0 := yab (yak b0.out); replace b1 := yab (yak b1.out); replace HB := yab (yae HB.out)
     refine start_ (n := 43) (S := fun w' => w'.cell? ⟨b5, 0, none⟩ = some (.int .i64 ((yac l1_4 b2).f0)) ∧ w'.cell? ⟨b5, 1, none⟩ = some (.string ((yac l1_4 b2).f1)) ∧ w'.cell? ⟨b5, 2, none⟩ = some (.slice b8 ((yac l1_4 b2).f2).length b9) ∧ w'.cell? ⟨b5, 3, none⟩ = some (.int .i64 ((yac l1_4 b2).f3)) ∧ w'.cell? ⟨b7, 0, none⟩ = some (.int .i64 a1_0) ∧ w'.cell? ⟨b7, 1, none⟩ = some (.int .i64 a1_1) ∧ w'.cell? ⟨b7, 2, none⟩ = some (.int .i64 a1_2) ∧ w'.cell? ⟨b7, 3, none⟩ = some (.int .i64 a1_3) ∧ w'.cell? ⟨b7, 4, none⟩ = some (.slice (some ad103) l1_4.length c1_4) ∧ w'.cell? ⟨b7, 5, none⟩ = some (.slice A1_5 l1_5.length c1_5) ∧ w'.cell? ⟨b7, 6, none⟩ = some (.slice A1_6 l1_6.length c1_6) ∧ w'.cell? ⟨b7, 7, none⟩ = some (.slice A1_7 l1_7.length c1_7)) (ds := []) q108_0 (by kernel_rfl) rfl rfl ⟨(yaa b1.out 0).trans rfl, (yaa b1.out 1).trans rfl, (yaa b1.out 2).trans rfl, (yaa b1.out 3).trans rfl, (yaa b0.out 0).trans rfl, (yaa b0.out 1).trans rfl, (yaa b0.out 2).trans rfl, (yaa b0.out 3).trans rfl, (yaa b0.out 4).trans rfl, (yaa b0.out 5).trans rfl, (yaa b0.out 6).trans rfl, (yaa b0.out 7).trans rfl⟩ (fun hHeld => ?_); refine with_tabW spec_l8Jobs.tab5 spec_l8Jobs.bits5 (fun HT_ HW_ => ?_)
     generalize w102.drew = w103 at b6 b0 b1 HB hHeld ⊢
     refine pz_ 0 19 q108_1 HT_ (by kernel_rfl) ?_
     refine pz_ 2 21 q108_2 HT_ (by kernel_rfl) ?_
     refine tz_ 1 20 q108_3 HT_ HW_ (by kernel_rfl) hHeld ?_
     refine tz_ 3 22 q108_4 HT_ HW_ (by kernel_rfl) hHeld ?_
     refine pz_ 4 23 q108_5 HT_ (by kernel_rfl) ?_
     refine one_ (i := 5) (N := some 24) q108_6 rfl rfl (one_of HT_.out (by kernel_rfl)) (by decide) (fun K hK => ?_)
     refine goes_ Try.func63 (by kernel_rfl) rfl #[.int .i64 ((yac l1_4 b2).f0), .int .i64 0, .int .i64 (wrap64 (a1_3 - 1))] (by rfl) rfl rfl (by (try simp only [List.map_toArray, List.map_cons, List.map_nil]); first | done | rfl | (simp only [List.length_drop, List.length_take]; rfl)) ?_
     with_reducible refine (spec_l1In.calls ((yac l1_4 b2).f0) 0 (wrap64 (a1_3 - 1)) true _ A7.out).mono ?_
     rintro e w' ⟨rfl, ⟨nd, rfl⟩⟩; refine ⟨_, rfl, ?_⟩
     refine hK.out _ _ ⟨(yaa b1.out 0).trans rfl, (yaa b1.out 1).trans rfl, (yaa b1.out 2).trans rfl, (yaa b1.out 3).trans rfl, (yaa b0.out 0).trans rfl, (yaa b0.out 1).trans rfl, (yaa b0.out 2).trans rfl, (yaa b0.out 3).trans rfl, (yaa b0.out 4).trans rfl, (yaa b0.out 5).trans rfl, (yaa b0.out 6).trans rfl, (yaa b0.out 7).trans rfl⟩ (fun hHeld => ?_)
     clear hK K
     refine norm_ (a' := ?_) ?_ ?_
     rotate_left
     ·
      show Act.put _ (some 24) _ = _
      simp only [Act.put, List.setIfInBounds_toArray, List.set_cons_zero, List.set_cons_succ, i64_w, i32_w]
      rfl
     refine pz_ 6 25 q108_7 HT_ (by kernel_rfl) ?_
     refine pz_ 7 26 q108_8 HT_ (by kernel_rfl) ?_
     refine pz_ 8 27 q108_9 HT_ (by kernel_rfl) ?_
     refine pz_ 9 28 q108_10 HT_ (by kernel_rfl) ?_
     refine pz_ 10 29 q108_11 HT_ (by kernel_rfl) ?_
     refine pu_ 11 30 q108_12 HT_ (by kernel_rfl) ?_
     refine pu_ 12 31 q108_45 HT_ (by kernel_rfl) ?_
     refine pu_ 13 32 q108_46 HT_ (by kernel_rfl) ?_
     refine pu_ 14 33 q108_47 HT_ (by kernel_rfl) ?_
     refine pu_ 15 34 q108_48 HT_ (by kernel_rfl) ?_
     refine pu_ 16 35 q108_49 HT_ (by kernel_rfl) ?_
     refine pu_ 17 36 q108_50 HT_ (by kernel_rfl) ?_
     refine pu_ 18 37 q108_19 HT_ (by kernel_rfl) ?_
     refine pu_ 19 38 q108_20 HT_ (by kernel_rfl) ?_
     refine pu_ 20 39 q108_21 HT_ (by kernel_rfl) ?_
     refine pz_ 21 40 q108_22 HT_ (by kernel_rfl) ?_
     refine pz_ 22 41 q108_23 HT_ (by kernel_rfl) ?_
     refine pz_ 23 42 q108_24 HT_ (by kernel_rfl) ?_
     refine pz_ 24 43 q108_25 HT_ (by kernel_rfl) ?_
     refine tz_ 25 44 q108_26 HT_ HW_ (by kernel_rfl) hHeld ?_
     refine one_ (i := 26) (N := some 45) q108_27 rfl rfl (one_of HT_.out (by kernel_rfl)) (by decide) (fun K hK => ?_)
     refine goes_ Try.func70 (by kernel_rfl) rfl #[.string ((yac l1_4 b2).f1)] (by rfl) rfl rfl (by (try simp only [List.map_toArray, List.map_cons, List.map_nil]); first | done | rfl | (simp only [List.length_drop, List.length_take]; rfl)) ?_
     with_reducible refine (spec_l7Path.calls k1 ((yac l1_4 b2).f1) false _ A63.out).mono ?_
     rintro e w' ⟨rfl, ⟨nd, rfl⟩⟩; refine ⟨_, rfl, ?_⟩
     refine hK.out _ _ ⟨(yaa b1.out 0).trans rfl, (yaa b1.out 1).trans rfl, (yaa b1.out 2).trans rfl, (yaa b1.out 3).trans rfl, (yaa b0.out 0).trans rfl, (yaa b0.out 1).trans rfl, (yaa b0.out 2).trans rfl, (yaa b0.out 3).trans rfl, (yaa b0.out 4).trans rfl, (yaa b0.out 5).trans rfl, (yaa b0.out 6).trans rfl, (yaa b0.out 7).trans rfl⟩ (fun hHeld => ?_)
     clear hK K
     refine norm_ (a' := ?_) ?_ ?_
     rotate_left
     ·
      show Act.put _ (some 45) _ = _
      simp only [Act.put, List.setIfInBounds_toArray, List.set_cons_zero, List.set_cons_succ, i64_w, i32_w]
      rfl
     refine pz_ 27 46 q108_28 HT_ (by kernel_rfl) ?_
     refine pz_ 28 47 q108_29 HT_ (by kernel_rfl) ?_
     refine pz_ 29 48 q108_30 HT_ (by kernel_rfl) ?_
     refine pu_ 30 49 q108_31 HT_ (by kernel_rfl) ?_
     refine pu_ 31 50 q108_32 HT_ (by kernel_rfl) ?_
     refine pu_ 32 51 q108_33 HT_ (by kernel_rfl) ?_
     refine pu_ 33 52 q108_34 HT_ (by kernel_rfl) ?_
     refine pz_ 34 53 q108_35 HT_ (by kernel_rfl) ?_
     refine pz_ 35 54 q108_36 HT_ (by kernel_rfl) ?_
     refine pu_ 36 55 q108_37 HT_ (by kernel_rfl) ?_
     refine pu_ 37 56 q108_38 HT_ (by kernel_rfl) ?_
     refine pu_ 38 57 q108_39 HT_ (by kernel_rfl) ?_
     refine pu_ 39 58 q108_40 HT_ (by kernel_rfl) ?_
     refine pu_ 40 59 q108_41 HT_ (by kernel_rfl) ?_
     refine pu_ 41 60 q108_42 HT_ (by kernel_rfl) ?_
     refine pz_ 42 61 q108_43 HT_ (by kernel_rfl) ?_
     refine done_ (done_of HT_.out (by kernel_rfl)) ?_
     try go_wp2
     go_ret
     exact ⟨by first | rfl | (simp [*, errW_none, errW_some] <;> rfl), by repeat (with_reducible first | exact HB.out | apply yaf | apply yad | apply yae | refine yag ?_ (Aside0.out ‹_›))⟩
    subst c64
    rw [if_pos rfl] at H
    obtain ⟨J6, A65, H⟩ := bindA H; (try dsimp only at H)
    by_cases c66 : J6 = true
    rotate_left
    ·
     replace c66 := Bool.eq_false_iff.mpr c66
     subst c66
     rw [if_neg (show ¬ (false = true) by decide)] at H
     obtain rfl := Option.some.inj H; have P2 := e0.out; have P3 := d9.out; obtain ⟨F2, F3, F4, F5, F6, F7, F8, F9⟩ := cc8_ b0.out; obtain ⟨G0, G1, G2, G3, G4, G5, G6, G7⟩ := cf8_ b0.out; have p103 : 0 ≤ (b2 : Int) := of_decide_eq_true (by assumption); have q103 : b2 < (l1_4.length : Int) := of_decide_eq_true (by assumption); obtain ⟨ad103, b8, b9, e3, c0, c2, c3, c4, hl103_2, hi103_2⟩ := at_T124 HR1_4.out b2 p103 q103
     cases e3
     replace c0 := (upc_ HB.out c0 :); replace c2 := (upc_ HB.out c2 :); replace c3 := (upc_ HB.out c3 :); replace c4 := (upc_ HB.out c4 :); have HR103_2 := yab hi103_2; have HC103_2 := yab hl103_2; clear hi103_2 hl103_2; replace p103 := eq_true p103; replace q103 := eq_true q103
     try go_wp2_with (first | ((with_reducible refine gd_ 6 rfl ?_); refine bx_ 6 rfl #[.int .i64 0, .string (⟨#[]⟩ : ByteArray), .slice none 0 0, .int .i64 0] 124 ?_; intro b5 hg w89 hbox hb; have b1 := yab (hbox); have e2 := yab ((by rw [hg]; exact (below_size (by repeat (with_reducible first | exact HB.out | apply yaf | apply yad | apply yae | refine yag ?_ (Aside0.out ‹_›)))) : w.heap.size ≤ b5)); replace HB := yab (yam (by repeat (with_reducible first | exact HB.out | apply yaf | apply yad | apply yae | refine yag ?_ (Aside0.out ‹_›))) hb); have e6 := e2; have b3 := yab ((by rw [hg]; exact Nat.ne_of_lt (blk_lt (upB b6.out)) : e1 ≠ b5)); replace b6 := yab (yai (upB b6.out) hb); have c7 := yab b3.out.symm; have b4 := yab ((by rw [hg]; exact Nat.ne_of_lt (blk_lt (upB b0.out)) : b7 ≠ b5)); replace b0 := yab (yai (upB b0.out) hb); have d0 := yab b4.out.symm; clear hb hbox hg; have P4 := c7.out; have P5 := b3.out; have P6 := d0.out; have P7 := b4.out; obtain ⟨G8, G9, H0, H1⟩ := cc4_ b1.out; obtain ⟨H2, H3, H4⟩ := cf3_ b1.out; have H5 := blk_frozen b1.out 3))
     generalize hg_ : ((((w89.setCell ⟨b5, 0, none⟩ (.int .i64 ((yac l1_4 b2).f0))).setCell ⟨b5, 1, none⟩ (.string ((yac l1_4 b2).f1))).setCell ⟨b5, 2, none⟩ (.slice b8 ((yac l1_4 b2).f2).length b9)).setCell ⟨b5, 3, none⟩ (.int .i64 ((yac l1_4 b2).f3))) = w93
     replace b6 : yal (w93.heap[e1]? = some (.cells #[.slice A0_0 l0_0.length c0_0, .int .i64 a0_1, .int .i64 a0_2, .int .i64 a0_3, .int .i64 a0_4, .int .i64 a0_5, .int .i64 a0_6] 24 (0, 0))) := ⟨by subst hg_; (repeat refine oneB ?_); refine yah ?_ b3.out _; (repeat refine oneB ?_); refine yah ?_ b3.out _; (repeat refine oneB ?_); refine yah ?_ b3.out _; (repeat refine oneB ?_); refine yah ?_ b3.out _; exact upB b6.out⟩; replace b0 : yal (w93.heap[b7]? = some (.cells #[.int .i64 a1_0, .int .i64 a1_1, .int .i64 a1_2, .int .i64 a1_3, .slice (some ad103) l1_4.length c1_4, .slice A1_5 l1_5.length c1_5, .slice A1_6 l1_6.length c1_6, .slice A1_7 l1_7.length c1_7] 63 (0, 0))) := ⟨by subst hg_; (repeat refine oneB ?_); refine yah ?_ b4.out _; (repeat refine oneB ?_); refine yah ?_ b4.out _; (repeat refine oneB ?_); refine yah ?_ b4.out _; (repeat refine oneB ?_); refine yah ?_ b4.out _; exact upB b0.out⟩; replace b1 : yal (w93.heap[b5]? = some (.cells #[.int .i64 ((yac l1_4 b2).f0), .string ((yac l1_4 b2).f1), .slice b8 ((yac l1_4 b2).f2).length b9, .int .i64 ((yac l1_4 b2).f3)] 124 (0, 0))) := ⟨by subst hg_; (repeat refine oneB ?_); refine yaj (cs := #[.int .i64 ((yac l1_4 b2).f0), .string ((yac l1_4 b2).f1), .slice b8 ((yac l1_4 b2).f2).length b9, .int .i64 0]) ?_ 3 _ rfl; refine yaj (cs := #[.int .i64 ((yac l1_4 b2).f0), .string ((yac l1_4 b2).f1), .slice none 0 0, .int .i64 0]) ?_ 2 _ rfl; refine yaj (cs := #[.int .i64 ((yac l1_4 b2).f0), .string (⟨#[]⟩ : ByteArray), .slice none 0 0, .int .i64 0]) ?_ 1 _ rfl; refine yaj (cs := #[.int .i64 0, .string (⟨#[]⟩ : ByteArray), .slice none 0 0, .int .i64 0]) ?_ 0 _ rfl; exact upB b1.out⟩
     replace HB : yal (Below w.heap.size w w93) := ⟨by subst hg_; repeat (with_reducible first | exact HB.out | apply yaf | apply yad | apply yae | refine yag ?_ (Aside0.out ‹_›))⟩
     clear hg_; replace b6 := yab (yak b6.out); replace b0 := yab (yak b0.out); replace b1 := yab (yak b1.out); replace HB := yab (yae HB.out)
     refine start_ (n := 43) (S := fun w' => w'.cell? ⟨b5, 0, none⟩ = some (.int .i64 ((yac l1_4 b2).f0)) ∧ w'.cell? ⟨b5, 1, none⟩ = some (.string ((yac l1_4 b2).f1)) ∧ w'.cell? ⟨b5, 2, none⟩ = some (.slice b8 ((yac l1_4 b2).f2).length b9) ∧ w'.cell? ⟨b5, 3, none⟩ = some (.int .i64 ((yac l1_4 b2).f3)) ∧ w'.cell? ⟨b7, 0, none⟩ = some (.int .i64 a1_0) ∧ w'.cell? ⟨b7, 1, none⟩ = some (.int .i64 a1_1) ∧ w'.cell? ⟨b7, 2, none⟩ = some (.int .i64 a1_2) ∧ w'.cell? ⟨b7, 3, none⟩ = some (.int .i64 a1_3) ∧ w'.cell? ⟨b7, 4, none⟩ = some (.slice (some ad103) l1_4.length c1_4) ∧ w'.cell? ⟨b7, 5, none⟩ = some (.slice A1_5 l1_5.length c1_5) ∧ w'.cell? ⟨b7, 6, none⟩ = some (.slice A1_6 l1_6.length c1_6) ∧ w'.cell? ⟨b7, 7, none⟩ = some (.slice A1_7 l1_7.length c1_7)) (ds := []) q108_0 (by kernel_rfl) rfl rfl ⟨(yaa b1.out 0).trans rfl, (yaa b1.out 1).trans rfl, (yaa b1.out 2).trans rfl, (yaa b1.out 3).trans rfl, (yaa b0.out 0).trans rfl, (yaa b0.out 1).trans rfl, (yaa b0.out 2).trans rfl, (yaa b0.out 3).trans rfl, (yaa b0.out 4).trans rfl, (yaa b0.out 5).trans rfl, (yaa b0.out 6).trans rfl, (yaa b0.out 7).trans rfl⟩ (fun hHeld => ?_); refine with_tabW spec_l8Jobs.tab5 spec_l8Jobs.bits5 (fun HT_ HW_ => ?_)
     generalize w93.drew = w94 at b6 b0 b1 HB hHeld ⊢
     refine pz_ 0 19 q108_1 HT_ (by kernel_rfl) ?_
     refine pz_ 2 21 q108_2 HT_ (by kernel_rfl) ?_
     refine tz_ 1 20 q108_3 HT_ HW_ (by kernel_rfl) hHeld ?_
     refine tz_ 3 22 q108_4 HT_ HW_ (by kernel_rfl) hHeld ?_
     refine pz_ 4 23 q108_5 HT_ (by kernel_rfl) ?_
     refine one_ (i := 5) (N := some 24) q108_6 rfl rfl (one_of HT_.out (by kernel_rfl)) (by decide) (fun K hK => ?_)
     refine goes_ Try.func63 (by kernel_rfl) rfl #[.int .i64 ((yac l1_4 b2).f0), .int .i64 0, .int .i64 (wrap64 (a1_3 - 1))] (by rfl) rfl rfl (by (try simp only [List.map_toArray, List.map_cons, List.map_nil]); first | done | rfl | (simp only [List.length_drop, List.length_take]; rfl)) ?_
     with_reducible refine (spec_l1In.calls ((yac l1_4 b2).f0) 0 (wrap64 (a1_3 - 1)) true _ A7.out).mono ?_
     rintro e w' ⟨rfl, ⟨nd, rfl⟩⟩; refine ⟨_, rfl, ?_⟩
     refine hK.out _ _ ⟨(yaa b1.out 0).trans rfl, (yaa b1.out 1).trans rfl, (yaa b1.out 2).trans rfl, (yaa b1.out 3).trans rfl, (yaa b0.out 0).trans rfl, (yaa b0.out 1).trans rfl, (yaa b0.out 2).trans rfl, (yaa b0.out 3).trans rfl, (yaa b0.out 4).trans rfl, (yaa b0.out 5).trans rfl, (yaa b0.out 6).trans rfl, (yaa b0.out 7).trans rfl⟩ (fun hHeld => ?_)
     clear hK K
     refine norm_ (a' := ?_) ?_ ?_
     rotate_left
     ·
      show Act.put _ (some 24) _ = _
      simp only [Act.put, List.setIfInBounds_toArray, List.set_cons_zero, List.set_cons_succ, i64_w, i32_w]
      rfl
     refine pz_ 6 25 q108_7 HT_ (by kernel_rfl) ?_
     refine pz_ 7 26 q108_8 HT_ (by kernel_rfl) ?_
     refine pz_ 8 27 q108_9 HT_ (by kernel_rfl) ?_
     refine pz_ 9 28 q108_10 HT_ (by kernel_rfl) ?_
     refine pz_ 10 29 q108_11 HT_ (by kernel_rfl) ?_
     refine pu_ 11 30 q108_12 HT_ (by kernel_rfl) ?_
     refine pu_ 12 31 q108_45 HT_ (by kernel_rfl) ?_
     refine pu_ 13 32 q108_46 HT_ (by kernel_rfl) ?_
     refine pu_ 14 33 q108_47 HT_ (by kernel_rfl) ?_
     refine pu_ 15 34 q108_48 HT_ (by kernel_rfl) ?_
     refine pu_ 16 35 q108_49 HT_ (by kernel_rfl) ?_
     refine pu_ 17 36 q108_50 HT_ (by kernel_rfl) ?_
     refine pu_ 18 37 q108_19 HT_ (by kernel_rfl) ?_
     refine pu_ 19 38 q108_20 HT_ (by kernel_rfl) ?_
     refine pu_ 20 39 q108_21 HT_ (by kernel_rfl) ?_
     refine pz_ 21 40 q108_22 HT_ (by kernel_rfl) ?_
     refine pz_ 22 41 q108_23 HT_ (by kernel_rfl) ?_
     refine pz_ 23 42 q108_24 HT_ (by kernel_rfl) ?_
     refine pz_ 24 43 q108_25 HT_ (by kernel_rfl) ?_
     refine tz_ 25 44 q108_26 HT_ HW_ (by kernel_rfl) hHeld ?_
     refine one_ (i := 26) (N := some 45) q108_27 rfl rfl (one_of HT_.out (by kernel_rfl)) (by decide) (fun K hK => ?_)
     refine goes_ Try.func70 (by kernel_rfl) rfl #[.string ((yac l1_4 b2).f1)] (by rfl) rfl rfl (by (try simp only [List.map_toArray, List.map_cons, List.map_nil]); first | done | rfl | (simp only [List.length_drop, List.length_take]; rfl)) ?_
     with_reducible refine (spec_l7Path.calls k1 ((yac l1_4 b2).f1) true _ A63.out).mono ?_
     rintro e w' ⟨rfl, ⟨nd, rfl⟩⟩; refine ⟨_, rfl, ?_⟩
     refine hK.out _ _ ⟨(yaa b1.out 0).trans rfl, (yaa b1.out 1).trans rfl, (yaa b1.out 2).trans rfl, (yaa b1.out 3).trans rfl, (yaa b0.out 0).trans rfl, (yaa b0.out 1).trans rfl, (yaa b0.out 2).trans rfl, (yaa b0.out 3).trans rfl, (yaa b0.out 4).trans rfl, (yaa b0.out 5).trans rfl, (yaa b0.out 6).trans rfl, (yaa b0.out 7).trans rfl⟩ (fun hHeld => ?_)
     clear hK K
     refine norm_ (a' := ?_) ?_ ?_
     rotate_left
     ·
      show Act.put _ (some 45) _ = _
      simp only [Act.put, List.setIfInBounds_toArray, List.set_cons_zero, List.set_cons_succ, i64_w, i32_w]
      rfl
     refine pz_ 27 46 q108_28 HT_ (by kernel_rfl) ?_
     refine pz_ 28 47 q108_29 HT_ (by kernel_rfl) ?_
     refine pz_ 29 48 q108_30 HT_ (by kernel_rfl) ?_
     refine pz_ 30 49 q108_31 HT_ (by kernel_rfl) ?_
     refine tz_ 31 50 q108_32 HT_ HW_ (by kernel_rfl) hHeld ?_
     refine one_ (i := 32) (N := some 51) q108_33 rfl rfl (one_of HT_.out (by kernel_rfl)) (by decide) (fun K hK => ?_)
     refine goes_ Try.func69 (by kernel_rfl) rfl #[.slice b8 ((yac l1_4 b2).f2).length b9] (by rfl) rfl rfl (by (try simp only [List.map_toArray, List.map_cons, List.map_nil]); first | done | rfl | (simp only [List.length_drop, List.length_take]; rfl)) ?_
     with_reducible refine (spec_l6All.calls k1 _ _ ((yac l1_4 b2).f2) false _ ?side1 ?side2 A65.out).mono ?_
     (case side1 => repeat (first | exact (Kd.C_below HR103_2.out (by repeat (with_reducible first | exact HB.out | apply yaf | apply yad | apply yae | refine yag ?_ (Aside0.out ‹_›)))) | (with_reducible refine Kd.C_alloc ?_ _) | (with_reducible refine Kd.C_drewN ?_ _) | (with_reducible refine Kd.C_drew ?_)))
     (case side2 => exact HC103_2.out)
     rintro e w95 ⟨rfl, hb⟩; refine ⟨_, rfl, ?_⟩; have n0_ := yab (yai (upB b6.out) hb); have n1_ := yab (yai (upB b0.out) hb); have n2_ := yab (yai (upB b1.out) hb)
     have n3_ := yab (yam (by repeat (with_reducible first | exact HB.out | apply yaf | apply yad | apply yae | refine yag ?_ (Aside0.out ‹_›))) hb)
     clear b6; clear b0; clear b1; clear HB; have b6 := n0_; have b0 := n1_; have b1 := n2_; have HB := n3_; clear n0_ n1_ n2_ n3_; (try clear hb); (try clear hb2); (try clear hk); (try clear hi)
     refine hK.out _ _ ⟨(yaa b1.out 0).trans rfl, (yaa b1.out 1).trans rfl, (yaa b1.out 2).trans rfl, (yaa b1.out 3).trans rfl, (yaa b0.out 0).trans rfl, (yaa b0.out 1).trans rfl, (yaa b0.out 2).trans rfl, (yaa b0.out 3).trans rfl, (yaa b0.out 4).trans rfl, (yaa b0.out 5).trans rfl, (yaa b0.out 6).trans rfl, (yaa b0.out 7).trans rfl⟩ (fun hHeld => ?_)
     clear hK K
     refine norm_ (a' := ?_) ?_ ?_
     rotate_left
     ·
      show Act.put _ (some 51) _ = _
      simp only [Act.put, List.setIfInBounds_toArray, List.set_cons_zero, List.set_cons_succ, i64_w, i32_w]
      rfl
     refine pz_ 33 52 q108_34 HT_ (by kernel_rfl) ?_
     refine pz_ 34 53 q108_35 HT_ (by kernel_rfl) ?_
     refine pz_ 35 54 q108_36 HT_ (by kernel_rfl) ?_
     refine pu_ 36 55 q108_37 HT_ (by kernel_rfl) ?_
     refine pu_ 37 56 q108_38 HT_ (by kernel_rfl) ?_
     refine pu_ 38 57 q108_39 HT_ (by kernel_rfl) ?_
     refine pu_ 39 58 q108_40 HT_ (by kernel_rfl) ?_
     refine pu_ 40 59 q108_41 HT_ (by kernel_rfl) ?_
     refine pu_ 41 60 q108_42 HT_ (by kernel_rfl) ?_
     refine pz_ 42 61 q108_43 HT_ (by kernel_rfl) ?_
     refine done_ (done_of HT_.out (by kernel_rfl)) ?_
     try go_wp2
     go_ret
     exact ⟨by first | rfl | (simp [*, errW_none, errW_some] <;> rfl), by repeat (with_reducible first | exact HB.out | apply yaf | apply yad | apply yae | refine yag ?_ (Aside0.out ‹_›))⟩
    subst c66
    rw [if_pos rfl] at H
    obtain ⟨J7, A67, H⟩ := bindA H; (try dsimp only at H)
    by_cases c68 : J7 = true
    ·
     subst c68
     rw [if_pos rfl] at H
     have H' := yab H; clear H; have O0 := e0.out; have O1 := d9.out; obtain ⟨A2, A3, A4, A5, A6, A8, A9, B0⟩ := cc8_ b0.out; obtain ⟨B1, B2, B3, B4, B6, B7, B8, B9⟩ := cf8_ b0.out; have p103 : 0 ≤ (b2 : Int) := of_decide_eq_true (by assumption); have q103 : b2 < (l1_4.length : Int) := of_decide_eq_true (by assumption); obtain ⟨ad103, b8, b9, e3, c0, c2, c3, c4, hl103_2, hi103_2⟩ := at_T124 HR1_4.out b2 p103 q103
     cases e3
     replace c0 := (upc_ HB.out c0 :); replace c2 := (upc_ HB.out c2 :); replace c3 := (upc_ HB.out c3 :); replace c4 := (upc_ HB.out c4 :); have HR103_2 := yab hi103_2; have HC103_2 := yab hl103_2; clear hi103_2 hl103_2; replace p103 := eq_true p103; replace q103 := eq_true q103
     try go_wp2_with (first | ((with_reducible refine gd_ 6 rfl ?_); refine bx_ 6 rfl #[.int .i64 0, .string (⟨#[]⟩ : ByteArray), .slice none 0 0, .int .i64 0] 124 ?_; intro b5 hg w71 hbox hb; have b1 := yab (hbox); have e2 := yab ((by rw [hg]; exact (below_size (by repeat (with_reducible first | exact HB.out | apply yaf | apply yad | apply yae | refine yag ?_ (Aside0.out ‹_›)))) : w.heap.size ≤ b5)); replace HB := yab (yam (by repeat (with_reducible first | exact HB.out | apply yaf | apply yad | apply yae | refine yag ?_ (Aside0.out ‹_›))) hb); have e6 := e2; have b3 := yab ((by rw [hg]; exact Nat.ne_of_lt (blk_lt (upB b6.out)) : e1 ≠ b5)); replace b6 := yab (yai (upB b6.out) hb); have c7 := yab b3.out.symm; have b4 := yab ((by rw [hg]; exact Nat.ne_of_lt (blk_lt (upB b0.out)) : b7 ≠ b5)); replace b0 := yab (yai (upB b0.out) hb); have d0 := yab b4.out.symm; clear hb hbox hg; have O2 := c7.out; have O3 := b3.out; have O4 := d0.out; have O5 := b4.out; obtain ⟨C0, C1, C2, C3⟩ := cc4_ b1.out; obtain ⟨C4, C5, C6⟩ := cf3_ b1.out; have C7 := blk_frozen b1.out 3))
     generalize hg_ : ((((w71.setCell ⟨b5, 0, none⟩ (.int .i64 ((yac l1_4 b2).f0))).setCell ⟨b5, 1, none⟩ (.string ((yac l1_4 b2).f1))).setCell ⟨b5, 2, none⟩ (.slice b8 ((yac l1_4 b2).f2).length b9)).setCell ⟨b5, 3, none⟩ (.int .i64 ((yac l1_4 b2).f3))) = w75
     replace b6 : yal (w75.heap[e1]? = some (.cells #[.slice A0_0 l0_0.length c0_0, .int .i64 a0_1, .int .i64 a0_2, .int .i64 a0_3, .int .i64 a0_4, .int .i64 a0_5, .int .i64 a0_6] 24 (0, 0))) := ⟨by subst hg_; (repeat refine oneB ?_); refine yah ?_ b3.out _; (repeat refine oneB ?_); refine yah ?_ b3.out _; (repeat refine oneB ?_); refine yah ?_ b3.out _; (repeat refine oneB ?_); refine yah ?_ b3.out _; exact upB b6.out⟩; replace b0 : yal (w75.heap[b7]? = some (.cells #[.int .i64 a1_0, .int .i64 a1_1, .int .i64 a1_2, .int .i64 a1_3, .slice (some ad103) l1_4.length c1_4, .slice A1_5 l1_5.length c1_5, .slice A1_6 l1_6.length c1_6, .slice A1_7 l1_7.length c1_7] 63 (0, 0))) := ⟨by subst hg_; (repeat refine oneB ?_); refine yah ?_ b4.out _; (repeat refine oneB ?_); refine yah ?_ b4.out _; (repeat refine oneB ?_); refine yah ?_ b4.out _; (repeat refine oneB ?_); refine yah ?_ b4.out _; exact upB b0.out⟩; replace b1 : yal (w75.heap[b5]? = some (.cells #[.int .i64 ((yac l1_4 b2).f0), .string ((yac l1_4 b2).f1), .slice b8 ((yac l1_4 b2).f2).length b9, .int .i64 ((yac l1_4 b2).f3)] 124 (0, 0))) := ⟨by subst hg_; (repeat refine oneB ?_); refine yaj (cs := #[.int .i64 ((yac l1_4 b2).f0), .string ((yac l1_4 b2).f1), .slice b8 ((yac l1_4 b2).f2).length b9, .int .i64 0]) ?_ 3 _ rfl; refine yaj (cs := #[.int .i64 ((yac l1_4 b2).f0), .string ((yac l1_4 b2).f1), .slice none 0 0, .int .i64 0]) ?_ 2 _ rfl; refine yaj (cs := #[.int .i64 ((yac l1_4 b2).f0), .string (⟨#[]⟩ : ByteArray), .slice none 0 0, .int .i64 0]) ?_ 1 _ rfl; refine yaj (cs := #[.int .i64 0, .string (⟨#[]⟩ : ByteArray), .slice none 0 0, .int .i64 0]) ?_ 0 _ rfl; exact upB b1.out⟩
     replace HB : yal (Below w.heap.size w w75) := ⟨by subst hg_; repeat (with_reducible first | exact HB.out | apply yaf | apply yad | apply yae | refine yag ?_ (Aside0.out ‹_›))⟩
     clear hg_; replace b6 := yab (yak b6.out); replace b0 := yab (yak b0.out); replace b1 := yab (yak b1.out); replace HB := yab (yae HB.out)
     refine start_ (n := 43) (S := fun w' => w'.cell? ⟨b5, 0, none⟩ = some (.int .i64 ((yac l1_4 b2).f0)) ∧ w'.cell? ⟨b5, 1, none⟩ = some (.string ((yac l1_4 b2).f1)) ∧ w'.cell? ⟨b5, 2, none⟩ = some (.slice b8 ((yac l1_4 b2).f2).length b9) ∧ w'.cell? ⟨b5, 3, none⟩ = some (.int .i64 ((yac l1_4 b2).f3)) ∧ w'.cell? ⟨b7, 0, none⟩ = some (.int .i64 a1_0) ∧ w'.cell? ⟨b7, 1, none⟩ = some (.int .i64 a1_1) ∧ w'.cell? ⟨b7, 2, none⟩ = some (.int .i64 a1_2) ∧ w'.cell? ⟨b7, 3, none⟩ = some (.int .i64 a1_3) ∧ w'.cell? ⟨b7, 4, none⟩ = some (.slice (some ad103) l1_4.length c1_4) ∧ w'.cell? ⟨b7, 5, none⟩ = some (.slice A1_5 l1_5.length c1_5) ∧ w'.cell? ⟨b7, 6, none⟩ = some (.slice A1_6 l1_6.length c1_6) ∧ w'.cell? ⟨b7, 7, none⟩ = some (.slice A1_7 l1_7.length c1_7)) (ds := []) q108_0 (by kernel_rfl) rfl rfl ⟨(yaa b1.out 0).trans rfl, (yaa b1.out 1).trans rfl, (yaa b1.out 2).trans rfl, (yaa b1.out 3).trans rfl, (yaa b0.out 0).trans rfl, (yaa b0.out 1).trans rfl, (yaa b0.out 2).trans rfl, (yaa b0.out 3).trans rfl, (yaa b0.out 4).trans rfl, (yaa b0.out 5).trans rfl, (yaa b0.out 6).trans rfl, (yaa b0.out 7).trans rfl⟩ (fun hHeld => ?_); refine with_tabW spec_l8Jobs.tab5 spec_l8Jobs.bits5 (fun HT_ HW_ => ?_)
     generalize w75.drew = w76 at b6 b0 b1 HB hHeld ⊢
     refine pz_ 0 19 q108_1 HT_ (by kernel_rfl) ?_
     refine pz_ 2 21 q108_2 HT_ (by kernel_rfl) ?_
     refine tz_ 1 20 q108_3 HT_ HW_ (by kernel_rfl) hHeld ?_
     refine tz_ 3 22 q108_4 HT_ HW_ (by kernel_rfl) hHeld ?_
     refine pz_ 4 23 q108_5 HT_ (by kernel_rfl) ?_
     refine one_ (i := 5) (N := some 24) q108_6 rfl rfl (one_of HT_.out (by kernel_rfl)) (by decide) (fun K hK => ?_)
     refine goes_ Try.func63 (by kernel_rfl) rfl #[.int .i64 ((yac l1_4 b2).f0), .int .i64 0, .int .i64 (wrap64 (a1_3 - 1))] (by rfl) rfl rfl (by (try simp only [List.map_toArray, List.map_cons, List.map_nil]); first | done | rfl | (simp only [List.length_drop, List.length_take]; rfl)) ?_
     with_reducible refine (spec_l1In.calls ((yac l1_4 b2).f0) 0 (wrap64 (a1_3 - 1)) true _ A7.out).mono ?_
     rintro e w' ⟨rfl, ⟨nd, rfl⟩⟩; refine ⟨_, rfl, ?_⟩
     refine hK.out _ _ ⟨(yaa b1.out 0).trans rfl, (yaa b1.out 1).trans rfl, (yaa b1.out 2).trans rfl, (yaa b1.out 3).trans rfl, (yaa b0.out 0).trans rfl, (yaa b0.out 1).trans rfl, (yaa b0.out 2).trans rfl, (yaa b0.out 3).trans rfl, (yaa b0.out 4).trans rfl, (yaa b0.out 5).trans rfl, (yaa b0.out 6).trans rfl, (yaa b0.out 7).trans rfl⟩ (fun hHeld => ?_)
     clear hK K
     refine norm_ (a' := ?_) ?_ ?_
     rotate_left
     ·
      show Act.put _ (some 24) _ = _
      simp only [Act.put, List.setIfInBounds_toArray, List.set_cons_zero, List.set_cons_succ, i64_w, i32_w]
      rfl
     refine pz_ 6 25 q108_7 HT_ (by kernel_rfl) ?_
     refine pz_ 7 26 q108_8 HT_ (by kernel_rfl) ?_
     refine pz_ 8 27 q108_9 HT_ (by kernel_rfl) ?_
     refine pz_ 9 28 q108_10 HT_ (by kernel_rfl) ?_
     refine pz_ 10 29 q108_11 HT_ (by kernel_rfl) ?_
     refine pu_ 11 30 q108_12 HT_ (by kernel_rfl) ?_
     refine pu_ 12 31 q108_45 HT_ (by kernel_rfl) ?_
     refine pu_ 13 32 q108_46 HT_ (by kernel_rfl) ?_
     refine pu_ 14 33 q108_47 HT_ (by kernel_rfl) ?_
     refine pu_ 15 34 q108_48 HT_ (by kernel_rfl) ?_
     refine pu_ 16 35 q108_49 HT_ (by kernel_rfl) ?_
     refine pu_ 17 36 q108_50 HT_ (by kernel_rfl) ?_
     refine pu_ 18 37 q108_19 HT_ (by kernel_rfl) ?_
     refine pu_ 19 38 q108_20 HT_ (by kernel_rfl) ?_
     refine pu_ 20 39 q108_21 HT_ (by kernel_rfl) ?_
     refine pz_ 21 40 q108_22 HT_ (by kernel_rfl) ?_
     refine pz_ 22 41 q108_23 HT_ (by kernel_rfl) ?_
     refine pz_ 23 42 q108_24 HT_ (by kernel_rfl) ?_
     refine pz_ 24 43 q108_25 HT_ (by kernel_rfl) ?_
     refine tz_ 25 44 q108_26 HT_ HW_ (by kernel_rfl) hHeld ?_
     refine one_ (i := 26) (N := some 45) q108_27 rfl rfl (one_of HT_.out (by kernel_rfl)) (by decide) (fun K hK => ?_)
     refine goes_ Try.func70 (by kernel_rfl) rfl #[.string ((yac l1_4 b2).f1)] (by rfl) rfl rfl (by (try simp only [List.map_toArray, List.map_cons, List.map_nil]); first | done | rfl | (simp only [List.length_drop, List.length_take]; rfl)) ?_
     with_reducible refine (spec_l7Path.calls k1 ((yac l1_4 b2).f1) true _ A63.out).mono ?_
     rintro e w' ⟨rfl, ⟨nd, rfl⟩⟩; refine ⟨_, rfl, ?_⟩
     refine hK.out _ _ ⟨(yaa b1.out 0).trans rfl, (yaa b1.out 1).trans rfl, (yaa b1.out 2).trans rfl, (yaa b1.out 3).trans rfl, (yaa b0.out 0).trans rfl, (yaa b0.out 1).trans rfl, (yaa b0.out 2).trans rfl, (yaa b0.out 3).trans rfl, (yaa b0.out 4).trans rfl, (yaa b0.out 5).trans rfl, (yaa b0.out 6).trans rfl, (yaa b0.out 7).trans rfl⟩ (fun hHeld => ?_)
     clear hK K
     refine norm_ (a' := ?_) ?_ ?_
     rotate_left
     ·
      show Act.put _ (some 45) _ = _
      simp only [Act.put, List.setIfInBounds_toArray, List.set_cons_zero, List.set_cons_succ, i64_w, i32_w]
      rfl
     refine pz_ 27 46 q108_28 HT_ (by kernel_rfl) ?_
     refine pz_ 28 47 q108_29 HT_ (by kernel_rfl) ?_
     refine pz_ 29 48 q108_30 HT_ (by kernel_rfl) ?_
     refine pz_ 30 49 q108_31 HT_ (by kernel_rfl) ?_
     refine tz_ 31 50 q108_32 HT_ HW_ (by kernel_rfl) hHeld ?_
     refine one_ (i := 32) (N := some 51) q108_33 rfl rfl (one_of HT_.out (by kernel_rfl)) (by decide) (fun K hK => ?_)
     refine goes_ Try.func69 (by kernel_rfl) rfl #[.slice b8 ((yac l1_4 b2).f2).length b9] (by rfl) rfl rfl (by (try simp only [List.map_toArray, List.map_cons, List.map_nil]); first | done | rfl | (simp only [List.length_drop, List.length_take]; rfl)) ?_
     with_reducible refine (spec_l6All.calls k1 _ _ ((yac l1_4 b2).f2) true _ ?side1 ?side2 A65.out).mono ?_
     (case side1 => repeat (first | exact (Kd.C_below HR103_2.out (by repeat (with_reducible first | exact HB.out | apply yaf | apply yad | apply yae | refine yag ?_ (Aside0.out ‹_›)))) | (with_reducible refine Kd.C_alloc ?_ _) | (with_reducible refine Kd.C_drewN ?_ _) | (with_reducible refine Kd.C_drew ?_)))
     (case side2 => exact HC103_2.out)
     rintro e w77 ⟨rfl, hb⟩; refine ⟨_, rfl, ?_⟩; have n0_ := yab (yai (upB b6.out) hb); have n1_ := yab (yai (upB b0.out) hb); have n2_ := yab (yai (upB b1.out) hb)
     have n3_ := yab (yam (by repeat (with_reducible first | exact HB.out | apply yaf | apply yad | apply yae | refine yag ?_ (Aside0.out ‹_›))) hb)
     clear b6; clear b0; clear b1; clear HB; have b6 := n0_; have b0 := n1_; have b1 := n2_; have HB := n3_; clear n0_ n1_ n2_ n3_; (try clear hb); (try clear hb2); (try clear hk); (try clear hi)
     refine hK.out _ _ ⟨(yaa b1.out 0).trans rfl, (yaa b1.out 1).trans rfl, (yaa b1.out 2).trans rfl, (yaa b1.out 3).trans rfl, (yaa b0.out 0).trans rfl, (yaa b0.out 1).trans rfl, (yaa b0.out 2).trans rfl, (yaa b0.out 3).trans rfl, (yaa b0.out 4).trans rfl, (yaa b0.out 5).trans rfl, (yaa b0.out 6).trans rfl, (yaa b0.out 7).trans rfl⟩ (fun hHeld => ?_)
     clear hK K
     refine norm_ (a' := ?_) ?_ ?_
     rotate_left
     ·
      show Act.put _ (some 51) _ = _
      simp only [Act.put, List.setIfInBounds_toArray, List.set_cons_zero, List.set_cons_succ, i64_w, i32_w]
      rfl
     refine pz_ 33 52 q108_34 HT_ (by kernel_rfl) ?_
     refine pz_ 34 53 q108_35 HT_ (by kernel_rfl) ?_
     refine pz_ 35 54 q108_36 HT_ (by kernel_rfl) ?_
     refine pz_ 36 55 q108_37 HT_ (by kernel_rfl) ?_
     refine pz_ 38 57 q108_44 HT_ (by kernel_rfl) ?_
     refine tz_ 37 56 q108_39 HT_ HW_ (by kernel_rfl) hHeld ?_
     refine tz_ 39 58 q108_40 HT_ HW_ (by kernel_rfl) hHeld ?_
     refine one_ (i := 40) (N := some 59) q108_41 rfl rfl (one_of HT_.out (by kernel_rfl)) (by decide) (fun K hK => ?_)
     refine goes_ Try.func63 (by kernel_rfl) rfl #[.int .i64 ((yac l1_4 b2).f3), .int .i64 0, .int .i64 a1_0] (by rfl) rfl rfl (by (try simp only [List.map_toArray, List.map_cons, List.map_nil]); first | done | rfl | (simp only [List.length_drop, List.length_take]; rfl)) ?_
     with_reducible refine (spec_l1In.calls ((yac l1_4 b2).f3) 0 a1_0 true _ A67.out).mono ?_
     rintro e w' ⟨rfl, ⟨nd, rfl⟩⟩; refine ⟨_, rfl, ?_⟩
     refine hK.out _ _ ⟨(yaa b1.out 0).trans rfl, (yaa b1.out 1).trans rfl, (yaa b1.out 2).trans rfl, (yaa b1.out 3).trans rfl, (yaa b0.out 0).trans rfl, (yaa b0.out 1).trans rfl, (yaa b0.out 2).trans rfl, (yaa b0.out 3).trans rfl, (yaa b0.out 4).trans rfl, (yaa b0.out 5).trans rfl, (yaa b0.out 6).trans rfl, (yaa b0.out 7).trans rfl⟩ (fun hHeld => ?_)
     clear hK K
     refine norm_ (a' := ?_) ?_ ?_
     rotate_left
     ·
      show Act.put _ (some 59) _ = _
      simp only [Act.put, List.setIfInBounds_toArray, List.set_cons_zero, List.set_cons_succ, i64_w, i32_w]
      rfl
     refine pz_ 41 60 q108_42 HT_ (by kernel_rfl) ?_
     refine pz_ 42 61 q108_43 HT_ (by kernel_rfl) ?_
     refine done_ (done_of HT_.out (by kernel_rfl)) ?_
     try go_wp2
     go_roundg k1
     case measure => have := HK1.out; omega
     case rel => exact ⟨(wrap64 (b2 + 1)), (by first | rfl | (simp; done) | (simp [*]; done)), H', ⟨by have := HK1.out; omega⟩, ⟨by exact upB b6.out⟩, ⟨by exact upB b0.out⟩, ⟨by repeat (with_reducible first | exact HB.out | apply yaf | apply yad | apply yae | refine yag ?_ (Aside0.out ‹_›))⟩⟩
    replace c68 := Bool.eq_false_iff.mpr c68
    subst c68
    rw [if_neg (show ¬ (false = true) by decide)] at H
    obtain rfl := Option.some.inj H; have O6 := e0.out; have O7 := d9.out; obtain ⟨C8, C9, D0, D1, D2, D3, D4, D5⟩ := cc8_ b0.out; obtain ⟨D6, D7, D8, D9, E0, E1, E2, E3⟩ := cf8_ b0.out; have p103 : 0 ≤ (b2 : Int) := of_decide_eq_true (by assumption); have q103 : b2 < (l1_4.length : Int) := of_decide_eq_true (by assumption); obtain ⟨ad103, b8, b9, e3, c0, c2, c3, c4, hl103_2, hi103_2⟩ := at_T124 HR1_4.out b2 p103 q103
    cases e3
    replace c0 := (upc_ HB.out c0 :); replace c2 := (upc_ HB.out c2 :); replace c3 := (upc_ HB.out c3 :); replace c4 := (upc_ HB.out c4 :); have HR103_2 := yab hi103_2; have HC103_2 := yab hl103_2; clear hi103_2 hl103_2; replace p103 := eq_true p103; replace q103 := eq_true q103
    try go_wp2_with (first | ((with_reducible refine gd_ 6 rfl ?_); refine bx_ 6 rfl #[.int .i64 0, .string (⟨#[]⟩ : ByteArray), .slice none 0 0, .int .i64 0] 124 ?_; intro b5 hg w80 hbox hb; have b1 := yab (hbox); have e2 := yab ((by rw [hg]; exact (below_size (by repeat (with_reducible first | exact HB.out | apply yaf | apply yad | apply yae | refine yag ?_ (Aside0.out ‹_›)))) : w.heap.size ≤ b5)); replace HB := yab (yam (by repeat (with_reducible first | exact HB.out | apply yaf | apply yad | apply yae | refine yag ?_ (Aside0.out ‹_›))) hb); have e6 := e2; have b3 := yab ((by rw [hg]; exact Nat.ne_of_lt (blk_lt (upB b6.out)) : e1 ≠ b5)); replace b6 := yab (yai (upB b6.out) hb); have c7 := yab b3.out.symm; have b4 := yab ((by rw [hg]; exact Nat.ne_of_lt (blk_lt (upB b0.out)) : b7 ≠ b5)); replace b0 := yab (yai (upB b0.out) hb); have d0 := yab b4.out.symm; clear hb hbox hg; have O8 := c7.out; have O9 := b3.out; have P0 := d0.out; have P1 := b4.out; obtain ⟨E4, E5, E6, E7⟩ := cc4_ b1.out; obtain ⟨E8, E9, F0⟩ := cf3_ b1.out; have F1 := blk_frozen b1.out 3))
    generalize hg_ : ((((w80.setCell ⟨b5, 0, none⟩ (.int .i64 ((yac l1_4 b2).f0))).setCell ⟨b5, 1, none⟩ (.string ((yac l1_4 b2).f1))).setCell ⟨b5, 2, none⟩ (.slice b8 ((yac l1_4 b2).f2).length b9)).setCell ⟨b5, 3, none⟩ (.int .i64 ((yac l1_4 b2).f3))) = w84
    replace b6 : yal (w84.heap[e1]? = some (.cells #[.slice A0_0 l0_0.length c0_0, .int .i64 a0_1, .int .i64 a0_2, .int .i64 a0_3, .int .i64 a0_4, .int .i64 a0_5, .int .i64 a0_6] 24 (0, 0))) := ⟨by subst hg_; (repeat refine oneB ?_); refine yah ?_ b3.out _; (repeat refine oneB ?_); refine yah ?_ b3.out _; (repeat refine oneB ?_); refine yah ?_ b3.out _; (repeat refine oneB ?_); refine yah ?_ b3.out _; exact upB b6.out⟩; replace b0 : yal (w84.heap[b7]? = some (.cells #[.int .i64 a1_0, .int .i64 a1_1, .int .i64 a1_2, .int .i64 a1_3, .slice (some ad103) l1_4.length c1_4, .slice A1_5 l1_5.length c1_5, .slice A1_6 l1_6.length c1_6, .slice A1_7 l1_7.length c1_7] 63 (0, 0))) := ⟨by subst hg_; (repeat refine oneB ?_); refine yah ?_ b4.out _; (repeat refine oneB ?_); refine yah ?_ b4.out _; (repeat refine oneB ?_); refine yah ?_ b4.out _; (repeat refine oneB ?_); refine yah ?_ b4.out _; exact upB b0.out⟩; replace b1 : yal (w84.heap[b5]? = some (.cells #[.int .i64 ((yac l1_4 b2).f0), .string ((yac l1_4 b2).f1), .slice b8 ((yac l1_4 b2).f2).length b9, .int .i64 ((yac l1_4 b2).f3)] 124 (0, 0))) := ⟨by subst hg_; (repeat refine oneB ?_); refine yaj (cs := #[.int .i64 ((yac l1_4 b2).f0), .string ((yac l1_4 b2).f1), .slice b8 ((yac l1_4 b2).f2).length b9, .int .i64 0]) ?_ 3 _ rfl; refine yaj (cs := #[.int .i64 ((yac l1_4 b2).f0), .string ((yac l1_4 b2).f1), .slice none 0 0, .int .i64 0]) ?_ 2 _ rfl; refine yaj (cs := #[.int .i64 ((yac l1_4 b2).f0), .string (⟨#[]⟩ : ByteArray), .slice none 0 0, .int .i64 0]) ?_ 1 _ rfl; refine yaj (cs := #[.int .i64 0, .string (⟨#[]⟩ : ByteArray), .slice none 0 0, .int .i64 0]) ?_ 0 _ rfl; exact upB b1.out⟩
    replace HB : yal (Below w.heap.size w w84) := ⟨by subst hg_; repeat (with_reducible first | exact HB.out | apply yaf | apply yad | apply yae | refine yag ?_ (Aside0.out ‹_›))⟩
    clear hg_; replace b6 := yab (yak b6.out); replace b0 := yab (yak b0.out); replace b1 := yab (yak b1.out); replace HB := yab (yae HB.out)
    refine start_ (n := 43) (S := fun w' => w'.cell? ⟨b5, 0, none⟩ = some (.int .i64 ((yac l1_4 b2).f0)) ∧ w'.cell? ⟨b5, 1, none⟩ = some (.string ((yac l1_4 b2).f1)) ∧ w'.cell? ⟨b5, 2, none⟩ = some (.slice b8 ((yac l1_4 b2).f2).length b9) ∧ w'.cell? ⟨b5, 3, none⟩ = some (.int .i64 ((yac l1_4 b2).f3)) ∧ w'.cell? ⟨b7, 0, none⟩ = some (.int .i64 a1_0) ∧ w'.cell? ⟨b7, 1, none⟩ = some (.int .i64 a1_1) ∧ w'.cell? ⟨b7, 2, none⟩ = some (.int .i64 a1_2) ∧ w'.cell? ⟨b7, 3, none⟩ = some (.int .i64 a1_3) ∧ w'.cell? ⟨b7, 4, none⟩ = some (.slice (some ad103) l1_4.length c1_4) ∧ w'.cell? ⟨b7, 5, none⟩ = some (.slice A1_5 l1_5.length c1_5) ∧ w'.cell? ⟨b7, 6, none⟩ = some (.slice A1_6 l1_6.length c1_6) ∧ w'.cell? ⟨b7, 7, none⟩ = some (.slice A1_7 l1_7.length c1_7)) (ds := []) q108_0 (by kernel_rfl) rfl rfl ⟨(yaa b1.out 0).trans rfl, (yaa b1.out 1).trans rfl, (yaa b1.out 2).trans rfl, (yaa b1.out 3).trans rfl, (yaa b0.out 0).trans rfl, (yaa b0.out 1).trans rfl, (yaa b0.out 2).trans rfl, (yaa b0.out 3).trans rfl, (yaa b0.out 4).trans rfl, (yaa b0.out 5).trans rfl, (yaa b0.out 6).trans rfl, (yaa b0.out 7).trans rfl⟩ (fun hHeld => ?_); refine with_tabW spec_l8Jobs.tab5 spec_l8Jobs.bits5 (fun HT_ HW_ => ?_)
    generalize w84.drew = w85 at b6 b0 b1 HB hHeld ⊢
    refine pz_ 0 19 q108_1 HT_ (by kernel_rfl) ?_
    refine pz_ 2 21 q108_2 HT_ (by kernel_rfl) ?_
    refine tz_ 1 20 q108_3 HT_ HW_ (by kernel_rfl) hHeld ?_
    refine tz_ 3 22 q108_4 HT_ HW_ (by kernel_rfl) hHeld ?_
    refine pz_ 4 23 q108_5 HT_ (by kernel_rfl) ?_
    refine one_ (i := 5) (N := some 24) q108_6 rfl rfl (one_of HT_.out (by kernel_rfl)) (by decide) (fun K hK => ?_)
    refine goes_ Try.func63 (by kernel_rfl) rfl #[.int .i64 ((yac l1_4 b2).f0), .int .i64 0, .int .i64 (wrap64 (a1_3 - 1))] (by rfl) rfl rfl (by (try simp only [List.map_toArray, List.map_cons, List.map_nil]); first | done | rfl | (simp only [List.length_drop, List.length_take]; rfl)) ?_
    with_reducible refine (spec_l1In.calls ((yac l1_4 b2).f0) 0 (wrap64 (a1_3 - 1)) true _ A7.out).mono ?_
    rintro e w' ⟨rfl, ⟨nd, rfl⟩⟩; refine ⟨_, rfl, ?_⟩
    refine hK.out _ _ ⟨(yaa b1.out 0).trans rfl, (yaa b1.out 1).trans rfl, (yaa b1.out 2).trans rfl, (yaa b1.out 3).trans rfl, (yaa b0.out 0).trans rfl, (yaa b0.out 1).trans rfl, (yaa b0.out 2).trans rfl, (yaa b0.out 3).trans rfl, (yaa b0.out 4).trans rfl, (yaa b0.out 5).trans rfl, (yaa b0.out 6).trans rfl, (yaa b0.out 7).trans rfl⟩ (fun hHeld => ?_)
    clear hK K
    refine norm_ (a' := ?_) ?_ ?_
    rotate_left
    ·
     show Act.put _ (some 24) _ = _
     simp only [Act.put, List.setIfInBounds_toArray, List.set_cons_zero, List.set_cons_succ, i64_w, i32_w]
     rfl
    refine pz_ 6 25 q108_7 HT_ (by kernel_rfl) ?_
    refine pz_ 7 26 q108_8 HT_ (by kernel_rfl) ?_
    refine pz_ 8 27 q108_9 HT_ (by kernel_rfl) ?_
    refine pz_ 9 28 q108_10 HT_ (by kernel_rfl) ?_
    refine pz_ 10 29 q108_11 HT_ (by kernel_rfl) ?_
    refine pu_ 11 30 q108_12 HT_ (by kernel_rfl) ?_
    refine pu_ 12 31 q108_45 HT_ (by kernel_rfl) ?_
    refine pu_ 13 32 q108_46 HT_ (by kernel_rfl) ?_
    refine pu_ 14 33 q108_47 HT_ (by kernel_rfl) ?_
    refine pu_ 15 34 q108_48 HT_ (by kernel_rfl) ?_
    refine pu_ 16 35 q108_49 HT_ (by kernel_rfl) ?_
    refine pu_ 17 36 q108_50 HT_ (by kernel_rfl) ?_
    refine pu_ 18 37 q108_19 HT_ (by kernel_rfl) ?_
    refine pu_ 19 38 q108_20 HT_ (by kernel_rfl) ?_
    refine pu_ 20 39 q108_21 HT_ (by kernel_rfl) ?_
    refine pz_ 21 40 q108_22 HT_ (by kernel_rfl) ?_
    refine pz_ 22 41 q108_23 HT_ (by kernel_rfl) ?_
    refine pz_ 23 42 q108_24 HT_ (by kernel_rfl) ?_
    refine pz_ 24 43 q108_25 HT_ (by kernel_rfl) ?_
    refine tz_ 25 44 q108_26 HT_ HW_ (by kernel_rfl) hHeld ?_
    refine one_ (i := 26) (N := some 45) q108_27 rfl rfl (one_of HT_.out (by kernel_rfl)) (by decide) (fun K hK => ?_)
    refine goes_ Try.func70 (by kernel_rfl) rfl #[.string ((yac l1_4 b2).f1)] (by rfl) rfl rfl (by (try simp only [List.map_toArray, List.map_cons, List.map_nil]); first | done | rfl | (simp only [List.length_drop, List.length_take]; rfl)) ?_
    with_reducible refine (spec_l7Path.calls k1 ((yac l1_4 b2).f1) true _ A63.out).mono ?_
    rintro e w' ⟨rfl, ⟨nd, rfl⟩⟩; refine ⟨_, rfl, ?_⟩
    refine hK.out _ _ ⟨(yaa b1.out 0).trans rfl, (yaa b1.out 1).trans rfl, (yaa b1.out 2).trans rfl, (yaa b1.out 3).trans rfl, (yaa b0.out 0).trans rfl, (yaa b0.out 1).trans rfl, (yaa b0.out 2).trans rfl, (yaa b0.out 3).trans rfl, (yaa b0.out 4).trans rfl, (yaa b0.out 5).trans rfl, (yaa b0.out 6).trans rfl, (yaa b0.out 7).trans rfl⟩ (fun hHeld => ?_)
    clear hK K
    refine norm_ (a' := ?_) ?_ ?_
    rotate_left
    ·
     show Act.put _ (some 45) _ = _
     simp only [Act.put, List.setIfInBounds_toArray, List.set_cons_zero, List.set_cons_succ, i64_w, i32_w]
     rfl
    refine pz_ 27 46 q108_28 HT_ (by kernel_rfl) ?_
    refine pz_ 28 47 q108_29 HT_ (by kernel_rfl) ?_
    refine pz_ 29 48 q108_30 HT_ (by kernel_rfl) ?_
    refine pz_ 30 49 q108_31 HT_ (by kernel_rfl) ?_
    refine tz_ 31 50 q108_32 HT_ HW_ (by kernel_rfl) hHeld ?_
    refine one_ (i := 32) (N := some 51) q108_33 rfl rfl (one_of HT_.out (by kernel_rfl)) (by decide) (fun K hK => ?_)
    refine goes_ Try.func69 (by kernel_rfl) rfl #[.slice b8 ((yac l1_4 b2).f2).length b9] (by rfl) rfl rfl (by (try simp only [List.map_toArray, List.map_cons, List.map_nil]); first | done | rfl | (simp only [List.length_drop, List.length_take]; rfl)) ?_
    with_reducible refine (spec_l6All.calls k1 _ _ ((yac l1_4 b2).f2) true _ ?side1 ?side2 A65.out).mono ?_
    (case side1 => repeat (first | exact (Kd.C_below HR103_2.out (by repeat (with_reducible first | exact HB.out | apply yaf | apply yad | apply yae | refine yag ?_ (Aside0.out ‹_›)))) | (with_reducible refine Kd.C_alloc ?_ _) | (with_reducible refine Kd.C_drewN ?_ _) | (with_reducible refine Kd.C_drew ?_)))
    (case side2 => exact HC103_2.out)
    rintro e w86 ⟨rfl, hb⟩; refine ⟨_, rfl, ?_⟩; have n0_ := yab (yai (upB b6.out) hb); have n1_ := yab (yai (upB b0.out) hb); have n2_ := yab (yai (upB b1.out) hb)
    have n3_ := yab (yam (by repeat (with_reducible first | exact HB.out | apply yaf | apply yad | apply yae | refine yag ?_ (Aside0.out ‹_›))) hb)
    clear b6; clear b0; clear b1; clear HB; have b6 := n0_; have b0 := n1_; have b1 := n2_; have HB := n3_; clear n0_ n1_ n2_ n3_; (try clear hb); (try clear hb2); (try clear hk); (try clear hi)
    refine hK.out _ _ ⟨(yaa b1.out 0).trans rfl, (yaa b1.out 1).trans rfl, (yaa b1.out 2).trans rfl, (yaa b1.out 3).trans rfl, (yaa b0.out 0).trans rfl, (yaa b0.out 1).trans rfl, (yaa b0.out 2).trans rfl, (yaa b0.out 3).trans rfl, (yaa b0.out 4).trans rfl, (yaa b0.out 5).trans rfl, (yaa b0.out 6).trans rfl, (yaa b0.out 7).trans rfl⟩ (fun hHeld => ?_)
    clear hK K
    refine norm_ (a' := ?_) ?_ ?_
    rotate_left
    ·
     show Act.put _ (some 51) _ = _
     simp only [Act.put, List.setIfInBounds_toArray, List.set_cons_zero, List.set_cons_succ, i64_w, i32_w]
     rfl
    refine pz_ 33 52 q108_34 HT_ (by kernel_rfl) ?_
    refine pz_ 34 53 q108_35 HT_ (by kernel_rfl) ?_
    refine pz_ 35 54 q108_36 HT_ (by kernel_rfl) ?_
    refine pz_ 36 55 q108_37 HT_ (by kernel_rfl) ?_
    refine pz_ 38 57 q108_44 HT_ (by kernel_rfl) ?_
    refine tz_ 37 56 q108_39 HT_ HW_ (by kernel_rfl) hHeld ?_
    refine tz_ 39 58 q108_40 HT_ HW_ (by kernel_rfl) hHeld ?_
    refine one_ (i := 40) (N := some 59) q108_41 rfl rfl (one_of HT_.out (by kernel_rfl)) (by decide) (fun K hK => ?_)
    refine goes_ Try.func63 (by kernel_rfl) rfl #[.int .i64 ((yac l1_4 b2).f3), .int .i64 0, .int .i64 a1_0] (by rfl) rfl rfl (by (try simp only [List.map_toArray, List.map_cons, List.map_nil]); first | done | rfl | (simp only [List.length_drop, List.length_take]; rfl)) ?_
    with_reducible refine (spec_l1In.calls ((yac l1_4 b2).f3) 0 a1_0 false _ A67.out).mono ?_
    rintro e w' ⟨rfl, ⟨nd, rfl⟩⟩; refine ⟨_, rfl, ?_⟩
    refine hK.out _ _ ⟨(yaa b1.out 0).trans rfl, (yaa b1.out 1).trans rfl, (yaa b1.out 2).trans rfl, (yaa b1.out 3).trans rfl, (yaa b0.out 0).trans rfl, (yaa b0.out 1).trans rfl, (yaa b0.out 2).trans rfl, (yaa b0.out 3).trans rfl, (yaa b0.out 4).trans rfl, (yaa b0.out 5).trans rfl, (yaa b0.out 6).trans rfl, (yaa b0.out 7).trans rfl⟩ (fun hHeld => ?_)
    clear hK K
    refine norm_ (a' := ?_) ?_ ?_
    rotate_left
    ·
     show Act.put _ (some 59) _ = _
     simp only [Act.put, List.setIfInBounds_toArray, List.set_cons_zero, List.set_cons_succ, i64_w, i32_w]
     rfl
    refine pz_ 41 60 q108_42 HT_ (by kernel_rfl) ?_
    refine pz_ 42 61 q108_43 HT_ (by kernel_rfl) ?_
    refine done_ (done_of HT_.out (by kernel_rfl)) ?_
    try go_wp2
    go_ret
    exact ⟨by first | rfl | (simp [*, errW_none, errW_some] <;> rfl), by repeat (with_reducible first | exact HB.out | apply yaf | apply yad | apply yae | refine yag ?_ (Aside0.out ‹_›))⟩
   rw [if_pos c9] at H
   have J4 : decide (0 < b2) = true := decide_eq_true c9; clear c9; obtain ⟨ji10, hji10⟩ : ∃ j_ : Int, (wrap64 (b2 - 1)) = j_ := ⟨_, rfl⟩
   replace H : (if 0 ≤ (ji10) then (if (ji10) < (l1_4.length : Int) then (if ((yac l1_4 (ji10)).f0) ≥ ((yac l1_4 b2).f0) then (some false) else ((spec_l7Path.f k1 ((yac l1_4 b2).f1)).bind fun f6 => (if f6 = true then ((spec_l6All.f k1 ((yac l1_4 b2).f2)).bind fun f7 => (if f7 = true then ((spec_l1In.f ((yac l1_4 b2).f3) 0 a1_0).bind fun f8 => (if f8 = true then (spec_l8Jobs.l0 k1 (wrap64 (b2 + 1)) l0_0 a0_1 a0_2 a0_3 a0_4 a0_5 a0_6 a1_0 a1_1 a1_2 a1_3 l1_4 l1_5 l1_6 l1_7) else (some false))) else (some false))) else (some false)))) else (none)) else (none)) = some r := by first | (rw [hji10] at H; exact H) | (simp only [hji10] at H ⊢; exact H)
   (try rw [hji10] at A7)
   have hji10w : (IntKind.i64.wrap (b2 - 1)) = ji10 := (i64_w _).trans hji10
   by_cases c11 : 0 ≤ (ji10)
   rotate_left
   ·
    rw [if_neg c11] at H
    exact absurd H (by simp)
   rw [if_pos c11] at H
   replace c11 := decide_eq_true c11
   by_cases c12 : (ji10) < (l1_4.length : Int)
   rotate_left
   ·
    rw [if_neg c12] at H
    exact absurd H (by simp)
   rw [if_pos c12] at H
   replace c12 := decide_eq_true c12
   by_cases c13 : ((yac l1_4 (ji10)).f0) ≥ ((yac l1_4 b2).f0)
   ·
    rw [if_pos c13] at H
    have g1 : decide (((yac l1_4 b2).f0) ≤ ((yac l1_4 (ji10)).f0)) = true := decide_eq_true c13; clear c13; obtain rfl := Option.some.inj H; have L0 := e0.out; have L1 := d9.out; obtain ⟨m6, m7, m8, m9, n0, n1, n2, n3⟩ := cc8_ b0.out; obtain ⟨n4, n5, n6, n7, n8, n9, o0, o1⟩ := cf8_ b0.out; have p103 : 0 ≤ (b2 : Int) := of_decide_eq_true (by assumption); have q103 : b2 < (l1_4.length : Int) := of_decide_eq_true (by assumption); obtain ⟨ad103, b8, b9, e3, c0, c2, c3, c4, hl103_2, hi103_2⟩ := at_T124 HR1_4.out b2 p103 q103
    cases e3
    replace c0 := (upc_ HB.out c0 :); replace c2 := (upc_ HB.out c2 :); replace c3 := (upc_ HB.out c3 :); replace c4 := (upc_ HB.out c4 :); have HR103_2 := yab hi103_2; have HC103_2 := yab hl103_2; clear hi103_2 hl103_2; replace p103 := eq_true p103; replace q103 := eq_true q103
    try go_wp2_with (first | ((with_reducible refine gd_ 6 rfl ?_); refine bx_ 6 rfl #[.int .i64 0, .string (⟨#[]⟩ : ByteArray), .slice none 0 0, .int .i64 0] 124 ?_; intro b5 hg w16 hbox hb; have b1 := yab (hbox); have e2 := yab ((by rw [hg]; exact (below_size (by repeat (with_reducible first | exact HB.out | apply yaf | apply yad | apply yae | refine yag ?_ (Aside0.out ‹_›)))) : w.heap.size ≤ b5)); replace HB := yab (yam (by repeat (with_reducible first | exact HB.out | apply yaf | apply yad | apply yae | refine yag ?_ (Aside0.out ‹_›))) hb); have e6 := e2; have b3 := yab ((by rw [hg]; exact Nat.ne_of_lt (blk_lt (upB b6.out)) : e1 ≠ b5)); replace b6 := yab (yai (upB b6.out) hb); have c7 := yab b3.out.symm; have b4 := yab ((by rw [hg]; exact Nat.ne_of_lt (blk_lt (upB b0.out)) : b7 ≠ b5)); replace b0 := yab (yai (upB b0.out) hb); have d0 := yab b4.out.symm; clear hb hbox hg; have L2 := c7.out; have L3 := b3.out; have L4 := d0.out; have L5 := b4.out; obtain ⟨o2, o3, o4, o5⟩ := cc4_ b1.out; obtain ⟨o6, o7, o8⟩ := cf3_ b1.out; have o9 := blk_frozen b1.out 3))
    generalize hg_ : ((((w16.setCell ⟨b5, 0, none⟩ (.int .i64 ((yac l1_4 b2).f0))).setCell ⟨b5, 1, none⟩ (.string ((yac l1_4 b2).f1))).setCell ⟨b5, 2, none⟩ (.slice b8 ((yac l1_4 b2).f2).length b9)).setCell ⟨b5, 3, none⟩ (.int .i64 ((yac l1_4 b2).f3))) = w20
    replace b6 : yal (w20.heap[e1]? = some (.cells #[.slice A0_0 l0_0.length c0_0, .int .i64 a0_1, .int .i64 a0_2, .int .i64 a0_3, .int .i64 a0_4, .int .i64 a0_5, .int .i64 a0_6] 24 (0, 0))) := ⟨by subst hg_; (repeat refine oneB ?_); refine yah ?_ b3.out _; (repeat refine oneB ?_); refine yah ?_ b3.out _; (repeat refine oneB ?_); refine yah ?_ b3.out _; (repeat refine oneB ?_); refine yah ?_ b3.out _; exact upB b6.out⟩; replace b0 : yal (w20.heap[b7]? = some (.cells #[.int .i64 a1_0, .int .i64 a1_1, .int .i64 a1_2, .int .i64 a1_3, .slice (some ad103) l1_4.length c1_4, .slice A1_5 l1_5.length c1_5, .slice A1_6 l1_6.length c1_6, .slice A1_7 l1_7.length c1_7] 63 (0, 0))) := ⟨by subst hg_; (repeat refine oneB ?_); refine yah ?_ b4.out _; (repeat refine oneB ?_); refine yah ?_ b4.out _; (repeat refine oneB ?_); refine yah ?_ b4.out _; (repeat refine oneB ?_); refine yah ?_ b4.out _; exact upB b0.out⟩; replace b1 : yal (w20.heap[b5]? = some (.cells #[.int .i64 ((yac l1_4 b2).f0), .string ((yac l1_4 b2).f1), .slice b8 ((yac l1_4 b2).f2).length b9, .int .i64 ((yac l1_4 b2).f3)] 124 (0, 0))) := ⟨by subst hg_; (repeat refine oneB ?_); refine yaj (cs := #[.int .i64 ((yac l1_4 b2).f0), .string ((yac l1_4 b2).f1), .slice b8 ((yac l1_4 b2).f2).length b9, .int .i64 0]) ?_ 3 _ rfl; refine yaj (cs := #[.int .i64 ((yac l1_4 b2).f0), .string ((yac l1_4 b2).f1), .slice none 0 0, .int .i64 0]) ?_ 2 _ rfl; refine yaj (cs := #[.int .i64 ((yac l1_4 b2).f0), .string (⟨#[]⟩ : ByteArray), .slice none 0 0, .int .i64 0]) ?_ 1 _ rfl; refine yaj (cs := #[.int .i64 0, .string (⟨#[]⟩ : ByteArray), .slice none 0 0, .int .i64 0]) ?_ 0 _ rfl; exact upB b1.out⟩
    replace HB : yal (Below w.heap.size w w20) := ⟨by subst hg_; repeat (with_reducible first | exact HB.out | apply yaf | apply yad | apply yae | refine yag ?_ (Aside0.out ‹_›))⟩
    clear hg_; replace b6 := yab (yak b6.out); replace b0 := yab (yak b0.out); replace b1 := yab (yak b1.out); replace HB := yab (yae HB.out); have p106 : 0 ≤ ((ji10) : Int) := of_decide_eq_true (by assumption); have q106 : (ji10) < (l1_4.length : Int) := of_decide_eq_true (by assumption); obtain ⟨ad106, e4, e5, f5, d1, d2, d3, d4, hl106_2, hi106_2⟩ := at_T124 HR1_4.out (ji10) p106 q106; have d5 := d4; have d6 := d3; have d7 := d2; have d8 := d1; obtain rfl : ad103 = ad106 := (by injection f5); replace d1 := (upc_ HB.out d1 :); replace d2 := (upc_ HB.out d2 :); replace d3 := (upc_ HB.out d3 :); replace d4 := (upc_ HB.out d4 :); have HR106_2 := yab hi106_2; have HC106_2 := yab hl106_2; clear hi106_2 hl106_2; replace p106 := eq_true p106; replace q106 := eq_true q106
    refine start_ (n := 43) (S := fun w' => w'.cell? ⟨b5, 0, none⟩ = some (.int .i64 ((yac l1_4 b2).f0)) ∧ w'.cell? ⟨b5, 1, none⟩ = some (.string ((yac l1_4 b2).f1)) ∧ w'.cell? ⟨b5, 2, none⟩ = some (.slice b8 ((yac l1_4 b2).f2).length b9) ∧ w'.cell? ⟨b5, 3, none⟩ = some (.int .i64 ((yac l1_4 b2).f3)) ∧ w'.cell? ⟨b7, 0, none⟩ = some (.int .i64 a1_0) ∧ w'.cell? ⟨b7, 1, none⟩ = some (.int .i64 a1_1) ∧ w'.cell? ⟨b7, 2, none⟩ = some (.int .i64 a1_2) ∧ w'.cell? ⟨b7, 3, none⟩ = some (.int .i64 a1_3) ∧ w'.cell? ⟨b7, 4, none⟩ = some (.slice (some ad103) l1_4.length c1_4) ∧ w'.cell? ⟨b7, 5, none⟩ = some (.slice A1_5 l1_5.length c1_5) ∧ w'.cell? ⟨b7, 6, none⟩ = some (.slice A1_6 l1_6.length c1_6) ∧ w'.cell? ⟨b7, 7, none⟩ = some (.slice A1_7 l1_7.length c1_7) ∧ w'.cell? (ad103.add (((ji10)).toNat * 4)) = some (.int .i64 ((yac l1_4 (ji10)).f0)) ∧ w'.cell? ⟨(ad103.add (((ji10)).toNat * 4)).block, (ad103.add (((ji10)).toNat * 4)).off + 1, none⟩ = some (.string ((yac l1_4 (ji10)).f1)) ∧ w'.cell? ⟨(ad103.add (((ji10)).toNat * 4)).block, (ad103.add (((ji10)).toNat * 4)).off + 2, none⟩ = some (.slice e4 ((yac l1_4 (ji10)).f2).length e5) ∧ w'.cell? ⟨(ad103.add (((ji10)).toNat * 4)).block, (ad103.add (((ji10)).toNat * 4)).off + 3, none⟩ = some (.int .i64 ((yac l1_4 (ji10)).f3))) (ds := []) q108_0 (by kernel_rfl) rfl rfl ⟨(yaa b1.out 0).trans rfl, (yaa b1.out 1).trans rfl, (yaa b1.out 2).trans rfl, (yaa b1.out 3).trans rfl, (yaa b0.out 0).trans rfl, (yaa b0.out 1).trans rfl, (yaa b0.out 2).trans rfl, (yaa b0.out 3).trans rfl, (yaa b0.out 4).trans rfl, (yaa b0.out 5).trans rfl, (yaa b0.out 6).trans rfl, (yaa b0.out 7).trans rfl, (upc_ HB.out d8 :), (upc_ HB.out d7 :), (upc_ HB.out d6 :), (upc_ HB.out d5 :)⟩ (fun hHeld => ?_); refine with_tabW spec_l8Jobs.tab5 spec_l8Jobs.bits5 (fun HT_ HW_ => ?_)
    generalize w20.drew = w21 at b6 b0 b1 HB HR106_2 d1 d2 d3 d4 hHeld ⊢
    refine pz_ 0 19 q108_1 HT_ (by kernel_rfl) ?_
    refine pz_ 2 21 q108_2 HT_ (by kernel_rfl) ?_
    refine tz_ 1 20 q108_3 HT_ HW_ (by kernel_rfl) hHeld ?_
    refine tz_ 3 22 q108_4 HT_ HW_ (by kernel_rfl) hHeld ?_
    refine pz_ 4 23 q108_5 HT_ (by kernel_rfl) ?_
    refine one_ (i := 5) (N := some 24) q108_6 rfl rfl (one_of HT_.out (by kernel_rfl)) (by decide) (fun K hK => ?_)
    refine goes_ Try.func63 (by kernel_rfl) rfl #[.int .i64 ((yac l1_4 b2).f0), .int .i64 0, .int .i64 (wrap64 (a1_3 - 1))] (by rfl) rfl rfl (by (try simp only [List.map_toArray, List.map_cons, List.map_nil]); first | done | rfl | (simp only [List.length_drop, List.length_take]; rfl)) ?_
    with_reducible refine (spec_l1In.calls ((yac l1_4 b2).f0) 0 (wrap64 (a1_3 - 1)) true _ A7.out).mono ?_
    rintro e w' ⟨rfl, ⟨nd, rfl⟩⟩; refine ⟨_, rfl, ?_⟩
    refine hK.out _ _ ⟨(yaa b1.out 0).trans rfl, (yaa b1.out 1).trans rfl, (yaa b1.out 2).trans rfl, (yaa b1.out 3).trans rfl, (yaa b0.out 0).trans rfl, (yaa b0.out 1).trans rfl, (yaa b0.out 2).trans rfl, (yaa b0.out 3).trans rfl, (yaa b0.out 4).trans rfl, (yaa b0.out 5).trans rfl, (yaa b0.out 6).trans rfl, (yaa b0.out 7).trans rfl, (upc_ HB.out d8 :), (upc_ HB.out d7 :), (upc_ HB.out d6 :), (upc_ HB.out d5 :)⟩ (fun hHeld => ?_)
    clear hK K
    refine norm_ (a' := ?_) ?_ ?_
    rotate_left
    ·
     show Act.put _ (some 24) _ = _
     simp only [Act.put, List.setIfInBounds_toArray, List.set_cons_zero, List.set_cons_succ, i64_w, i32_w]
     rfl
    refine pz_ 6 25 q108_7 HT_ (by kernel_rfl) ?_
    refine pz_ 7 26 q108_8 HT_ (by kernel_rfl) ?_
    refine pz_ 8 27 q108_9 HT_ (by kernel_rfl) ?_
    refine pz_ 9 28 q108_10 HT_ (by kernel_rfl) ?_
    refine pz_ 10 29 q108_11 HT_ (by kernel_rfl) ?_
    refine pz_ 11 30 q108_12 HT_ (by kernel_rfl) ?_
    refine pz_ 13 32 q108_13 HT_ (by kernel_rfl) ?_
    refine pz_ 14 33 q108_14 HT_ (by kernel_rfl) ?_
    refine pz_ 18 37 q108_15 HT_ (by kernel_rfl) ?_
    refine tz_ 12 31 q108_16 HT_ HW_ (by kernel_rfl) hHeld ?_
    refine pz_ 15 34 q108_17 HT_ (by kernel_rfl) ?_
    refine pz_ 16 35 q108_18 HT_ (by kernel_rfl) ?_
    refine tz_ 17 36 q108_19 HT_ HW_ (by kernel_rfl) hHeld ?_
    refine tz_ 19 38 q108_20 HT_ HW_ (by kernel_rfl) hHeld ?_
    refine pz_ 20 39 q108_21 HT_ (by kernel_rfl) ?_
    refine pz_ 21 40 q108_22 HT_ (by kernel_rfl) ?_
    refine pz_ 22 41 q108_23 HT_ (by kernel_rfl) ?_
    refine pz_ 23 42 q108_24 HT_ (by kernel_rfl) ?_
    refine pu_ 24 43 q108_25 HT_ (by kernel_rfl) ?_
    refine pu_ 25 44 q108_26 HT_ (by kernel_rfl) ?_
    refine pu_ 26 45 q108_27 HT_ (by kernel_rfl) ?_
    refine pu_ 27 46 q108_28 HT_ (by kernel_rfl) ?_
    refine pz_ 28 47 q108_29 HT_ (by kernel_rfl) ?_
    refine pz_ 29 48 q108_30 HT_ (by kernel_rfl) ?_
    refine pu_ 30 49 q108_31 HT_ (by kernel_rfl) ?_
    refine pu_ 31 50 q108_32 HT_ (by kernel_rfl) ?_
    refine pu_ 32 51 q108_33 HT_ (by kernel_rfl) ?_
    refine pu_ 33 52 q108_34 HT_ (by kernel_rfl) ?_
    refine pz_ 34 53 q108_35 HT_ (by kernel_rfl) ?_
    refine pz_ 35 54 q108_36 HT_ (by kernel_rfl) ?_
    refine pu_ 36 55 q108_37 HT_ (by kernel_rfl) ?_
    refine pu_ 37 56 q108_38 HT_ (by kernel_rfl) ?_
    refine pu_ 38 57 q108_39 HT_ (by kernel_rfl) ?_
    refine pu_ 39 58 q108_40 HT_ (by kernel_rfl) ?_
    refine pu_ 40 59 q108_41 HT_ (by kernel_rfl) ?_
    refine pu_ 41 60 q108_42 HT_ (by kernel_rfl) ?_
    refine pz_ 42 61 q108_43 HT_ (by kernel_rfl) ?_
    refine done_ (done_of HT_.out (by kernel_rfl)) ?_
    try go_wp2
    go_ret
    exact ⟨by first | rfl | (simp [errW_none, errW_some] <;> rfl) | (simp only [← hji10]; first | rfl | (simp [errW_none, errW_some] <;> rfl)) | (simp [*, errW_none, errW_some] <;> rfl), by repeat (with_reducible first | exact HB.out | apply yaf | apply yad | apply yae | refine yag ?_ (Aside0.out ‹_›))⟩
   rw [if_neg c13] at H
   have g1 : decide (((yac l1_4 b2).f0) ≤ ((yac l1_4 (ji10)).f0)) = false := decide_eq_false c13; clear c13; obtain ⟨f6, A22, H⟩ := bindA H; (try dsimp only at H)
   by_cases c23 : f6 = true
   rotate_left
   ·
    replace c23 := Bool.eq_false_iff.mpr c23
    subst c23
    rw [if_neg (show ¬ (false = true) by decide)] at H
    obtain rfl := Option.some.inj H; have N4 := e0.out; have N5 := d9.out; obtain ⟨w7, w8, w9, x0, x1, x2, x3, x4⟩ := cc8_ b0.out; obtain ⟨x6, x7, x8, x9, z0, z1, z2, z3⟩ := cf8_ b0.out; have p103 : 0 ≤ (b2 : Int) := of_decide_eq_true (by assumption); have q103 : b2 < (l1_4.length : Int) := of_decide_eq_true (by assumption); obtain ⟨ad103, b8, b9, e3, c0, c2, c3, c4, hl103_2, hi103_2⟩ := at_T124 HR1_4.out b2 p103 q103
    cases e3
    replace c0 := (upc_ HB.out c0 :); replace c2 := (upc_ HB.out c2 :); replace c3 := (upc_ HB.out c3 :); replace c4 := (upc_ HB.out c4 :); have HR103_2 := yab hi103_2; have HC103_2 := yab hl103_2; clear hi103_2 hl103_2; replace p103 := eq_true p103; replace q103 := eq_true q103
    try go_wp2_with (first | ((with_reducible refine gd_ 6 rfl ?_); refine bx_ 6 rfl #[.int .i64 0, .string (⟨#[]⟩ : ByteArray), .slice none 0 0, .int .i64 0] 124 ?_; intro b5 hg w57 hbox hb; have b1 := yab (hbox); have e2 := yab ((by rw [hg]; exact (below_size (by repeat (with_reducible first | exact HB.out | apply yaf | apply yad | apply yae | refine yag ?_ (Aside0.out ‹_›)))) : w.heap.size ≤ b5)); replace HB := yab (yam (by repeat (with_reducible first | exact HB.out | apply yaf | apply yad | apply yae | refine yag ?_ (Aside0.out ‹_›))) hb); have e6 := e2; have b3 := yab ((by rw [hg]; exact Nat.ne_of_lt (blk_lt (upB b6.out)) : e1 ≠ b5)); replace b6 := yab (yai (upB b6.out) hb); have c7 := yab b3.out.symm; have b4 := yab ((by rw [hg]; exact Nat.ne_of_lt (blk_lt (upB b0.out)) : b7 ≠ b5)); replace b0 := yab (yai (upB b0.out) hb); have d0 := yab b4.out.symm; clear hb hbox hg; have N6 := c7.out; have N7 := b3.out; have N8 := d0.out; have N9 := b4.out; obtain ⟨z4, z5, z6, z7⟩ := cc4_ b1.out; obtain ⟨z8, z9, A0⟩ := cf3_ b1.out; have A1 := blk_frozen b1.out 3))
    generalize hg_ : ((((w57.setCell ⟨b5, 0, none⟩ (.int .i64 ((yac l1_4 b2).f0))).setCell ⟨b5, 1, none⟩ (.string ((yac l1_4 b2).f1))).setCell ⟨b5, 2, none⟩ (.slice b8 ((yac l1_4 b2).f2).length b9)).setCell ⟨b5, 3, none⟩ (.int .i64 ((yac l1_4 b2).f3))) = w61
    replace b6 : yal (w61.heap[e1]? = some (.cells #[.slice A0_0 l0_0.length c0_0, .int .i64 a0_1, .int .i64 a0_2, .int .i64 a0_3, .int .i64 a0_4, .int .i64 a0_5, .int .i64 a0_6] 24 (0, 0))) := ⟨by subst hg_; (repeat refine oneB ?_); refine yah ?_ b3.out _; (repeat refine oneB ?_); refine yah ?_ b3.out _; (repeat refine oneB ?_); refine yah ?_ b3.out _; (repeat refine oneB ?_); refine yah ?_ b3.out _; exact upB b6.out⟩; replace b0 : yal (w61.heap[b7]? = some (.cells #[.int .i64 a1_0, .int .i64 a1_1, .int .i64 a1_2, .int .i64 a1_3, .slice (some ad103) l1_4.length c1_4, .slice A1_5 l1_5.length c1_5, .slice A1_6 l1_6.length c1_6, .slice A1_7 l1_7.length c1_7] 63 (0, 0))) := ⟨by subst hg_; (repeat refine oneB ?_); refine yah ?_ b4.out _; (repeat refine oneB ?_); refine yah ?_ b4.out _; (repeat refine oneB ?_); refine yah ?_ b4.out _; (repeat refine oneB ?_); refine yah ?_ b4.out _; exact upB b0.out⟩; replace b1 : yal (w61.heap[b5]? = some (.cells #[.int .i64 ((yac l1_4 b2).f0), .string ((yac l1_4 b2).f1), .slice b8 ((yac l1_4 b2).f2).length b9, .int .i64 ((yac l1_4 b2).f3)] 124 (0, 0))) := ⟨by subst hg_; (repeat refine oneB ?_); refine yaj (cs := #[.int .i64 ((yac l1_4 b2).f0), .string ((yac l1_4 b2).f1), .slice b8 ((yac l1_4 b2).f2).length b9, .int .i64 0]) ?_ 3 _ rfl; refine yaj (cs := #[.int .i64 ((yac l1_4 b2).f0), .string ((yac l1_4 b2).f1), .slice none 0 0, .int .i64 0]) ?_ 2 _ rfl; refine yaj (cs := #[.int .i64 ((yac l1_4 b2).f0), .string (⟨#[]⟩ : ByteArray), .slice none 0 0, .int .i64 0]) ?_ 1 _ rfl; refine yaj (cs := #[.int .i64 0, .string (⟨#[]⟩ : ByteArray), .slice none 0 0, .int .i64 0]) ?_ 0 _ rfl; exact upB b1.out⟩
    replace HB : yal (Below w.heap.size w w61) := ⟨by subst hg_; repeat (with_reducible first | exact HB.out | apply yaf | apply yad | apply yae | refine yag ?_ (Aside0.out ‹_›))⟩
    clear hg_; replace b6 := yab (yak b6.out); replace b0 := yab (yak b0.out); replace b1 := yab (yak b1.out); replace HB := yab (yae HB.out); have p106 : 0 ≤ ((ji10) : Int) := of_decide_eq_true (by assumption); have q106 : (ji10) < (l1_4.length : Int) := of_decide_eq_true (by assumption); obtain ⟨ad106, e4, e5, f5, d1, d2, d3, d4, hl106_2, hi106_2⟩ := at_T124 HR1_4.out (ji10) p106 q106; have d5 := d4; have d6 := d3; have d7 := d2; have d8 := d1; obtain rfl : ad103 = ad106 := (by injection f5); replace d1 := (upc_ HB.out d1 :); replace d2 := (upc_ HB.out d2 :); replace d3 := (upc_ HB.out d3 :); replace d4 := (upc_ HB.out d4 :); have HR106_2 := yab hi106_2; have HC106_2 := yab hl106_2; clear hi106_2 hl106_2; replace p106 := eq_true p106; replace q106 := eq_true q106
    refine start_ (n := 43) (S := fun w' => w'.cell? ⟨b5, 0, none⟩ = some (.int .i64 ((yac l1_4 b2).f0)) ∧ w'.cell? ⟨b5, 1, none⟩ = some (.string ((yac l1_4 b2).f1)) ∧ w'.cell? ⟨b5, 2, none⟩ = some (.slice b8 ((yac l1_4 b2).f2).length b9) ∧ w'.cell? ⟨b5, 3, none⟩ = some (.int .i64 ((yac l1_4 b2).f3)) ∧ w'.cell? ⟨b7, 0, none⟩ = some (.int .i64 a1_0) ∧ w'.cell? ⟨b7, 1, none⟩ = some (.int .i64 a1_1) ∧ w'.cell? ⟨b7, 2, none⟩ = some (.int .i64 a1_2) ∧ w'.cell? ⟨b7, 3, none⟩ = some (.int .i64 a1_3) ∧ w'.cell? ⟨b7, 4, none⟩ = some (.slice (some ad103) l1_4.length c1_4) ∧ w'.cell? ⟨b7, 5, none⟩ = some (.slice A1_5 l1_5.length c1_5) ∧ w'.cell? ⟨b7, 6, none⟩ = some (.slice A1_6 l1_6.length c1_6) ∧ w'.cell? ⟨b7, 7, none⟩ = some (.slice A1_7 l1_7.length c1_7) ∧ w'.cell? (ad103.add (((ji10)).toNat * 4)) = some (.int .i64 ((yac l1_4 (ji10)).f0)) ∧ w'.cell? ⟨(ad103.add (((ji10)).toNat * 4)).block, (ad103.add (((ji10)).toNat * 4)).off + 1, none⟩ = some (.string ((yac l1_4 (ji10)).f1)) ∧ w'.cell? ⟨(ad103.add (((ji10)).toNat * 4)).block, (ad103.add (((ji10)).toNat * 4)).off + 2, none⟩ = some (.slice e4 ((yac l1_4 (ji10)).f2).length e5) ∧ w'.cell? ⟨(ad103.add (((ji10)).toNat * 4)).block, (ad103.add (((ji10)).toNat * 4)).off + 3, none⟩ = some (.int .i64 ((yac l1_4 (ji10)).f3))) (ds := []) q108_0 (by kernel_rfl) rfl rfl ⟨(yaa b1.out 0).trans rfl, (yaa b1.out 1).trans rfl, (yaa b1.out 2).trans rfl, (yaa b1.out 3).trans rfl, (yaa b0.out 0).trans rfl, (yaa b0.out 1).trans rfl, (yaa b0.out 2).trans rfl, (yaa b0.out 3).trans rfl, (yaa b0.out 4).trans rfl, (yaa b0.out 5).trans rfl, (yaa b0.out 6).trans rfl, (yaa b0.out 7).trans rfl, (upc_ HB.out d8 :), (upc_ HB.out d7 :), (upc_ HB.out d6 :), (upc_ HB.out d5 :)⟩ (fun hHeld => ?_); refine with_tabW spec_l8Jobs.tab5 spec_l8Jobs.bits5 (fun HT_ HW_ => ?_)
    generalize w61.drew = w62 at b6 b0 b1 HB HR106_2 d1 d2 d3 d4 hHeld ⊢
    refine pz_ 0 19 q108_1 HT_ (by kernel_rfl) ?_
    refine pz_ 2 21 q108_2 HT_ (by kernel_rfl) ?_
    refine tz_ 1 20 q108_3 HT_ HW_ (by kernel_rfl) hHeld ?_
    refine tz_ 3 22 q108_4 HT_ HW_ (by kernel_rfl) hHeld ?_
    refine pz_ 4 23 q108_5 HT_ (by kernel_rfl) ?_
    refine one_ (i := 5) (N := some 24) q108_6 rfl rfl (one_of HT_.out (by kernel_rfl)) (by decide) (fun K hK => ?_)
    refine goes_ Try.func63 (by kernel_rfl) rfl #[.int .i64 ((yac l1_4 b2).f0), .int .i64 0, .int .i64 (wrap64 (a1_3 - 1))] (by rfl) rfl rfl (by (try simp only [List.map_toArray, List.map_cons, List.map_nil]); first | done | rfl | (simp only [List.length_drop, List.length_take]; rfl)) ?_
    with_reducible refine (spec_l1In.calls ((yac l1_4 b2).f0) 0 (wrap64 (a1_3 - 1)) true _ A7.out).mono ?_
    rintro e w' ⟨rfl, ⟨nd, rfl⟩⟩; refine ⟨_, rfl, ?_⟩
    refine hK.out _ _ ⟨(yaa b1.out 0).trans rfl, (yaa b1.out 1).trans rfl, (yaa b1.out 2).trans rfl, (yaa b1.out 3).trans rfl, (yaa b0.out 0).trans rfl, (yaa b0.out 1).trans rfl, (yaa b0.out 2).trans rfl, (yaa b0.out 3).trans rfl, (yaa b0.out 4).trans rfl, (yaa b0.out 5).trans rfl, (yaa b0.out 6).trans rfl, (yaa b0.out 7).trans rfl, (upc_ HB.out d8 :), (upc_ HB.out d7 :), (upc_ HB.out d6 :), (upc_ HB.out d5 :)⟩ (fun hHeld => ?_)
    clear hK K
    refine norm_ (a' := ?_) ?_ ?_
    rotate_left
    ·
     show Act.put _ (some 24) _ = _
     simp only [Act.put, List.setIfInBounds_toArray, List.set_cons_zero, List.set_cons_succ, i64_w, i32_w]
     rfl
    refine pz_ 6 25 q108_7 HT_ (by kernel_rfl) ?_
    refine pz_ 7 26 q108_8 HT_ (by kernel_rfl) ?_
    refine pz_ 8 27 q108_9 HT_ (by kernel_rfl) ?_
    refine pz_ 9 28 q108_10 HT_ (by kernel_rfl) ?_
    refine pz_ 10 29 q108_11 HT_ (by kernel_rfl) ?_
    refine pz_ 11 30 q108_12 HT_ (by kernel_rfl) ?_
    refine pz_ 13 32 q108_13 HT_ (by kernel_rfl) ?_
    refine pz_ 14 33 q108_14 HT_ (by kernel_rfl) ?_
    refine pz_ 18 37 q108_15 HT_ (by kernel_rfl) ?_
    refine tz_ 12 31 q108_16 HT_ HW_ (by kernel_rfl) hHeld ?_
    refine pz_ 15 34 q108_17 HT_ (by kernel_rfl) ?_
    refine pz_ 16 35 q108_18 HT_ (by kernel_rfl) ?_
    refine tz_ 17 36 q108_19 HT_ HW_ (by kernel_rfl) hHeld ?_
    refine tz_ 19 38 q108_20 HT_ HW_ (by kernel_rfl) hHeld ?_
    refine pz_ 20 39 q108_21 HT_ (by kernel_rfl) ?_
    refine pz_ 21 40 q108_22 HT_ (by kernel_rfl) ?_
    refine pz_ 22 41 q108_23 HT_ (by kernel_rfl) ?_
    refine pz_ 23 42 q108_24 HT_ (by kernel_rfl) ?_
    refine pz_ 24 43 q108_25 HT_ (by kernel_rfl) ?_
    refine tz_ 25 44 q108_26 HT_ HW_ (by kernel_rfl) hHeld ?_
    refine one_ (i := 26) (N := some 45) q108_27 rfl rfl (one_of HT_.out (by kernel_rfl)) (by decide) (fun K hK => ?_)
    refine goes_ Try.func70 (by kernel_rfl) rfl #[.string ((yac l1_4 b2).f1)] (by rfl) rfl rfl (by (try simp only [List.map_toArray, List.map_cons, List.map_nil]); first | done | rfl | (simp only [List.length_drop, List.length_take]; rfl)) ?_
    with_reducible refine (spec_l7Path.calls k1 ((yac l1_4 b2).f1) false _ A22.out).mono ?_
    rintro e w' ⟨rfl, ⟨nd, rfl⟩⟩; refine ⟨_, rfl, ?_⟩
    refine hK.out _ _ ⟨(yaa b1.out 0).trans rfl, (yaa b1.out 1).trans rfl, (yaa b1.out 2).trans rfl, (yaa b1.out 3).trans rfl, (yaa b0.out 0).trans rfl, (yaa b0.out 1).trans rfl, (yaa b0.out 2).trans rfl, (yaa b0.out 3).trans rfl, (yaa b0.out 4).trans rfl, (yaa b0.out 5).trans rfl, (yaa b0.out 6).trans rfl, (yaa b0.out 7).trans rfl, (upc_ HB.out d8 :), (upc_ HB.out d7 :), (upc_ HB.out d6 :), (upc_ HB.out d5 :)⟩ (fun hHeld => ?_)
    clear hK K
    refine norm_ (a' := ?_) ?_ ?_
    rotate_left
    ·
     show Act.put _ (some 45) _ = _
     simp only [Act.put, List.setIfInBounds_toArray, List.set_cons_zero, List.set_cons_succ, i64_w, i32_w]
     rfl
    refine pz_ 27 46 q108_28 HT_ (by kernel_rfl) ?_
    refine pz_ 28 47 q108_29 HT_ (by kernel_rfl) ?_
    refine pz_ 29 48 q108_30 HT_ (by kernel_rfl) ?_
    refine pu_ 30 49 q108_31 HT_ (by kernel_rfl) ?_
    refine pu_ 31 50 q108_32 HT_ (by kernel_rfl) ?_
    refine pu_ 32 51 q108_33 HT_ (by kernel_rfl) ?_
    refine pu_ 33 52 q108_34 HT_ (by kernel_rfl) ?_
    refine pz_ 34 53 q108_35 HT_ (by kernel_rfl) ?_
    refine pz_ 35 54 q108_36 HT_ (by kernel_rfl) ?_
    refine pu_ 36 55 q108_37 HT_ (by kernel_rfl) ?_
    refine pu_ 37 56 q108_38 HT_ (by kernel_rfl) ?_
    refine pu_ 38 57 q108_39 HT_ (by kernel_rfl) ?_
    refine pu_ 39 58 q108_40 HT_ (by kernel_rfl) ?_
    refine pu_ 40 59 q108_41 HT_ (by kernel_rfl) ?_
    refine pu_ 41 60 q108_42 HT_ (by kernel_rfl) ?_
    refine pz_ 42 61 q108_43 HT_ (by kernel_rfl) ?_
    refine done_ (done_of HT_.out (by kernel_rfl)) ?_
    try go_wp2
    go_ret
    exact ⟨by first | rfl | (simp [errW_none, errW_some] <;> rfl) | (simp only [← hji10]; first | rfl | (simp [errW_none, errW_some] <;> rfl)) | (simp [*, errW_none, errW_some] <;> rfl), by repeat (with_reducible first | exact HB.out | apply yaf | apply yad | apply yae | refine yag ?_ (Aside0.out ‹_›))⟩
   subst c23
   rw [if_pos rfl] at H
   obtain ⟨f7, A24, H⟩ := bindA H; (try dsimp only at H)
   by_cases c25 : f7 = true
   rotate_left
   ·
    replace c25 := Bool.eq_false_iff.mpr c25
    subst c25
    rw [if_neg (show ¬ (false = true) by decide)] at H
    obtain rfl := Option.some.inj H; have M8 := e0.out; have M9 := d9.out; obtain ⟨t9, u0, u1, u2, u3, u4, u5, u6⟩ := cc8_ b0.out; obtain ⟨u7, u9, v0, v1, v2, v3, v4, v6⟩ := cf8_ b0.out; have p103 : 0 ≤ (b2 : Int) := of_decide_eq_true (by assumption); have q103 : b2 < (l1_4.length : Int) := of_decide_eq_true (by assumption); obtain ⟨ad103, b8, b9, e3, c0, c2, c3, c4, hl103_2, hi103_2⟩ := at_T124 HR1_4.out b2 p103 q103
    cases e3
    replace c0 := (upc_ HB.out c0 :); replace c2 := (upc_ HB.out c2 :); replace c3 := (upc_ HB.out c3 :); replace c4 := (upc_ HB.out c4 :); have HR103_2 := yab hi103_2; have HC103_2 := yab hl103_2; clear hi103_2 hl103_2; replace p103 := eq_true p103; replace q103 := eq_true q103
    try go_wp2_with (first | ((with_reducible refine gd_ 6 rfl ?_); refine bx_ 6 rfl #[.int .i64 0, .string (⟨#[]⟩ : ByteArray), .slice none 0 0, .int .i64 0] 124 ?_; intro b5 hg w48 hbox hb; have b1 := yab (hbox); have e2 := yab ((by rw [hg]; exact (below_size (by repeat (with_reducible first | exact HB.out | apply yaf | apply yad | apply yae | refine yag ?_ (Aside0.out ‹_›)))) : w.heap.size ≤ b5)); replace HB := yab (yam (by repeat (with_reducible first | exact HB.out | apply yaf | apply yad | apply yae | refine yag ?_ (Aside0.out ‹_›))) hb); have e6 := e2; have b3 := yab ((by rw [hg]; exact Nat.ne_of_lt (blk_lt (upB b6.out)) : e1 ≠ b5)); replace b6 := yab (yai (upB b6.out) hb); have c7 := yab b3.out.symm; have b4 := yab ((by rw [hg]; exact Nat.ne_of_lt (blk_lt (upB b0.out)) : b7 ≠ b5)); replace b0 := yab (yai (upB b0.out) hb); have d0 := yab b4.out.symm; clear hb hbox hg; have N0 := c7.out; have N1 := b3.out; have N2 := d0.out; have N3 := b4.out; obtain ⟨v7, v8, v9, w0⟩ := cc4_ b1.out; obtain ⟨w1, w2, w5⟩ := cf3_ b1.out; have w6 := blk_frozen b1.out 3))
    generalize hg_ : ((((w48.setCell ⟨b5, 0, none⟩ (.int .i64 ((yac l1_4 b2).f0))).setCell ⟨b5, 1, none⟩ (.string ((yac l1_4 b2).f1))).setCell ⟨b5, 2, none⟩ (.slice b8 ((yac l1_4 b2).f2).length b9)).setCell ⟨b5, 3, none⟩ (.int .i64 ((yac l1_4 b2).f3))) = w52
    replace b6 : yal (w52.heap[e1]? = some (.cells #[.slice A0_0 l0_0.length c0_0, .int .i64 a0_1, .int .i64 a0_2, .int .i64 a0_3, .int .i64 a0_4, .int .i64 a0_5, .int .i64 a0_6] 24 (0, 0))) := ⟨by subst hg_; (repeat refine oneB ?_); refine yah ?_ b3.out _; (repeat refine oneB ?_); refine yah ?_ b3.out _; (repeat refine oneB ?_); refine yah ?_ b3.out _; (repeat refine oneB ?_); refine yah ?_ b3.out _; exact upB b6.out⟩; replace b0 : yal (w52.heap[b7]? = some (.cells #[.int .i64 a1_0, .int .i64 a1_1, .int .i64 a1_2, .int .i64 a1_3, .slice (some ad103) l1_4.length c1_4, .slice A1_5 l1_5.length c1_5, .slice A1_6 l1_6.length c1_6, .slice A1_7 l1_7.length c1_7] 63 (0, 0))) := ⟨by subst hg_; (repeat refine oneB ?_); refine yah ?_ b4.out _; (repeat refine oneB ?_); refine yah ?_ b4.out _; (repeat refine oneB ?_); refine yah ?_ b4.out _; (repeat refine oneB ?_); refine yah ?_ b4.out _; exact upB b0.out⟩; replace b1 : yal (w52.heap[b5]? = some (.cells #[.int .i64 ((yac l1_4 b2).f0), .string ((yac l1_4 b2).f1), .slice b8 ((yac l1_4 b2).f2).length b9, .int .i64 ((yac l1_4 b2).f3)] 124 (0, 0))) := ⟨by subst hg_; (repeat refine oneB ?_); refine yaj (cs := #[.int .i64 ((yac l1_4 b2).f0), .string ((yac l1_4 b2).f1), .slice b8 ((yac l1_4 b2).f2).length b9, .int .i64 0]) ?_ 3 _ rfl; refine yaj (cs := #[.int .i64 ((yac l1_4 b2).f0), .string ((yac l1_4 b2).f1), .slice none 0 0, .int .i64 0]) ?_ 2 _ rfl; refine yaj (cs := #[.int .i64 ((yac l1_4 b2).f0), .string (⟨#[]⟩ : ByteArray), .slice none 0 0, .int .i64 0]) ?_ 1 _ rfl; refine yaj (cs := #[.int .i64 0, .string (⟨#[]⟩ : ByteArray), .slice none 0 0, .int .i64 0]) ?_ 0 _ rfl; exact upB b1.out⟩
    replace HB : yal (Below w.heap.size w w52) := ⟨by subst hg_; repeat (with_reducible first | exact HB.out | apply yaf | apply yad | apply yae | refine yag ?_ (Aside0.out ‹_›))⟩
    clear hg_; replace b6 := yab (yak b6.out); replace b0 := yab (yak b0.out); replace b1 := yab (yak b1.out); replace HB := yab (yae HB.out); have p106 : 0 ≤ ((ji10) : Int) := of_decide_eq_true (by assumption); have q106 : (ji10) < (l1_4.length : Int) := of_decide_eq_true (by assumption); obtain ⟨ad106, e4, e5, f5, d1, d2, d3, d4, hl106_2, hi106_2⟩ := at_T124 HR1_4.out (ji10) p106 q106; have d5 := d4; have d6 := d3; have d7 := d2; have d8 := d1; obtain rfl : ad103 = ad106 := (by injection f5); replace d1 := (upc_ HB.out d1 :); replace d2 := (upc_ HB.out d2 :); replace d3 := (upc_ HB.out d3 :); replace d4 := (upc_ HB.out d4 :); have HR106_2 := yab hi106_2; have HC106_2 := yab hl106_2; clear hi106_2 hl106_2; replace p106 := eq_true p106; replace q106 := eq_true q106
    refine start_ (n := 43) (S := fun w' => w'.cell? ⟨b5, 0, none⟩ = some (.int .i64 ((yac l1_4 b2).f0)) ∧ w'.cell? ⟨b5, 1, none⟩ = some (.string ((yac l1_4 b2).f1)) ∧ w'.cell? ⟨b5, 2, none⟩ = some (.slice b8 ((yac l1_4 b2).f2).length b9) ∧ w'.cell? ⟨b5, 3, none⟩ = some (.int .i64 ((yac l1_4 b2).f3)) ∧ w'.cell? ⟨b7, 0, none⟩ = some (.int .i64 a1_0) ∧ w'.cell? ⟨b7, 1, none⟩ = some (.int .i64 a1_1) ∧ w'.cell? ⟨b7, 2, none⟩ = some (.int .i64 a1_2) ∧ w'.cell? ⟨b7, 3, none⟩ = some (.int .i64 a1_3) ∧ w'.cell? ⟨b7, 4, none⟩ = some (.slice (some ad103) l1_4.length c1_4) ∧ w'.cell? ⟨b7, 5, none⟩ = some (.slice A1_5 l1_5.length c1_5) ∧ w'.cell? ⟨b7, 6, none⟩ = some (.slice A1_6 l1_6.length c1_6) ∧ w'.cell? ⟨b7, 7, none⟩ = some (.slice A1_7 l1_7.length c1_7) ∧ w'.cell? (ad103.add (((ji10)).toNat * 4)) = some (.int .i64 ((yac l1_4 (ji10)).f0)) ∧ w'.cell? ⟨(ad103.add (((ji10)).toNat * 4)).block, (ad103.add (((ji10)).toNat * 4)).off + 1, none⟩ = some (.string ((yac l1_4 (ji10)).f1)) ∧ w'.cell? ⟨(ad103.add (((ji10)).toNat * 4)).block, (ad103.add (((ji10)).toNat * 4)).off + 2, none⟩ = some (.slice e4 ((yac l1_4 (ji10)).f2).length e5) ∧ w'.cell? ⟨(ad103.add (((ji10)).toNat * 4)).block, (ad103.add (((ji10)).toNat * 4)).off + 3, none⟩ = some (.int .i64 ((yac l1_4 (ji10)).f3))) (ds := []) q108_0 (by kernel_rfl) rfl rfl ⟨(yaa b1.out 0).trans rfl, (yaa b1.out 1).trans rfl, (yaa b1.out 2).trans rfl, (yaa b1.out 3).trans rfl, (yaa b0.out 0).trans rfl, (yaa b0.out 1).trans rfl, (yaa b0.out 2).trans rfl, (yaa b0.out 3).trans rfl, (yaa b0.out 4).trans rfl, (yaa b0.out 5).trans rfl, (yaa b0.out 6).trans rfl, (yaa b0.out 7).trans rfl, (upc_ HB.out d8 :), (upc_ HB.out d7 :), (upc_ HB.out d6 :), (upc_ HB.out d5 :)⟩ (fun hHeld => ?_); refine with_tabW spec_l8Jobs.tab5 spec_l8Jobs.bits5 (fun HT_ HW_ => ?_)
    generalize w52.drew = w53 at b6 b0 b1 HB HR106_2 d1 d2 d3 d4 hHeld ⊢
    refine pz_ 0 19 q108_1 HT_ (by kernel_rfl) ?_
    refine pz_ 2 21 q108_2 HT_ (by kernel_rfl) ?_
    refine tz_ 1 20 q108_3 HT_ HW_ (by kernel_rfl) hHeld ?_
    refine tz_ 3 22 q108_4 HT_ HW_ (by kernel_rfl) hHeld ?_
    refine pz_ 4 23 q108_5 HT_ (by kernel_rfl) ?_
    refine one_ (i := 5) (N := some 24) q108_6 rfl rfl (one_of HT_.out (by kernel_rfl)) (by decide) (fun K hK => ?_)
    refine goes_ Try.func63 (by kernel_rfl) rfl #[.int .i64 ((yac l1_4 b2).f0), .int .i64 0, .int .i64 (wrap64 (a1_3 - 1))] (by rfl) rfl rfl (by (try simp only [List.map_toArray, List.map_cons, List.map_nil]); first | done | rfl | (simp only [List.length_drop, List.length_take]; rfl)) ?_
    with_reducible refine (spec_l1In.calls ((yac l1_4 b2).f0) 0 (wrap64 (a1_3 - 1)) true _ A7.out).mono ?_
    rintro e w' ⟨rfl, ⟨nd, rfl⟩⟩; refine ⟨_, rfl, ?_⟩
    refine hK.out _ _ ⟨(yaa b1.out 0).trans rfl, (yaa b1.out 1).trans rfl, (yaa b1.out 2).trans rfl, (yaa b1.out 3).trans rfl, (yaa b0.out 0).trans rfl, (yaa b0.out 1).trans rfl, (yaa b0.out 2).trans rfl, (yaa b0.out 3).trans rfl, (yaa b0.out 4).trans rfl, (yaa b0.out 5).trans rfl, (yaa b0.out 6).trans rfl, (yaa b0.out 7).trans rfl, (upc_ HB.out d8 :), (upc_ HB.out d7 :), (upc_ HB.out d6 :), (upc_ HB.out d5 :)⟩ (fun hHeld => ?_)
    clear hK K
    refine norm_ (a' := ?_) ?_ ?_
    rotate_left
    ·
     show Act.put _ (some 24) _ = _
     simp only [Act.put, List.setIfInBounds_toArray, List.set_cons_zero, List.set_cons_succ, i64_w, i32_w]
     rfl
    refine pz_ 6 25 q108_7 HT_ (by kernel_rfl) ?_
    refine pz_ 7 26 q108_8 HT_ (by kernel_rfl) ?_
    refine pz_ 8 27 q108_9 HT_ (by kernel_rfl) ?_
    refine pz_ 9 28 q108_10 HT_ (by kernel_rfl) ?_
    refine pz_ 10 29 q108_11 HT_ (by kernel_rfl) ?_
    refine pz_ 11 30 q108_12 HT_ (by kernel_rfl) ?_
    refine pz_ 13 32 q108_13 HT_ (by kernel_rfl) ?_
    refine pz_ 14 33 q108_14 HT_ (by kernel_rfl) ?_
    refine pz_ 18 37 q108_15 HT_ (by kernel_rfl) ?_
    refine tz_ 12 31 q108_16 HT_ HW_ (by kernel_rfl) hHeld ?_
    refine pz_ 15 34 q108_17 HT_ (by kernel_rfl) ?_
    refine pz_ 16 35 q108_18 HT_ (by kernel_rfl) ?_
    refine tz_ 17 36 q108_19 HT_ HW_ (by kernel_rfl) hHeld ?_
    refine tz_ 19 38 q108_20 HT_ HW_ (by kernel_rfl) hHeld ?_
    refine pz_ 20 39 q108_21 HT_ (by kernel_rfl) ?_
    refine pz_ 21 40 q108_22 HT_ (by kernel_rfl) ?_
    refine pz_ 22 41 q108_23 HT_ (by kernel_rfl) ?_
    refine pz_ 23 42 q108_24 HT_ (by kernel_rfl) ?_
    refine pz_ 24 43 q108_25 HT_ (by kernel_rfl) ?_
    refine tz_ 25 44 q108_26 HT_ HW_ (by kernel_rfl) hHeld ?_
    refine one_ (i := 26) (N := some 45) q108_27 rfl rfl (one_of HT_.out (by kernel_rfl)) (by decide) (fun K hK => ?_)
    refine goes_ Try.func70 (by kernel_rfl) rfl #[.string ((yac l1_4 b2).f1)] (by rfl) rfl rfl (by (try simp only [List.map_toArray, List.map_cons, List.map_nil]); first | done | rfl | (simp only [List.length_drop, List.length_take]; rfl)) ?_
    with_reducible refine (spec_l7Path.calls k1 ((yac l1_4 b2).f1) true _ A22.out).mono ?_
    rintro e w' ⟨rfl, ⟨nd, rfl⟩⟩; refine ⟨_, rfl, ?_⟩
    refine hK.out _ _ ⟨(yaa b1.out 0).trans rfl, (yaa b1.out 1).trans rfl, (yaa b1.out 2).trans rfl, (yaa b1.out 3).trans rfl, (yaa b0.out 0).trans rfl, (yaa b0.out 1).trans rfl, (yaa b0.out 2).trans rfl, (yaa b0.out 3).trans rfl, (yaa b0.out 4).trans rfl, (yaa b0.out 5).trans rfl, (yaa b0.out 6).trans rfl, (yaa b0.out 7).trans rfl, (upc_ HB.out d8 :), (upc_ HB.out d7 :), (upc_ HB.out d6 :), (upc_ HB.out d5 :)⟩ (fun hHeld => ?_)
    clear hK K
    refine norm_ (a' := ?_) ?_ ?_
    rotate_left
    ·
     show Act.put _ (some 45) _ = _
     simp only [Act.put, List.setIfInBounds_toArray, List.set_cons_zero, List.set_cons_succ, i64_w, i32_w]
     rfl
    refine pz_ 27 46 q108_28 HT_ (by kernel_rfl) ?_
    refine pz_ 28 47 q108_29 HT_ (by kernel_rfl) ?_
    refine pz_ 29 48 q108_30 HT_ (by kernel_rfl) ?_
    refine pz_ 30 49 q108_31 HT_ (by kernel_rfl) ?_
    refine tz_ 31 50 q108_32 HT_ HW_ (by kernel_rfl) hHeld ?_
    refine one_ (i := 32) (N := some 51) q108_33 rfl rfl (one_of HT_.out (by kernel_rfl)) (by decide) (fun K hK => ?_)
    refine goes_ Try.func69 (by kernel_rfl) rfl #[.slice b8 ((yac l1_4 b2).f2).length b9] (by rfl) rfl rfl (by (try simp only [List.map_toArray, List.map_cons, List.map_nil]); first | done | rfl | (simp only [List.length_drop, List.length_take]; rfl)) ?_
    with_reducible refine (spec_l6All.calls k1 _ _ ((yac l1_4 b2).f2) false _ ?side1 ?side2 A24.out).mono ?_
    (case side1 => repeat (first | exact (Kd.C_below HR103_2.out (by repeat (with_reducible first | exact HB.out | apply yaf | apply yad | apply yae | refine yag ?_ (Aside0.out ‹_›)))) | (with_reducible refine Kd.C_alloc ?_ _) | (with_reducible refine Kd.C_drewN ?_ _) | (with_reducible refine Kd.C_drew ?_)))
    (case side2 => exact HC103_2.out)
    rintro e w54 ⟨rfl, hb⟩; refine ⟨_, rfl, ?_⟩; have n0_ := yab (yai (upB b6.out) hb); have n1_ := yab (yai (upB b0.out) hb); have n2_ := yab (yai (upB b1.out) hb)
    have n3_ := yab (yam (by repeat (with_reducible first | exact HB.out | apply yaf | apply yad | apply yae | refine yag ?_ (Aside0.out ‹_›))) hb)
    clear b6; clear b0; clear b1; clear HB; have b6 := n0_; have b0 := n1_; have b1 := n2_; have HB := n3_; clear n0_ n1_ n2_ n3_; (try clear hb); (try clear hb2); (try clear hk); (try clear hi)
    refine hK.out _ _ ⟨(yaa b1.out 0).trans rfl, (yaa b1.out 1).trans rfl, (yaa b1.out 2).trans rfl, (yaa b1.out 3).trans rfl, (yaa b0.out 0).trans rfl, (yaa b0.out 1).trans rfl, (yaa b0.out 2).trans rfl, (yaa b0.out 3).trans rfl, (yaa b0.out 4).trans rfl, (yaa b0.out 5).trans rfl, (yaa b0.out 6).trans rfl, (yaa b0.out 7).trans rfl, (upc_ HB.out d8 :), (upc_ HB.out d7 :), (upc_ HB.out d6 :), (upc_ HB.out d5 :)⟩ (fun hHeld => ?_)
    clear hK K
    refine norm_ (a' := ?_) ?_ ?_
    rotate_left
    ·
     show Act.put _ (some 51) _ = _
     simp only [Act.put, List.setIfInBounds_toArray, List.set_cons_zero, List.set_cons_succ, i64_w, i32_w]
     rfl
    refine pz_ 33 52 q108_34 HT_ (by kernel_rfl) ?_
    refine pz_ 34 53 q108_35 HT_ (by kernel_rfl) ?_
    refine pz_ 35 54 q108_36 HT_ (by kernel_rfl) ?_
    refine pu_ 36 55 q108_37 HT_ (by kernel_rfl) ?_
    refine pu_ 37 56 q108_38 HT_ (by kernel_rfl) ?_
    refine pu_ 38 57 q108_39 HT_ (by kernel_rfl) ?_
    refine pu_ 39 58 q108_40 HT_ (by kernel_rfl) ?_
    refine pu_ 40 59 q108_41 HT_ (by kernel_rfl) ?_
    refine pu_ 41 60 q108_42 HT_ (by kernel_rfl) ?_
    refine pz_ 42 61 q108_43 HT_ (by kernel_rfl) ?_
    refine done_ (done_of HT_.out (by kernel_rfl)) ?_
    try go_wp2
    go_ret
    exact ⟨by first | rfl | (simp [errW_none, errW_some] <;> rfl) | (simp only [← hji10]; first | rfl | (simp [errW_none, errW_some] <;> rfl)) | (simp [*, errW_none, errW_some] <;> rfl), by repeat (with_reducible first | exact HB.out | apply yaf | apply yad | apply yae | refine yag ?_ (Aside0.out ‹_›))⟩
   subst c25
   rw [if_pos rfl] at H
   obtain ⟨f8, A26, H⟩ := bindA H; (try dsimp only at H)
   by_cases c27 : f8 = true
   ·
    subst c27
    rw [if_pos rfl] at H
    have H' := yab H; clear H; have L6 := e0.out; have L7 := d9.out; obtain ⟨p0, p1, p3, p4, p5, p6, p7, p8⟩ := cc8_ b0.out; obtain ⟨p9, q0, q1, q2, q3, q4, q5, q6⟩ := cf8_ b0.out; have p103 : 0 ≤ (b2 : Int) := of_decide_eq_true (by assumption); have q103 : b2 < (l1_4.length : Int) := of_decide_eq_true (by assumption); obtain ⟨ad103, b8, b9, e3, c0, c2, c3, c4, hl103_2, hi103_2⟩ := at_T124 HR1_4.out b2 p103 q103
    cases e3
    replace c0 := (upc_ HB.out c0 :); replace c2 := (upc_ HB.out c2 :); replace c3 := (upc_ HB.out c3 :); replace c4 := (upc_ HB.out c4 :); have HR103_2 := yab hi103_2; have HC103_2 := yab hl103_2; clear hi103_2 hl103_2; replace p103 := eq_true p103; replace q103 := eq_true q103
    try go_wp2_with (first | ((with_reducible refine gd_ 6 rfl ?_); refine bx_ 6 rfl #[.int .i64 0, .string (⟨#[]⟩ : ByteArray), .slice none 0 0, .int .i64 0] 124 ?_; intro b5 hg w30 hbox hb; have b1 := yab (hbox); have e2 := yab ((by rw [hg]; exact (below_size (by repeat (with_reducible first | exact HB.out | apply yaf | apply yad | apply yae | refine yag ?_ (Aside0.out ‹_›)))) : w.heap.size ≤ b5)); replace HB := yab (yam (by repeat (with_reducible first | exact HB.out | apply yaf | apply yad | apply yae | refine yag ?_ (Aside0.out ‹_›))) hb); have e6 := e2; have b3 := yab ((by rw [hg]; exact Nat.ne_of_lt (blk_lt (upB b6.out)) : e1 ≠ b5)); replace b6 := yab (yai (upB b6.out) hb); have c7 := yab b3.out.symm; have b4 := yab ((by rw [hg]; exact Nat.ne_of_lt (blk_lt (upB b0.out)) : b7 ≠ b5)); replace b0 := yab (yai (upB b0.out) hb); have d0 := yab b4.out.symm; clear hb hbox hg; have L8 := c7.out; have L9 := b3.out; have M0 := d0.out; have M1 := b4.out; obtain ⟨q7, q8, q9, r0⟩ := cc4_ b1.out; obtain ⟨r1, r2, r3⟩ := cf3_ b1.out; have r4 := blk_frozen b1.out 3))
    generalize hg_ : ((((w30.setCell ⟨b5, 0, none⟩ (.int .i64 ((yac l1_4 b2).f0))).setCell ⟨b5, 1, none⟩ (.string ((yac l1_4 b2).f1))).setCell ⟨b5, 2, none⟩ (.slice b8 ((yac l1_4 b2).f2).length b9)).setCell ⟨b5, 3, none⟩ (.int .i64 ((yac l1_4 b2).f3))) = w34
    replace b6 : yal (w34.heap[e1]? = some (.cells #[.slice A0_0 l0_0.length c0_0, .int .i64 a0_1, .int .i64 a0_2, .int .i64 a0_3, .int .i64 a0_4, .int .i64 a0_5, .int .i64 a0_6] 24 (0, 0))) := ⟨by subst hg_; (repeat refine oneB ?_); refine yah ?_ b3.out _; (repeat refine oneB ?_); refine yah ?_ b3.out _; (repeat refine oneB ?_); refine yah ?_ b3.out _; (repeat refine oneB ?_); refine yah ?_ b3.out _; exact upB b6.out⟩; replace b0 : yal (w34.heap[b7]? = some (.cells #[.int .i64 a1_0, .int .i64 a1_1, .int .i64 a1_2, .int .i64 a1_3, .slice (some ad103) l1_4.length c1_4, .slice A1_5 l1_5.length c1_5, .slice A1_6 l1_6.length c1_6, .slice A1_7 l1_7.length c1_7] 63 (0, 0))) := ⟨by subst hg_; (repeat refine oneB ?_); refine yah ?_ b4.out _; (repeat refine oneB ?_); refine yah ?_ b4.out _; (repeat refine oneB ?_); refine yah ?_ b4.out _; (repeat refine oneB ?_); refine yah ?_ b4.out _; exact upB b0.out⟩; replace b1 : yal (w34.heap[b5]? = some (.cells #[.int .i64 ((yac l1_4 b2).f0), .string ((yac l1_4 b2).f1), .slice b8 ((yac l1_4 b2).f2).length b9, .int .i64 ((yac l1_4 b2).f3)] 124 (0, 0))) := ⟨by subst hg_; (repeat refine oneB ?_); refine yaj (cs := #[.int .i64 ((yac l1_4 b2).f0), .string ((yac l1_4 b2).f1), .slice b8 ((yac l1_4 b2).f2).length b9, .int .i64 0]) ?_ 3 _ rfl; refine yaj (cs := #[.int .i64 ((yac l1_4 b2).f0), .string ((yac l1_4 b2).f1), .slice none 0 0, .int .i64 0]) ?_ 2 _ rfl; refine yaj (cs := #[.int .i64 ((yac l1_4 b2).f0), .string (⟨#[]⟩ : ByteArray), .slice none 0 0, .int .i64 0]) ?_ 1 _ rfl; refine yaj (cs := #[.int .i64 0, .string (⟨#[]⟩ : ByteArray), .slice none 0 0, .int .i64 0]) ?_ 0 _ rfl; exact upB b1.out⟩
    replace HB : yal (Below w.heap.size w w34) := ⟨by subst hg_; repeat (with_reducible first | exact HB.out | apply yaf | apply yad | apply yae | refine yag ?_ (Aside0.out ‹_›))⟩
    clear hg_; replace b6 := yab (yak b6.out); replace b0 := yab (yak b0.out); replace b1 := yab (yak b1.out); replace HB := yab (yae HB.out); have p106 : 0 ≤ ((ji10) : Int) := of_decide_eq_true (by assumption); have q106 : (ji10) < (l1_4.length : Int) := of_decide_eq_true (by assumption); obtain ⟨ad106, e4, e5, f5, d1, d2, d3, d4, hl106_2, hi106_2⟩ := at_T124 HR1_4.out (ji10) p106 q106; have d5 := d4; have d6 := d3; have d7 := d2; have d8 := d1; obtain rfl : ad103 = ad106 := (by injection f5); replace d1 := (upc_ HB.out d1 :); replace d2 := (upc_ HB.out d2 :); replace d3 := (upc_ HB.out d3 :); replace d4 := (upc_ HB.out d4 :); have HR106_2 := yab hi106_2; have HC106_2 := yab hl106_2; clear hi106_2 hl106_2; replace p106 := eq_true p106; replace q106 := eq_true q106
    refine start_ (n := 43) (S := fun w' => w'.cell? ⟨b5, 0, none⟩ = some (.int .i64 ((yac l1_4 b2).f0)) ∧ w'.cell? ⟨b5, 1, none⟩ = some (.string ((yac l1_4 b2).f1)) ∧ w'.cell? ⟨b5, 2, none⟩ = some (.slice b8 ((yac l1_4 b2).f2).length b9) ∧ w'.cell? ⟨b5, 3, none⟩ = some (.int .i64 ((yac l1_4 b2).f3)) ∧ w'.cell? ⟨b7, 0, none⟩ = some (.int .i64 a1_0) ∧ w'.cell? ⟨b7, 1, none⟩ = some (.int .i64 a1_1) ∧ w'.cell? ⟨b7, 2, none⟩ = some (.int .i64 a1_2) ∧ w'.cell? ⟨b7, 3, none⟩ = some (.int .i64 a1_3) ∧ w'.cell? ⟨b7, 4, none⟩ = some (.slice (some ad103) l1_4.length c1_4) ∧ w'.cell? ⟨b7, 5, none⟩ = some (.slice A1_5 l1_5.length c1_5) ∧ w'.cell? ⟨b7, 6, none⟩ = some (.slice A1_6 l1_6.length c1_6) ∧ w'.cell? ⟨b7, 7, none⟩ = some (.slice A1_7 l1_7.length c1_7) ∧ w'.cell? (ad103.add (((ji10)).toNat * 4)) = some (.int .i64 ((yac l1_4 (ji10)).f0)) ∧ w'.cell? ⟨(ad103.add (((ji10)).toNat * 4)).block, (ad103.add (((ji10)).toNat * 4)).off + 1, none⟩ = some (.string ((yac l1_4 (ji10)).f1)) ∧ w'.cell? ⟨(ad103.add (((ji10)).toNat * 4)).block, (ad103.add (((ji10)).toNat * 4)).off + 2, none⟩ = some (.slice e4 ((yac l1_4 (ji10)).f2).length e5) ∧ w'.cell? ⟨(ad103.add (((ji10)).toNat * 4)).block, (ad103.add (((ji10)).toNat * 4)).off + 3, none⟩ = some (.int .i64 ((yac l1_4 (ji10)).f3))) (ds := []) q108_0 (by kernel_rfl) rfl rfl ⟨(yaa b1.out 0).trans rfl, (yaa b1.out 1).trans rfl, (yaa b1.out 2).trans rfl, (yaa b1.out 3).trans rfl, (yaa b0.out 0).trans rfl, (yaa b0.out 1).trans rfl, (yaa b0.out 2).trans rfl, (yaa b0.out 3).trans rfl, (yaa b0.out 4).trans rfl, (yaa b0.out 5).trans rfl, (yaa b0.out 6).trans rfl, (yaa b0.out 7).trans rfl, (upc_ HB.out d8 :), (upc_ HB.out d7 :), (upc_ HB.out d6 :), (upc_ HB.out d5 :)⟩ (fun hHeld => ?_); refine with_tabW spec_l8Jobs.tab5 spec_l8Jobs.bits5 (fun HT_ HW_ => ?_)
    generalize w34.drew = w35 at b6 b0 b1 HB HR106_2 d1 d2 d3 d4 hHeld ⊢
    refine pz_ 0 19 q108_1 HT_ (by kernel_rfl) ?_
    refine pz_ 2 21 q108_2 HT_ (by kernel_rfl) ?_
    refine tz_ 1 20 q108_3 HT_ HW_ (by kernel_rfl) hHeld ?_
    refine tz_ 3 22 q108_4 HT_ HW_ (by kernel_rfl) hHeld ?_
    refine pz_ 4 23 q108_5 HT_ (by kernel_rfl) ?_
    refine one_ (i := 5) (N := some 24) q108_6 rfl rfl (one_of HT_.out (by kernel_rfl)) (by decide) (fun K hK => ?_)
    refine goes_ Try.func63 (by kernel_rfl) rfl #[.int .i64 ((yac l1_4 b2).f0), .int .i64 0, .int .i64 (wrap64 (a1_3 - 1))] (by rfl) rfl rfl (by (try simp only [List.map_toArray, List.map_cons, List.map_nil]); first | done | rfl | (simp only [List.length_drop, List.length_take]; rfl)) ?_
    with_reducible refine (spec_l1In.calls ((yac l1_4 b2).f0) 0 (wrap64 (a1_3 - 1)) true _ A7.out).mono ?_
    rintro e w' ⟨rfl, ⟨nd, rfl⟩⟩; refine ⟨_, rfl, ?_⟩
    refine hK.out _ _ ⟨(yaa b1.out 0).trans rfl, (yaa b1.out 1).trans rfl, (yaa b1.out 2).trans rfl, (yaa b1.out 3).trans rfl, (yaa b0.out 0).trans rfl, (yaa b0.out 1).trans rfl, (yaa b0.out 2).trans rfl, (yaa b0.out 3).trans rfl, (yaa b0.out 4).trans rfl, (yaa b0.out 5).trans rfl, (yaa b0.out 6).trans rfl, (yaa b0.out 7).trans rfl, (upc_ HB.out d8 :), (upc_ HB.out d7 :), (upc_ HB.out d6 :), (upc_ HB.out d5 :)⟩ (fun hHeld => ?_)
    clear hK K
    refine norm_ (a' := ?_) ?_ ?_
    rotate_left
    ·
     show Act.put _ (some 24) _ = _
     simp only [Act.put, List.setIfInBounds_toArray, List.set_cons_zero, List.set_cons_succ, i64_w, i32_w]
     rfl
    refine pz_ 6 25 q108_7 HT_ (by kernel_rfl) ?_
    refine pz_ 7 26 q108_8 HT_ (by kernel_rfl) ?_
    refine pz_ 8 27 q108_9 HT_ (by kernel_rfl) ?_
    refine pz_ 9 28 q108_10 HT_ (by kernel_rfl) ?_
    refine pz_ 10 29 q108_11 HT_ (by kernel_rfl) ?_
    refine pz_ 11 30 q108_12 HT_ (by kernel_rfl) ?_
    refine pz_ 13 32 q108_13 HT_ (by kernel_rfl) ?_
    refine pz_ 14 33 q108_14 HT_ (by kernel_rfl) ?_
    refine pz_ 18 37 q108_15 HT_ (by kernel_rfl) ?_
    refine tz_ 12 31 q108_16 HT_ HW_ (by kernel_rfl) hHeld ?_
    refine pz_ 15 34 q108_17 HT_ (by kernel_rfl) ?_
    refine pz_ 16 35 q108_18 HT_ (by kernel_rfl) ?_
    refine tz_ 17 36 q108_19 HT_ HW_ (by kernel_rfl) hHeld ?_
    refine tz_ 19 38 q108_20 HT_ HW_ (by kernel_rfl) hHeld ?_
    refine pz_ 20 39 q108_21 HT_ (by kernel_rfl) ?_
    refine pz_ 21 40 q108_22 HT_ (by kernel_rfl) ?_
    refine pz_ 22 41 q108_23 HT_ (by kernel_rfl) ?_
    refine pz_ 23 42 q108_24 HT_ (by kernel_rfl) ?_
    refine pz_ 24 43 q108_25 HT_ (by kernel_rfl) ?_
    refine tz_ 25 44 q108_26 HT_ HW_ (by kernel_rfl) hHeld ?_
    refine one_ (i := 26) (N := some 45) q108_27 rfl rfl (one_of HT_.out (by kernel_rfl)) (by decide) (fun K hK => ?_)
    refine goes_ Try.func70 (by kernel_rfl) rfl #[.string ((yac l1_4 b2).f1)] (by rfl) rfl rfl (by (try simp only [List.map_toArray, List.map_cons, List.map_nil]); first | done | rfl | (simp only [List.length_drop, List.length_take]; rfl)) ?_
    with_reducible refine (spec_l7Path.calls k1 ((yac l1_4 b2).f1) true _ A22.out).mono ?_
    rintro e w' ⟨rfl, ⟨nd, rfl⟩⟩; refine ⟨_, rfl, ?_⟩
    refine hK.out _ _ ⟨(yaa b1.out 0).trans rfl, (yaa b1.out 1).trans rfl, (yaa b1.out 2).trans rfl, (yaa b1.out 3).trans rfl, (yaa b0.out 0).trans rfl, (yaa b0.out 1).trans rfl, (yaa b0.out 2).trans rfl, (yaa b0.out 3).trans rfl, (yaa b0.out 4).trans rfl, (yaa b0.out 5).trans rfl, (yaa b0.out 6).trans rfl, (yaa b0.out 7).trans rfl, (upc_ HB.out d8 :), (upc_ HB.out d7 :), (upc_ HB.out d6 :), (upc_ HB.out d5 :)⟩ (fun hHeld => ?_)
    clear hK K
    refine norm_ (a' := ?_) ?_ ?_
    rotate_left
    ·
     show Act.put _ (some 45) _ = _
     simp only [Act.put, List.setIfInBounds_toArray, List.set_cons_zero, List.set_cons_succ, i64_w, i32_w]
     rfl
    refine pz_ 27 46 q108_28 HT_ (by kernel_rfl) ?_
    refine pz_ 28 47 q108_29 HT_ (by kernel_rfl) ?_
    refine pz_ 29 48 q108_30 HT_ (by kernel_rfl) ?_
    refine pz_ 30 49 q108_31 HT_ (by kernel_rfl) ?_
    refine tz_ 31 50 q108_32 HT_ HW_ (by kernel_rfl) hHeld ?_
    refine one_ (i := 32) (N := some 51) q108_33 rfl rfl (one_of HT_.out (by kernel_rfl)) (by decide) (fun K hK => ?_)
    refine goes_ Try.func69 (by kernel_rfl) rfl #[.slice b8 ((yac l1_4 b2).f2).length b9] (by rfl) rfl rfl (by (try simp only [List.map_toArray, List.map_cons, List.map_nil]); first | done | rfl | (simp only [List.length_drop, List.length_take]; rfl)) ?_
    with_reducible refine (spec_l6All.calls k1 _ _ ((yac l1_4 b2).f2) true _ ?side1 ?side2 A24.out).mono ?_
    (case side1 => repeat (first | exact (Kd.C_below HR103_2.out (by repeat (with_reducible first | exact HB.out | apply yaf | apply yad | apply yae | refine yag ?_ (Aside0.out ‹_›)))) | (with_reducible refine Kd.C_alloc ?_ _) | (with_reducible refine Kd.C_drewN ?_ _) | (with_reducible refine Kd.C_drew ?_)))
    (case side2 => exact HC103_2.out)
    rintro e w36 ⟨rfl, hb⟩; refine ⟨_, rfl, ?_⟩; have n0_ := yab (yai (upB b6.out) hb); have n1_ := yab (yai (upB b0.out) hb); have n2_ := yab (yai (upB b1.out) hb)
    have n3_ := yab (yam (by repeat (with_reducible first | exact HB.out | apply yaf | apply yad | apply yae | refine yag ?_ (Aside0.out ‹_›))) hb)
    clear b6; clear b0; clear b1; clear HB; have b6 := n0_; have b0 := n1_; have b1 := n2_; have HB := n3_; clear n0_ n1_ n2_ n3_; (try clear hb); (try clear hb2); (try clear hk); (try clear hi)
    refine hK.out _ _ ⟨(yaa b1.out 0).trans rfl, (yaa b1.out 1).trans rfl, (yaa b1.out 2).trans rfl, (yaa b1.out 3).trans rfl, (yaa b0.out 0).trans rfl, (yaa b0.out 1).trans rfl, (yaa b0.out 2).trans rfl, (yaa b0.out 3).trans rfl, (yaa b0.out 4).trans rfl, (yaa b0.out 5).trans rfl, (yaa b0.out 6).trans rfl, (yaa b0.out 7).trans rfl, (upc_ HB.out d8 :), (upc_ HB.out d7 :), (upc_ HB.out d6 :), (upc_ HB.out d5 :)⟩ (fun hHeld => ?_)
    clear hK K
    refine norm_ (a' := ?_) ?_ ?_
    rotate_left
    ·
     show Act.put _ (some 51) _ = _
     simp only [Act.put, List.setIfInBounds_toArray, List.set_cons_zero, List.set_cons_succ, i64_w, i32_w]
     rfl
    refine pz_ 33 52 q108_34 HT_ (by kernel_rfl) ?_
    refine pz_ 34 53 q108_35 HT_ (by kernel_rfl) ?_
    refine pz_ 35 54 q108_36 HT_ (by kernel_rfl) ?_
    refine pz_ 36 55 q108_37 HT_ (by kernel_rfl) ?_
    refine pz_ 38 57 q108_44 HT_ (by kernel_rfl) ?_
    refine tz_ 37 56 q108_39 HT_ HW_ (by kernel_rfl) hHeld ?_
    refine tz_ 39 58 q108_40 HT_ HW_ (by kernel_rfl) hHeld ?_
    refine one_ (i := 40) (N := some 59) q108_41 rfl rfl (one_of HT_.out (by kernel_rfl)) (by decide) (fun K hK => ?_)
    refine goes_ Try.func63 (by kernel_rfl) rfl #[.int .i64 ((yac l1_4 b2).f3), .int .i64 0, .int .i64 a1_0] (by rfl) rfl rfl (by (try simp only [List.map_toArray, List.map_cons, List.map_nil]); first | done | rfl | (simp only [List.length_drop, List.length_take]; rfl)) ?_
    with_reducible refine (spec_l1In.calls ((yac l1_4 b2).f3) 0 a1_0 true _ A26.out).mono ?_
    rintro e w' ⟨rfl, ⟨nd, rfl⟩⟩; refine ⟨_, rfl, ?_⟩
    refine hK.out _ _ ⟨(yaa b1.out 0).trans rfl, (yaa b1.out 1).trans rfl, (yaa b1.out 2).trans rfl, (yaa b1.out 3).trans rfl, (yaa b0.out 0).trans rfl, (yaa b0.out 1).trans rfl, (yaa b0.out 2).trans rfl, (yaa b0.out 3).trans rfl, (yaa b0.out 4).trans rfl, (yaa b0.out 5).trans rfl, (yaa b0.out 6).trans rfl, (yaa b0.out 7).trans rfl, (upc_ HB.out d8 :), (upc_ HB.out d7 :), (upc_ HB.out d6 :), (upc_ HB.out d5 :)⟩ (fun hHeld => ?_)
    clear hK K
    refine norm_ (a' := ?_) ?_ ?_
    rotate_left
    ·
     show Act.put _ (some 59) _ = _
     simp only [Act.put, List.setIfInBounds_toArray, List.set_cons_zero, List.set_cons_succ, i64_w, i32_w]
     rfl
    refine pz_ 41 60 q108_42 HT_ (by kernel_rfl) ?_
    refine pz_ 42 61 q108_43 HT_ (by kernel_rfl) ?_
    refine done_ (done_of HT_.out (by kernel_rfl)) ?_
    try go_wp2
    go_roundg k1
    case measure => have := HK1.out; omega
    case rel => exact ⟨(wrap64 (b2 + 1)), (by first | rfl | (simp; done) | (simp [*]; done)), H', ⟨by have := HK1.out; omega⟩, ⟨by exact upB b6.out⟩, ⟨by exact upB b0.out⟩, ⟨by repeat (with_reducible first | exact HB.out | apply yaf | apply yad | apply yae | refine yag ?_ (Aside0.out ‹_›))⟩⟩
   replace c27 := Bool.eq_false_iff.mpr c27
   subst c27
   rw [if_neg (show ¬ (false = true) by decide)] at H
   obtain rfl := Option.some.inj H; have M2 := e0.out; have M3 := d9.out; obtain ⟨r5, r6, r7, r8, r9, s0, s1, s2⟩ := cc8_ b0.out; obtain ⟨s3, s4, s5, s6, s7, s8, s9, t0⟩ := cf8_ b0.out; have p103 : 0 ≤ (b2 : Int) := of_decide_eq_true (by assumption); have q103 : b2 < (l1_4.length : Int) := of_decide_eq_true (by assumption); obtain ⟨ad103, b8, b9, e3, c0, c2, c3, c4, hl103_2, hi103_2⟩ := at_T124 HR1_4.out b2 p103 q103
   cases e3
   replace c0 := (upc_ HB.out c0 :); replace c2 := (upc_ HB.out c2 :); replace c3 := (upc_ HB.out c3 :); replace c4 := (upc_ HB.out c4 :); have HR103_2 := yab hi103_2; have HC103_2 := yab hl103_2; clear hi103_2 hl103_2; replace p103 := eq_true p103; replace q103 := eq_true q103
   try go_wp2_with (first | ((with_reducible refine gd_ 6 rfl ?_); refine bx_ 6 rfl #[.int .i64 0, .string (⟨#[]⟩ : ByteArray), .slice none 0 0, .int .i64 0] 124 ?_; intro b5 hg w39 hbox hb; have b1 := yab (hbox); have e2 := yab ((by rw [hg]; exact (below_size (by repeat (with_reducible first | exact HB.out | apply yaf | apply yad | apply yae | refine yag ?_ (Aside0.out ‹_›)))) : w.heap.size ≤ b5)); replace HB := yab (yam (by repeat (with_reducible first | exact HB.out | apply yaf | apply yad | apply yae | refine yag ?_ (Aside0.out ‹_›))) hb); have e6 := e2; have b3 := yab ((by rw [hg]; exact Nat.ne_of_lt (blk_lt (upB b6.out)) : e1 ≠ b5)); replace b6 := yab (yai (upB b6.out) hb); have c7 := yab b3.out.symm; have b4 := yab ((by rw [hg]; exact Nat.ne_of_lt (blk_lt (upB b0.out)) : b7 ≠ b5)); replace b0 := yab (yai (upB b0.out) hb); have d0 := yab b4.out.symm; clear hb hbox hg; have M4 := c7.out; have M5 := b3.out; have M6 := d0.out; have M7 := b4.out; obtain ⟨t1, t2, t3, t4⟩ := cc4_ b1.out; obtain ⟨t5, t6, t7⟩ := cf3_ b1.out; have t8 := blk_frozen b1.out 3))
   generalize hg_ : ((((w39.setCell ⟨b5, 0, none⟩ (.int .i64 ((yac l1_4 b2).f0))).setCell ⟨b5, 1, none⟩ (.string ((yac l1_4 b2).f1))).setCell ⟨b5, 2, none⟩ (.slice b8 ((yac l1_4 b2).f2).length b9)).setCell ⟨b5, 3, none⟩ (.int .i64 ((yac l1_4 b2).f3))) = w43
   replace b6 : yal (w43.heap[e1]? = some (.cells #[.slice A0_0 l0_0.length c0_0, .int .i64 a0_1, .int .i64 a0_2, .int .i64 a0_3, .int .i64 a0_4, .int .i64 a0_5, .int .i64 a0_6] 24 (0, 0))) := ⟨by subst hg_; (repeat refine oneB ?_); refine yah ?_ b3.out _; (repeat refine oneB ?_); refine yah ?_ b3.out _; (repeat refine oneB ?_); refine yah ?_ b3.out _; (repeat refine oneB ?_); refine yah ?_ b3.out _; exact upB b6.out⟩; replace b0 : yal (w43.heap[b7]? = some (.cells #[.int .i64 a1_0, .int .i64 a1_1, .int .i64 a1_2, .int .i64 a1_3, .slice (some ad103) l1_4.length c1_4, .slice A1_5 l1_5.length c1_5, .slice A1_6 l1_6.length c1_6, .slice A1_7 l1_7.length c1_7] 63 (0, 0))) := ⟨by subst hg_; (repeat refine oneB ?_); refine yah ?_ b4.out _; (repeat refine oneB ?_); refine yah ?_ b4.out _; (repeat refine oneB ?_); refine yah ?_ b4.out _; (repeat refine oneB ?_); refine yah ?_ b4.out _; exact upB b0.out⟩; replace b1 : yal (w43.heap[b5]? = some (.cells #[.int .i64 ((yac l1_4 b2).f0), .string ((yac l1_4 b2).f1), .slice b8 ((yac l1_4 b2).f2).length b9, .int .i64 ((yac l1_4 b2).f3)] 124 (0, 0))) := ⟨by subst hg_; (repeat refine oneB ?_); refine yaj (cs := #[.int .i64 ((yac l1_4 b2).f0), .string ((yac l1_4 b2).f1), .slice b8 ((yac l1_4 b2).f2).length b9, .int .i64 0]) ?_ 3 _ rfl; refine yaj (cs := #[.int .i64 ((yac l1_4 b2).f0), .string ((yac l1_4 b2).f1), .slice none 0 0, .int .i64 0]) ?_ 2 _ rfl; refine yaj (cs := #[.int .i64 ((yac l1_4 b2).f0), .string (⟨#[]⟩ : ByteArray), .slice none 0 0, .int .i64 0]) ?_ 1 _ rfl; refine yaj (cs := #[.int .i64 0, .string (⟨#[]⟩ : ByteArray), .slice none 0 0, .int .i64 0]) ?_ 0 _ rfl; exact upB b1.out⟩
   replace HB : yal (Below w.heap.size w w43) := ⟨by subst hg_; repeat (with_reducible first | exact HB.out | apply yaf | apply yad | apply yae | refine yag ?_ (Aside0.out ‹_›))⟩
   clear hg_; replace b6 := yab (yak b6.out); replace b0 := yab (yak b0.out); replace b1 := yab (yak b1.out); replace HB := yab (yae HB.out); have p106 : 0 ≤ ((ji10) : Int) := of_decide_eq_true (by assumption); have q106 : (ji10) < (l1_4.length : Int) := of_decide_eq_true (by assumption); obtain ⟨ad106, e4, e5, f5, d1, d2, d3, d4, hl106_2, hi106_2⟩ := at_T124 HR1_4.out (ji10) p106 q106; have d5 := d4; have d6 := d3; have d7 := d2; have d8 := d1; obtain rfl : ad103 = ad106 := (by injection f5); replace d1 := (upc_ HB.out d1 :); replace d2 := (upc_ HB.out d2 :); replace d3 := (upc_ HB.out d3 :); replace d4 := (upc_ HB.out d4 :); have HR106_2 := yab hi106_2; have HC106_2 := yab hl106_2; clear hi106_2 hl106_2; replace p106 := eq_true p106; replace q106 := eq_true q106
   refine start_ (n := 43) (S := fun w' => w'.cell? ⟨b5, 0, none⟩ = some (.int .i64 ((yac l1_4 b2).f0)) ∧ w'.cell? ⟨b5, 1, none⟩ = some (.string ((yac l1_4 b2).f1)) ∧ w'.cell? ⟨b5, 2, none⟩ = some (.slice b8 ((yac l1_4 b2).f2).length b9) ∧ w'.cell? ⟨b5, 3, none⟩ = some (.int .i64 ((yac l1_4 b2).f3)) ∧ w'.cell? ⟨b7, 0, none⟩ = some (.int .i64 a1_0) ∧ w'.cell? ⟨b7, 1, none⟩ = some (.int .i64 a1_1) ∧ w'.cell? ⟨b7, 2, none⟩ = some (.int .i64 a1_2) ∧ w'.cell? ⟨b7, 3, none⟩ = some (.int .i64 a1_3) ∧ w'.cell? ⟨b7, 4, none⟩ = some (.slice (some ad103) l1_4.length c1_4) ∧ w'.cell? ⟨b7, 5, none⟩ = some (.slice A1_5 l1_5.length c1_5) ∧ w'.cell? ⟨b7, 6, none⟩ = some (.slice A1_6 l1_6.length c1_6) ∧ w'.cell? ⟨b7, 7, none⟩ = some (.slice A1_7 l1_7.length c1_7) ∧ w'.cell? (ad103.add (((ji10)).toNat * 4)) = some (.int .i64 ((yac l1_4 (ji10)).f0)) ∧ w'.cell? ⟨(ad103.add (((ji10)).toNat * 4)).block, (ad103.add (((ji10)).toNat * 4)).off + 1, none⟩ = some (.string ((yac l1_4 (ji10)).f1)) ∧ w'.cell? ⟨(ad103.add (((ji10)).toNat * 4)).block, (ad103.add (((ji10)).toNat * 4)).off + 2, none⟩ = some (.slice e4 ((yac l1_4 (ji10)).f2).length e5) ∧ w'.cell? ⟨(ad103.add (((ji10)).toNat * 4)).block, (ad103.add (((ji10)).toNat * 4)).off + 3, none⟩ = some (.int .i64 ((yac l1_4 (ji10)).f3))) (ds := []) q108_0 (by kernel_rfl) rfl rfl ⟨(yaa b1.out 0).trans rfl, (yaa b1.out 1).trans rfl, (yaa b1.out 2).trans rfl, (yaa b1.out 3).trans rfl, (yaa b0.out 0).trans rfl, (yaa b0.out 1).trans rfl, (yaa b0.out 2).trans rfl, (yaa b0.out 3).trans rfl, (yaa b0.out 4).trans rfl, (yaa b0.out 5).trans rfl, (yaa b0.out 6).trans rfl, (yaa b0.out 7).trans rfl, (upc_ HB.out d8 :), (upc_ HB.out d7 :), (upc_ HB.out d6 :), (upc_ HB.out d5 :)⟩ (fun hHeld => ?_); refine with_tabW spec_l8Jobs.tab5 spec_l8Jobs.bits5 (fun HT_ HW_ => ?_)
   generalize w43.drew = w44 at b6 b0 b1 HB HR106_2 d1 d2 d3 d4 hHeld ⊢
   refine pz_ 0 19 q108_1 HT_ (by kernel_rfl) ?_
   refine pz_ 2 21 q108_2 HT_ (by kernel_rfl) ?_
   refine tz_ 1 20 q108_3 HT_ HW_ (by kernel_rfl) hHeld ?_
   refine tz_ 3 22 q108_4 HT_ HW_ (by kernel_rfl) hHeld ?_
   refine pz_ 4 23 q108_5 HT_ (by kernel_rfl) ?_
   refine one_ (i := 5) (N := some 24) q108_6 rfl rfl (one_of HT_.out (by kernel_rfl)) (by decide) (fun K hK => ?_)
   refine goes_ Try.func63 (by kernel_rfl) rfl #[.int .i64 ((yac l1_4 b2).f0), .int .i64 0, .int .i64 (wrap64 (a1_3 - 1))] (by rfl) rfl rfl (by (try simp only [List.map_toArray, List.map_cons, List.map_nil]); first | done | rfl | (simp only [List.length_drop, List.length_take]; rfl)) ?_
   with_reducible refine (spec_l1In.calls ((yac l1_4 b2).f0) 0 (wrap64 (a1_3 - 1)) true _ A7.out).mono ?_
   rintro e w' ⟨rfl, ⟨nd, rfl⟩⟩; refine ⟨_, rfl, ?_⟩
   refine hK.out _ _ ⟨(yaa b1.out 0).trans rfl, (yaa b1.out 1).trans rfl, (yaa b1.out 2).trans rfl, (yaa b1.out 3).trans rfl, (yaa b0.out 0).trans rfl, (yaa b0.out 1).trans rfl, (yaa b0.out 2).trans rfl, (yaa b0.out 3).trans rfl, (yaa b0.out 4).trans rfl, (yaa b0.out 5).trans rfl, (yaa b0.out 6).trans rfl, (yaa b0.out 7).trans rfl, (upc_ HB.out d8 :), (upc_ HB.out d7 :), (upc_ HB.out d6 :), (upc_ HB.out d5 :)⟩ (fun hHeld => ?_)
   clear hK K
   refine norm_ (a' := ?_) ?_ ?_
   rotate_left
   ·
    show Act.put _ (some 24) _ = _
    simp only [Act.put, List.setIfInBounds_toArray, List.set_cons_zero, List.set_cons_succ, i64_w, i32_w]
    rfl
   refine pz_ 6 25 q108_7 HT_ (by kernel_rfl) ?_
   refine pz_ 7 26 q108_8 HT_ (by kernel_rfl) ?_
   refine pz_ 8 27 q108_9 HT_ (by kernel_rfl) ?_
   refine pz_ 9 28 q108_10 HT_ (by kernel_rfl) ?_
   refine pz_ 10 29 q108_11 HT_ (by kernel_rfl) ?_
   refine pz_ 11 30 q108_12 HT_ (by kernel_rfl) ?_
   refine pz_ 13 32 q108_13 HT_ (by kernel_rfl) ?_
   refine pz_ 14 33 q108_14 HT_ (by kernel_rfl) ?_
   refine pz_ 18 37 q108_15 HT_ (by kernel_rfl) ?_
   refine tz_ 12 31 q108_16 HT_ HW_ (by kernel_rfl) hHeld ?_
   refine pz_ 15 34 q108_17 HT_ (by kernel_rfl) ?_
   refine pz_ 16 35 q108_18 HT_ (by kernel_rfl) ?_
   refine tz_ 17 36 q108_19 HT_ HW_ (by kernel_rfl) hHeld ?_
   refine tz_ 19 38 q108_20 HT_ HW_ (by kernel_rfl) hHeld ?_
   refine pz_ 20 39 q108_21 HT_ (by kernel_rfl) ?_
   refine pz_ 21 40 q108_22 HT_ (by kernel_rfl) ?_
   refine pz_ 22 41 q108_23 HT_ (by kernel_rfl) ?_
   refine pz_ 23 42 q108_24 HT_ (by kernel_rfl) ?_
   refine pz_ 24 43 q108_25 HT_ (by kernel_rfl) ?_
   refine tz_ 25 44 q108_26 HT_ HW_ (by kernel_rfl) hHeld ?_
   refine one_ (i := 26) (N := some 45) q108_27 rfl rfl (one_of HT_.out (by kernel_rfl)) (by decide) (fun K hK => ?_)
   refine goes_ Try.func70 (by kernel_rfl) rfl #[.string ((yac l1_4 b2).f1)] (by rfl) rfl rfl (by (try simp only [List.map_toArray, List.map_cons, List.map_nil]); first | done | rfl | (simp only [List.length_drop, List.length_take]; rfl)) ?_
   with_reducible refine (spec_l7Path.calls k1 ((yac l1_4 b2).f1) true _ A22.out).mono ?_
   rintro e w' ⟨rfl, ⟨nd, rfl⟩⟩; refine ⟨_, rfl, ?_⟩
   refine hK.out _ _ ⟨(yaa b1.out 0).trans rfl, (yaa b1.out 1).trans rfl, (yaa b1.out 2).trans rfl, (yaa b1.out 3).trans rfl, (yaa b0.out 0).trans rfl, (yaa b0.out 1).trans rfl, (yaa b0.out 2).trans rfl, (yaa b0.out 3).trans rfl, (yaa b0.out 4).trans rfl, (yaa b0.out 5).trans rfl, (yaa b0.out 6).trans rfl, (yaa b0.out 7).trans rfl, (upc_ HB.out d8 :), (upc_ HB.out d7 :), (upc_ HB.out d6 :), (upc_ HB.out d5 :)⟩ (fun hHeld => ?_)
   clear hK K
   refine norm_ (a' := ?_) ?_ ?_
   rotate_left
   ·
    show Act.put _ (some 45) _ = _
    simp only [Act.put, List.setIfInBounds_toArray, List.set_cons_zero, List.set_cons_succ, i64_w, i32_w]
    rfl
   refine pz_ 27 46 q108_28 HT_ (by kernel_rfl) ?_
   refine pz_ 28 47 q108_29 HT_ (by kernel_rfl) ?_
   refine pz_ 29 48 q108_30 HT_ (by kernel_rfl) ?_
   refine pz_ 30 49 q108_31 HT_ (by kernel_rfl) ?_
   refine tz_ 31 50 q108_32 HT_ HW_ (by kernel_rfl) hHeld ?_
   refine one_ (i := 32) (N := some 51) q108_33 rfl rfl (one_of HT_.out (by kernel_rfl)) (by decide) (fun K hK => ?_)
   refine goes_ Try.func69 (by kernel_rfl) rfl #[.slice b8 ((yac l1_4 b2).f2).length b9] (by rfl) rfl rfl (by (try simp only [List.map_toArray, List.map_cons, List.map_nil]); first | done | rfl | (simp only [List.length_drop, List.length_take]; rfl)) ?_
   with_reducible refine (spec_l6All.calls k1 _ _ ((yac l1_4 b2).f2) true _ ?side1 ?side2 A24.out).mono ?_
   (case side1 => repeat (first | exact (Kd.C_below HR103_2.out (by repeat (with_reducible first | exact HB.out | apply yaf | apply yad | apply yae | refine yag ?_ (Aside0.out ‹_›)))) | (with_reducible refine Kd.C_alloc ?_ _) | (with_reducible refine Kd.C_drewN ?_ _) | (with_reducible refine Kd.C_drew ?_)))
   (case side2 => exact HC103_2.out)
   rintro e w45 ⟨rfl, hb⟩; refine ⟨_, rfl, ?_⟩; have n0_ := yab (yai (upB b6.out) hb); have n1_ := yab (yai (upB b0.out) hb); have n2_ := yab (yai (upB b1.out) hb)
   have n3_ := yab (yam (by repeat (with_reducible first | exact HB.out | apply yaf | apply yad | apply yae | refine yag ?_ (Aside0.out ‹_›))) hb)
   clear b6; clear b0; clear b1; clear HB; have b6 := n0_; have b0 := n1_; have b1 := n2_; have HB := n3_; clear n0_ n1_ n2_ n3_; (try clear hb); (try clear hb2); (try clear hk); (try clear hi)
   refine hK.out _ _ ⟨(yaa b1.out 0).trans rfl, (yaa b1.out 1).trans rfl, (yaa b1.out 2).trans rfl, (yaa b1.out 3).trans rfl, (yaa b0.out 0).trans rfl, (yaa b0.out 1).trans rfl, (yaa b0.out 2).trans rfl, (yaa b0.out 3).trans rfl, (yaa b0.out 4).trans rfl, (yaa b0.out 5).trans rfl, (yaa b0.out 6).trans rfl, (yaa b0.out 7).trans rfl, (upc_ HB.out d8 :), (upc_ HB.out d7 :), (upc_ HB.out d6 :), (upc_ HB.out d5 :)⟩ (fun hHeld => ?_)
   clear hK K
   refine norm_ (a' := ?_) ?_ ?_
   rotate_left
   ·
    show Act.put _ (some 51) _ = _
    simp only [Act.put, List.setIfInBounds_toArray, List.set_cons_zero, List.set_cons_succ, i64_w, i32_w]
    rfl
   refine pz_ 33 52 q108_34 HT_ (by kernel_rfl) ?_
   refine pz_ 34 53 q108_35 HT_ (by kernel_rfl) ?_
   refine pz_ 35 54 q108_36 HT_ (by kernel_rfl) ?_
   refine pz_ 36 55 q108_37 HT_ (by kernel_rfl) ?_
   refine pz_ 38 57 q108_44 HT_ (by kernel_rfl) ?_
   refine tz_ 37 56 q108_39 HT_ HW_ (by kernel_rfl) hHeld ?_
   refine tz_ 39 58 q108_40 HT_ HW_ (by kernel_rfl) hHeld ?_
   refine one_ (i := 40) (N := some 59) q108_41 rfl rfl (one_of HT_.out (by kernel_rfl)) (by decide) (fun K hK => ?_)
   refine goes_ Try.func63 (by kernel_rfl) rfl #[.int .i64 ((yac l1_4 b2).f3), .int .i64 0, .int .i64 a1_0] (by rfl) rfl rfl (by (try simp only [List.map_toArray, List.map_cons, List.map_nil]); first | done | rfl | (simp only [List.length_drop, List.length_take]; rfl)) ?_
   with_reducible refine (spec_l1In.calls ((yac l1_4 b2).f3) 0 a1_0 false _ A26.out).mono ?_
   rintro e w' ⟨rfl, ⟨nd, rfl⟩⟩; refine ⟨_, rfl, ?_⟩
   refine hK.out _ _ ⟨(yaa b1.out 0).trans rfl, (yaa b1.out 1).trans rfl, (yaa b1.out 2).trans rfl, (yaa b1.out 3).trans rfl, (yaa b0.out 0).trans rfl, (yaa b0.out 1).trans rfl, (yaa b0.out 2).trans rfl, (yaa b0.out 3).trans rfl, (yaa b0.out 4).trans rfl, (yaa b0.out 5).trans rfl, (yaa b0.out 6).trans rfl, (yaa b0.out 7).trans rfl, (upc_ HB.out d8 :), (upc_ HB.out d7 :), (upc_ HB.out d6 :), (upc_ HB.out d5 :)⟩ (fun hHeld => ?_)
   clear hK K
   refine norm_ (a' := ?_) ?_ ?_
   rotate_left
   ·
    show Act.put _ (some 59) _ = _
    simp only [Act.put, List.setIfInBounds_toArray, List.set_cons_zero, List.set_cons_succ, i64_w, i32_w]
    rfl
   refine pz_ 41 60 q108_42 HT_ (by kernel_rfl) ?_
   refine pz_ 42 61 q108_43 HT_ (by kernel_rfl) ?_
   refine done_ (done_of HT_.out (by kernel_rfl)) ?_
   try go_wp2
   go_ret
   exact ⟨by first | rfl | (simp [errW_none, errW_some] <;> rfl) | (simp only [← hji10]; first | rfl | (simp [errW_none, errW_some] <;> rfl)) | (simp [*, errW_none, errW_some] <;> rfl), by repeat (with_reducible first | exact HB.out | apply yaf | apply yad | apply yae | refine yag ?_ (Aside0.out ‹_›))⟩
end
section
def spec_l8Kept.l0 : Nat → List (S156) → ByteArray → Int → Option (Int)
  | 0, _, _, _ => none
  | k + 1, x0, x1, x5 => if x5 < (x0.length : Int) then (if 0 ≤ x5 then (if ((rd_T156 x0 x5).f0).toList = x1.toList then (some x5) else (spec_l8Kept.l0 k x0 x1 (wrap64 (x5 + 1)))) else (none)) else (some (-1))
def spec_l8Kept.f (k : Nat) (l0 : List (S156)) (a1 : ByteArray) : Option (Int) := spec_l8Kept.l0 k l0 a1 0
set_option maxHeartbeats 8000000 in
set_option maxRecDepth 100000 in
theorem spec_l8Kept.calls (k : Nat) (A0 : Option Addr) (c0 : Nat) (l0 : List (S156)) (a1 : ByteArray) (r : Int) (w : World) (hr0 : Kd.C k156 w A0 l0.length l0) (hc0 : l0.length ≤ c0) (h : spec_l8Kept.f k l0 a1 = some r) :
    Calls Try.prog 138 #[.slice A0 l0.length c0, .string a1] w fun e w' => e = .returned (.int .i64 r) ∧ Drawn0 w w' := by
  have HR0 := Aside0.mk hr0; have HC0 := Aside0.mk hc0; clear hr0 hc0; have H : (spec_l8Kept.l0 k l0 a1 0) = some r := h; clear h; have H' := Aside0.mk H; clear H
  go_enter Try.func138, Try.ntmps138
  go_wp2
  (try simp only [Act.put, List.setIfInBounds_toArray, List.set_cons_zero, List.set_cons_succ])
  go_loopg [5] k (fun kq v5 w' => ∃ (x5_1 : Int), v5 = .int .i64 x5_1 ∧ Aside0 (spec_l8Kept.l0 kq l0 a1 x5_1 = some r) ∧ Aside0 (kq ≤ k) ∧ Drawn0 w w')
  case atStart => exact ⟨(0), (by first | rfl | (simp; done) | (simp [*]; done)), H', ⟨Nat.le_refl _⟩, by repeat (first | exact Drawn0.refl _ | apply Drawn0.step)⟩
  case round =>
    clear H'; (try clear c1); (try clear p2); obtain ⟨x5_1, rfl, HA, HK1, ⟨m1, rfl⟩⟩ := hrel
    cases gk with
    | zero => exact absurd HA.out (by simp [spec_l8Kept.l0])
    | succ k1 =>
      have H := HA.out; clear HA
      simp only [spec_l8Kept.l0] at H
      by_cases c3 : x5_1 < (l0.length : Int)
      · rw [if_pos c3] at H
        have c3b0 : decide (x5_1 < (l0.length : Int)) = true := decide_eq_true c3; clear c3
        by_cases c4 : 0 ≤ x5_1
        · rw [if_pos c4] at H
          replace c4 := decide_eq_true c4
          by_cases c5 : ((rd_T156 l0 x5_1).f0).toList = a1.toList
          · rw [if_pos c5] at H
            have c5b0 := beq_iff_eq.mpr c5; have c5b1 := bne_eq_false_iff_eq.mpr c5; clear c5; obtain rfl := Option.some.inj H; have p101 : 0 ≤ (x5_1 : Int) := of_decide_eq_true (by assumption); have q101 : x5_1 < (l0.length : Int) := of_decide_eq_true (by assumption); obtain ⟨ad101, A101_2, c101_2, e101, hx101_0, hx101_1, hx101_2, hl101_2, hi101_2⟩ := at_T156 HR0.out x5_1 p101 q101
            cases e101
            have HR101_2 := Aside0.mk hi101_2; have HC101_2 := Aside0.mk hl101_2; clear hi101_2 hl101_2; replace p101 := eq_true p101; replace q101 := eq_true q101
            go_wp2
            go_ret
            exact ⟨by first | rfl | (simp; done) | (simp [*]; done), by repeat (first | exact Drawn0.refl _ | apply Drawn0.step)⟩
          · rw [if_neg c5] at H
            have c5b0 := beq_eq_false_iff_ne.mpr c5; have c5b1 := bne_iff_ne.mpr c5; have H' := Aside0.mk H; clear H; have p101 : 0 ≤ (x5_1 : Int) := of_decide_eq_true (by assumption); have q101 : x5_1 < (l0.length : Int) := of_decide_eq_true (by assumption); obtain ⟨ad101, A101_2, c101_2, e101, hx101_0, hx101_1, hx101_2, hl101_2, hi101_2⟩ := at_T156 HR0.out x5_1 p101 q101
            cases e101
            have HR101_2 := Aside0.mk hi101_2; have HC101_2 := Aside0.mk hl101_2; clear hi101_2 hl101_2; replace p101 := eq_true p101; replace q101 := eq_true q101
            go_wp2
            go_roundg k1
            case measure => have := HK1.out; omega
            case rel => exact ⟨(wrap64 (x5_1 + 1)), (by first | rfl | (simp; done) | (simp [*]; done)), H', ⟨by have := HK1.out; omega⟩, by repeat (first | exact Drawn0.refl _ | apply Drawn0.step)⟩
        · rw [if_neg c4] at H
          exact absurd H (by simp)
      · rw [if_neg c3] at H
        have c3b0 : decide (x5_1 < (l0.length : Int)) = false := decide_eq_false c3; clear c3; obtain rfl := Option.some.inj H
        go_wp2
        go_ret
        exact ⟨by first | rfl | (simp; done) | (simp [*]; done), by repeat (first | exact Drawn0.refl _ | apply Drawn0.step)⟩
end
section
open Go.Proofs.YtgpkkkmapgnhkaaW.PrintWords.Aside0 renaming mk → yaa
open Go.Proofs.YtgpkkkmapgnhkaaW.PrintWords renaming pw_below_drewN → yab, below_alloc → yac, below_drew1 → yad, below_set → yaf, blk_frozen → yag, blk_below → yah, gate_guard → yai, below_size → yaj, below_step → yak
open Go.Proofs.Ytgpkkkmapgnhkaa.X renaming rd_T156 → yae
def spec_l8Files.l0 : Nat → Int → List Int → Int → Int → Int → Int → Int → Int → Int → Int → Int → Int → List (S124) → List (S156) → List ByteArray → List (S158) → Option (Bool)
 | 0, _, _, _, _, _, _, _, _, _, _, _, _, _, _, _, _ => none
 | k + 1, x5, x102000, x102001, x102002, x102003, x102004, x102005, x102006, x103000, x103001, x103002, x103003, x103004, x103005, x103006, x103007 => if x5 < (x103005.length : Int) then (if 0 ≤ x5 then ((spec_l7Path.f k ((rd_T156 x103005 x5).f0)).bind fun t105 => (if t105 = true then ((spec_l1In.f ((rd_T156 x103005 x5).f1) 0 x103000).bind fun t106 => (if t106 = true then (if (((rd_T156 x103005 x5).f2).length : Int) > 220 then (some false) else (if x5 ≤ (x103005.length : Int) then ((spec_l8Kept.f k (x103005.take (x5 : Int).toNat) ((rd_T156 x103005 x5).f0)).bind fun t111 => (if t111 ≥ 0 then (some false) else (spec_l8Files.l0 k (wrap64 (x5 + 1)) x102000 x102001 x102002 x102003 x102004 x102005 x102006 x103000 x103001 x103002 x103003 x103004 x103005 x103006 x103007))) else (none))) else (some false))) else (some false))) else (none)) else (some (decide ((x103005.length : Int) ≤ x102005)))
def spec_l8Files.f (k : Nat) (l0_0 : List Int) (a0_1 : Int) (a0_2 : Int) (a0_3 : Int) (a0_4 : Int) (a0_5 : Int) (a0_6 : Int) (a1_0 : Int) (a1_1 : Int) (a1_2 : Int) (a1_3 : Int) (l1_4 : List (S124)) (l1_5 : List (S156)) (l1_6 : List ByteArray) (l1_7 : List (S158)) : Option (Bool) := spec_l8Files.l0 k 0 l0_0 a0_1 a0_2 a0_3 a0_4 a0_5 a0_6 a1_0 a1_1 a1_2 a1_3 l1_4 l1_5 l1_6 l1_7
set_option maxHeartbeats 8000000 in
set_option maxRecDepth 100000 in
theorem spec_l8Files.calls (k : Nat) (A0_0 : Option Addr) (c0_0 : Nat) (l0_0 : List Int) (a0_1 : Int) (a0_2 : Int) (a0_3 : Int) (a0_4 : Int) (a0_5 : Int) (a0_6 : Int) (a1_0 : Int) (a1_1 : Int) (a1_2 : Int) (a1_3 : Int) (A1_4 : Option Addr) (c1_4 : Nat) (l1_4 : List (S124)) (A1_5 : Option Addr) (c1_5 : Nat) (l1_5 : List (S156)) (A1_6 : Option Addr) (c1_6 : Nat) (l1_6 : List ByteArray) (A1_7 : Option Addr) (c1_7 : Nat) (l1_7 : List (S158)) (r : Bool) (w : World) (hr0_0 : Kd.C (Kd.int .u8) w A0_0 l0_0.length l0_0) (hc0_0 : l0_0.length ≤ c0_0) (hr1_4 : Kd.C k124 w A1_4 l1_4.length l1_4) (hc1_4 : l1_4.length ≤ c1_4) (hr1_5 : Kd.C k156 w A1_5 l1_5.length l1_5) (hc1_5 : l1_5.length ≤ c1_5) (hr1_6 : Kd.C Kd.string w A1_6 l1_6.length l1_6) (hc1_6 : l1_6.length ≤ c1_6) (hr1_7 : Kd.C k158 w A1_7 l1_7.length l1_7) (hc1_7 : l1_7.length ≤ c1_7) (h : spec_l8Files.f k l0_0 a0_1 a0_2 a0_3 a0_4 a0_5 a0_6 a1_0 a1_1 a1_2 a1_3 l1_4 l1_5 l1_6 l1_7 = some r) :
  Calls Try.prog 109 #[.agg #[.slice A0_0 l0_0.length c0_0, .int .i64 a0_1, .int .i64 a0_2, .int .i64 a0_3, .int .i64 a0_4, .int .i64 a0_5, .int .i64 a0_6], .agg #[.int .i64 a1_0, .int .i64 a1_1, .int .i64 a1_2, .int .i64 a1_3, .slice A1_4 l1_4.length c1_4, .slice A1_5 l1_5.length c1_5, .slice A1_6 l1_6.length c1_6, .slice A1_7 l1_7.length c1_7]] w fun e w' => e = .returned (.bool r) ∧ Below w.heap.size w w' := by
 have hu24 := Try.underlying24; have hu63 := Try.underlying63; have hu156 := Try.underlying156; have HR0_0 := yaa hr0_0; have HC0_0 := yaa hc0_0; clear hr0_0 hc0_0; have HR1_4 := yaa hr1_4; have HC1_4 := yaa hc1_4; clear hr1_4 hc1_4; have HR1_5 := yaa hr1_5; have HC1_5 := yaa hc1_5; clear hr1_5 hc1_5; have HR1_6 := yaa hr1_6; have HC1_6 := yaa hc1_6; clear hr1_6 hc1_6; have HR1_7 := yaa hr1_7; have HC1_7 := yaa hc1_7; clear hr1_7 hc1_7; have HB := yaa (Below.refl w.heap.size w); have H : (spec_l8Files.l0 k 0 l0_0 a0_1 a0_2 a0_3 a0_4 a0_5 a0_6 a1_0 a1_1 a1_2 a1_3 l1_4 l1_5 l1_6 l1_7) = some r := h; clear h; have H' := yaa H; clear H
 go_enter Try.func109, Try.ntmps109
 go_wp2_with (first | ((with_reducible refine gd_ 2 rfl ?_); (try (refine yai (by rfl) ?_; dsimp only)); refine bx_ 2 rfl #[.slice A0_0 l0_0.length c0_0, .int .i64 a0_1, .int .i64 a0_2, .int .i64 a0_3, .int .i64 a0_4, .int .i64 a0_5, .int .i64 a0_6] 24 ?_; intro c4 hg w3 hbox hb; have b5 := yaa (hbox); have d8 := yaa ((by rw [hg]; exact (yaj (upH HB.out)) : w.heap.size ≤ c4)); replace HB := yaa (yak (upH HB.out) hb); have p7 := d8; clear hb hbox hg) | ((with_reducible refine gd_ 3 rfl ?_); (try (refine yai (by rfl) ?_; dsimp only)); refine bx_ 3 rfl #[.int .i64 a1_0, .int .i64 a1_1, .int .i64 a1_2, .int .i64 a1_3, .slice A1_4 l1_4.length c1_4, .slice A1_5 l1_5.length c1_5, .slice A1_6 l1_6.length c1_6, .slice A1_7 l1_7.length c1_7] 63 ?_; intro c7 hg w4 hbox hb; have b0 := yaa (hbox); have d9 := yaa ((by rw [hg]; exact (yaj (by repeat (with_reducible first | exact HB.out | apply yac | apply yab | apply yad | refine yaf ?_ (Aside0.out ‹_›)))) : w.heap.size ≤ c7)); replace HB := yaa (yak (by repeat (with_reducible first | exact HB.out | apply yac | apply yab | apply yad | refine yaf ?_ (Aside0.out ‹_›))) hb); have p8 := d9; have b9 := yaa ((by rw [hg]; exact Nat.ne_of_lt (blk_lt (upB b5.out)) : c4 ≠ c7)); replace b5 := yaa (yah (upB b5.out) hb); have c9 := yaa b9.out.symm; clear hb hbox hg))
 repeat (go_quiet (first | ((with_reducible refine gd_ 2 rfl ?_); (try (refine yai (by rfl) ?_; dsimp only)); refine bx_ 2 rfl #[.slice A0_0 l0_0.length c0_0, .int .i64 a0_1, .int .i64 a0_2, .int .i64 a0_3, .int .i64 a0_4, .int .i64 a0_5, .int .i64 a0_6] 24 ?_; intro c4 hg w3 hbox hb; have b5 := yaa (hbox); have d8 := yaa ((by rw [hg]; exact (yaj (upH HB.out)) : w.heap.size ≤ c4)); replace HB := yaa (yak (upH HB.out) hb); have p7 := d8; clear hb hbox hg) | ((with_reducible refine gd_ 3 rfl ?_); (try (refine yai (by rfl) ?_; dsimp only)); refine bx_ 3 rfl #[.int .i64 a1_0, .int .i64 a1_1, .int .i64 a1_2, .int .i64 a1_3, .slice A1_4 l1_4.length c1_4, .slice A1_5 l1_5.length c1_5, .slice A1_6 l1_6.length c1_6, .slice A1_7 l1_7.length c1_7] 63 ?_; intro c7 hg w4 hbox hb; have b0 := yaa (hbox); have d9 := yaa ((by rw [hg]; exact (yaj (by repeat (with_reducible first | exact HB.out | apply yac | apply yab | apply yad | refine yaf ?_ (Aside0.out ‹_›)))) : w.heap.size ≤ c7)); replace HB := yaa (yak (by repeat (with_reducible first | exact HB.out | apply yac | apply yab | apply yad | refine yaf ?_ (Aside0.out ‹_›))) hb); have p8 := d9; have b9 := yaa ((by rw [hg]; exact Nat.ne_of_lt (blk_lt (upB b5.out)) : c4 ≠ c7)); replace b5 := yaa (yah (upB b5.out) hb); have c9 := yaa b9.out.symm; clear hb hbox hg)); try go_wp2_with (first | ((with_reducible refine gd_ 2 rfl ?_); (try (refine yai (by rfl) ?_; dsimp only)); refine bx_ 2 rfl #[.slice A0_0 l0_0.length c0_0, .int .i64 a0_1, .int .i64 a0_2, .int .i64 a0_3, .int .i64 a0_4, .int .i64 a0_5, .int .i64 a0_6] 24 ?_; intro c4 hg w3 hbox hb; have b5 := yaa (hbox); have d8 := yaa ((by rw [hg]; exact (yaj (upH HB.out)) : w.heap.size ≤ c4)); replace HB := yaa (yak (upH HB.out) hb); have p7 := d8; clear hb hbox hg) | ((with_reducible refine gd_ 3 rfl ?_); (try (refine yai (by rfl) ?_; dsimp only)); refine bx_ 3 rfl #[.int .i64 a1_0, .int .i64 a1_1, .int .i64 a1_2, .int .i64 a1_3, .slice A1_4 l1_4.length c1_4, .slice A1_5 l1_5.length c1_5, .slice A1_6 l1_6.length c1_6, .slice A1_7 l1_7.length c1_7] 63 ?_; intro c7 hg w4 hbox hb; have b0 := yaa (hbox); have d9 := yaa ((by rw [hg]; exact (yaj (by repeat (with_reducible first | exact HB.out | apply yac | apply yab | apply yad | refine yaf ?_ (Aside0.out ‹_›)))) : w.heap.size ≤ c7)); replace HB := yaa (yak (by repeat (with_reducible first | exact HB.out | apply yac | apply yab | apply yad | refine yaf ?_ (Aside0.out ‹_›))) hb); have p8 := d9; have b9 := yaa ((by rw [hg]; exact Nat.ne_of_lt (blk_lt (upB b5.out)) : c4 ≠ c7)); replace b5 := yaa (yah (upB b5.out) hb); have c9 := yaa b9.out.symm; clear hb hbox hg)))
 (try simp only [Act.put, List.setIfInBounds_toArray, List.set_cons_zero, List.set_cons_succ])
 go_loopg [5] k (fun kq v5 w' => ∃ (b3 : Int), v5 = .int .i64 b3 ∧ Aside0 (spec_l8Files.l0 kq b3 l0_0 a0_1 a0_2 a0_3 a0_4 a0_5 a0_6 a1_0 a1_1 a1_2 a1_3 l1_4 l1_5 l1_6 l1_7 = some r) ∧ Aside0 (kq ≤ k) ∧ Aside0 (w'.heap[c4]? = some (.cells #[(.slice A0_0 l0_0.length c0_0), .int .i64 a0_1, .int .i64 a0_2, .int .i64 a0_3, .int .i64 a0_4, .int .i64 a0_5, .int .i64 a0_6] 24 (0, 0))) ∧ Aside0 (w'.heap[c7]? = some (.cells #[.int .i64 a1_0, .int .i64 a1_1, .int .i64 a1_2, .int .i64 a1_3, (.slice A1_4 l1_4.length c1_4), (.slice A1_5 l1_5.length c1_5), (.slice A1_6 l1_6.length c1_6), (.slice A1_7 l1_7.length c1_7)] 63 (0, 0))) ∧ Aside0 (Below w.heap.size w w'))
 case atStart => exact ⟨(0), (by first | rfl | (simp; done) | (simp [*]; done)), H', ⟨Nat.le_refl _⟩, ⟨by exact upB b5.out⟩, ⟨by exact upB b0.out⟩, ⟨by repeat (with_reducible first | exact HB.out | apply yac | apply yab | apply yad | refine yaf ?_ (Aside0.out ‹_›))⟩⟩
 case round =>
  clear H'; (try clear c1); (try clear p2); obtain ⟨b3, rfl, HA, HK1, b5, b0, HB⟩ := hrel
  cases gk with
  | zero => exact absurd HA.out (by simp [spec_l8Files.l0])
  | succ k1 =>
   have H := HA.out; clear HA
   simp only [spec_l8Files.l0] at H
   by_cases c5 : b3 < (l1_5.length : Int)
   rotate_left
   ·
    rw [if_neg c5] at H
    have F0 : decide (b3 < (l1_5.length : Int)) = false := decide_eq_false c5; clear c5; obtain rfl := Option.some.inj H; have G5 := c9.out; have G6 := b9.out; obtain ⟨C0, C1, C2, C3, C4, C5, C6, C7⟩ := cc8_ b0.out; obtain ⟨C8, C9, D0, D1, D2, D3, D4, D5⟩ := cf8_ b0.out; obtain ⟨D6, D7, D8, D9, E0, E1, E2⟩ := cc7_ b5.out; obtain ⟨E3, E4, E5, E6, E7, E8, E9⟩ := cf7_ b5.out
    go_wp2
    repeat (go_quiet (fail); try go_wp2)
    go_ret
    exact ⟨by first | rfl | (simp [*, errW_none, errW_some] <;> rfl), by repeat (with_reducible first | exact HB.out | apply yac | apply yab | apply yad | refine yaf ?_ (Aside0.out ‹_›))⟩
   rw [if_pos c5] at H
   have F0 : decide (b3 < (l1_5.length : Int)) = true := decide_eq_true c5; clear c5
   by_cases c6 : 0 ≤ b3
   rotate_left
   ·
    rw [if_neg c6] at H
    exact absurd H (by simp)
   rw [if_pos c6] at H
   replace c6 := decide_eq_true c6; obtain ⟨F1, A7, H⟩ := bindA H; (try dsimp only at H)
   by_cases c8 : F1 = true
   rotate_left
   ·
    replace c8 := Bool.eq_false_iff.mpr c8
    subst c8
    rw [if_neg (show ¬ (false = true) by decide)] at H
    obtain rfl := Option.some.inj H; have G3 := c9.out; have G4 := b9.out; obtain ⟨A2, A3, A4, A5, A6, A8, B0, B1⟩ := cc8_ b0.out; obtain ⟨B2, B3, B4, B5, B6, B7, B8, B9⟩ := cf8_ b0.out; have p103 : 0 ≤ (b3 : Int) := of_decide_eq_true (by assumption); have q103 : b3 < (l1_5.length : Int) := of_decide_eq_true (by assumption); obtain ⟨ad103, d1, d2, d7, c0, c2, c3, hl103_2, hi103_2⟩ := at_T156 HR1_5.out b3 p103 q103
    cases d7
    replace c0 := (upc_ HB.out c0 :); replace c2 := (upc_ HB.out c2 :); replace c3 := (upc_ HB.out c3 :); have HR103_2 := yaa hi103_2; have HC103_2 := yaa hl103_2; clear hi103_2 hl103_2; replace p103 := eq_true p103; replace q103 := eq_true q103
    go_wp2_with (first | ((with_reducible refine gd_ 6 rfl ?_); (try (refine yai (by rfl) ?_; dsimp only)); refine bx_ 6 rfl #[.string (⟨#[]⟩ : ByteArray), .int .i64 0, .slice none 0 0] 156 ?_; intro b6 hg w52 hbox hb; have b4 := yaa (hbox); have d0 := yaa ((by rw [hg]; exact (yaj (by repeat (with_reducible first | exact HB.out | apply yac | apply yab | apply yad | refine yaf ?_ (Aside0.out ‹_›)))) : w.heap.size ≤ b6)); replace HB := yaa (yak (by repeat (with_reducible first | exact HB.out | apply yac | apply yab | apply yad | refine yaf ?_ (Aside0.out ‹_›))) hb); have d4 := d0; have b1 := yaa ((by rw [hg]; exact Nat.ne_of_lt (blk_lt (upB b5.out)) : c4 ≠ b6)); replace b5 := yaa (yah (upB b5.out) hb); have b7 := yaa b1.out.symm; have b2 := yaa ((by rw [hg]; exact Nat.ne_of_lt (blk_lt (upB b0.out)) : c7 ≠ b6)); replace b0 := yaa (yah (upB b0.out) hb); have b8 := yaa b2.out.symm; clear hb hbox hg; have r8 := b7.out; have r9 := b1.out; have s0 := b8.out; have s1 := b2.out; obtain ⟨p0, p1, p3⟩ := cc3_ b4.out; obtain ⟨p4, p5⟩ := cf2_ b4.out; have p6 := yag b4.out 2) | (go_at_call 70; (with_reducible refine (spec_l7Path.calls k1 ((yae l1_5 b3).f0) false _ A7.out).mono ?_); rintro e w' ⟨rfl, ⟨nd, rfl⟩⟩; (try first | exact ⟨rfl, _, World.drewN_drewN _ _ _⟩ | exact ⟨rfl, _, Eq.trans (World.drewN_drewN _ _ _) (congrArg (World.drewN _) (Nat.add_assoc _ _ _))⟩)))
    obtain ⟨hq0_, hq1_, hq2_, hq3_, hq4_, hq5_, hq6_, hq7_⟩ := cc8_ b0.out
    refine wp_region_quiet_lit (by kernel_rfl) (by kernel_rfl) ?_
    iterate 28 (first | go_big_quiet_step (first | ((with_reducible refine gd_ 6 rfl ?_); (try (refine yai (by rfl) ?_; dsimp only)); refine bx_ 6 rfl #[.string (⟨#[]⟩ : ByteArray), .int .i64 0, .slice none 0 0] 156 ?_; intro b6 hg w52 hbox hb; have b4 := yaa (hbox); have d0 := yaa ((by rw [hg]; exact (yaj (by repeat (with_reducible first | exact HB.out | apply yac | apply yab | apply yad | refine yaf ?_ (Aside0.out ‹_›)))) : w.heap.size ≤ b6)); replace HB := yaa (yak (by repeat (with_reducible first | exact HB.out | apply yac | apply yab | apply yad | refine yaf ?_ (Aside0.out ‹_›))) hb); have d4 := d0; have b1 := yaa ((by rw [hg]; exact Nat.ne_of_lt (blk_lt (upB b5.out)) : c4 ≠ b6)); replace b5 := yaa (yah (upB b5.out) hb); have b7 := yaa b1.out.symm; have b2 := yaa ((by rw [hg]; exact Nat.ne_of_lt (blk_lt (upB b0.out)) : c7 ≠ b6)); replace b0 := yaa (yah (upB b0.out) hb); have b8 := yaa b2.out.symm; clear hb hbox hg; have r8 := b7.out; have r9 := b1.out; have s0 := b8.out; have s1 := b2.out; obtain ⟨p0, p1, p3⟩ := cc3_ b4.out; obtain ⟨p4, p5⟩ := cf2_ b4.out; have p6 := yag b4.out 2) | (go_at_call 70; (with_reducible refine (spec_l7Path.calls k1 ((yae l1_5 b3).f0) false _ A7.out).mono ?_); rintro e w' ⟨rfl, ⟨nd, rfl⟩⟩; (try first | exact ⟨rfl, _, World.drewN_drewN _ _ _⟩ | exact ⟨rfl, _, Eq.trans (World.drewN_drewN _ _ _) (congrArg (World.drewN _) (Nat.add_assoc _ _ _))⟩))) | quiet_step (first | (go_at_call 70; (with_reducible refine (spec_l7Path.calls k1 ((yae l1_5 b3).f0) false _ A7.out).mono ?_); rintro e w' ⟨rfl, ⟨nd, rfl⟩⟩; (try first | exact ⟨rfl, _, World.drewN_drewN _ _ _⟩ | exact ⟨rfl, _, Eq.trans (World.drewN_drewN _ _ _) (congrArg (World.drewN _) (Nat.add_assoc _ _ _))⟩))))
    refine wpQuiet_nil ?_
    intro _ hw'; obtain ⟨nq, hw''⟩ := hw'; subst hw''
    go_wp2
    go_ret
    exact ⟨by first | rfl | (simp [*, errW_none, errW_some] <;> rfl), by repeat (with_reducible first | exact HB.out | apply yac | apply yab | apply yad | refine yaf ?_ (Aside0.out ‹_›))⟩
   subst c8
   rw [if_pos rfl] at H
   obtain ⟨F2, A9, H⟩ := bindA H; (try dsimp only at H)
   by_cases c10 : F2 = true
   rotate_left
   ·
    replace c10 := Bool.eq_false_iff.mpr c10
    subst c10
    rw [if_neg (show ¬ (false = true) by decide)] at H
    obtain rfl := Option.some.inj H; have G1 := c9.out; have G2 := b9.out; obtain ⟨x6, x7, x8, x9, z0, z1, z2, z3⟩ := cc8_ b0.out; obtain ⟨z4, z5, z6, z7, z8, z9, A0, A1⟩ := cf8_ b0.out; have p103 : 0 ≤ (b3 : Int) := of_decide_eq_true (by assumption); have q103 : b3 < (l1_5.length : Int) := of_decide_eq_true (by assumption); obtain ⟨ad103, d1, d2, d7, c0, c2, c3, hl103_2, hi103_2⟩ := at_T156 HR1_5.out b3 p103 q103
    cases d7
    replace c0 := (upc_ HB.out c0 :); replace c2 := (upc_ HB.out c2 :); replace c3 := (upc_ HB.out c3 :); have HR103_2 := yaa hi103_2; have HC103_2 := yaa hl103_2; clear hi103_2 hl103_2; replace p103 := eq_true p103; replace q103 := eq_true q103
    go_wp2_with (first | ((with_reducible refine gd_ 6 rfl ?_); (try (refine yai (by rfl) ?_; dsimp only)); refine bx_ 6 rfl #[.string (⟨#[]⟩ : ByteArray), .int .i64 0, .slice none 0 0] 156 ?_; intro b6 hg w45 hbox hb; have b4 := yaa (hbox); have d0 := yaa ((by rw [hg]; exact (yaj (by repeat (with_reducible first | exact HB.out | apply yac | apply yab | apply yad | refine yaf ?_ (Aside0.out ‹_›)))) : w.heap.size ≤ b6)); replace HB := yaa (yak (by repeat (with_reducible first | exact HB.out | apply yac | apply yab | apply yad | refine yaf ?_ (Aside0.out ‹_›))) hb); have d4 := d0; have b1 := yaa ((by rw [hg]; exact Nat.ne_of_lt (blk_lt (upB b5.out)) : c4 ≠ b6)); replace b5 := yaa (yah (upB b5.out) hb); have b7 := yaa b1.out.symm; have b2 := yaa ((by rw [hg]; exact Nat.ne_of_lt (blk_lt (upB b0.out)) : c7 ≠ b6)); replace b0 := yaa (yah (upB b0.out) hb); have b8 := yaa b2.out.symm; clear hb hbox hg; have r4 := b7.out; have r5 := b1.out; have r6 := b8.out; have r7 := b2.out; obtain ⟨m8, m9, n0⟩ := cc3_ b4.out; obtain ⟨n1, n2⟩ := cf2_ b4.out; have n3 := yag b4.out 2) | (go_at_call 70; (with_reducible refine (spec_l7Path.calls k1 ((yae l1_5 b3).f0) true _ A7.out).mono ?_); rintro e w' ⟨rfl, ⟨nd, rfl⟩⟩; (try first | exact ⟨rfl, _, World.drewN_drewN _ _ _⟩ | exact ⟨rfl, _, Eq.trans (World.drewN_drewN _ _ _) (congrArg (World.drewN _) (Nat.add_assoc _ _ _))⟩); obtain ⟨n4, n5, n6, n7, n8, n9, o0, o1⟩ := cc8_ b0.out; obtain ⟨o2, o3, o4, o5, o6, o7, o8⟩ := cf7_ b0.out; have o9 := yag b0.out 7) | (go_at_call 63; (with_reducible refine (spec_l1In.calls ((yae l1_5 b3).f1) 0 a1_0 false _ A9.out).mono ?_); rintro e w' ⟨rfl, ⟨nd, rfl⟩⟩; (try first | exact ⟨rfl, _, World.drewN_drewN _ _ _⟩ | exact ⟨rfl, _, Eq.trans (World.drewN_drewN _ _ _) (congrArg (World.drewN _) (Nat.add_assoc _ _ _))⟩)))
    obtain ⟨hq0_, hq1_, hq2_, hq3_, hq4_, hq5_, hq6_, hq7_⟩ := cc8_ b0.out
    refine wp_region_quiet_lit (by kernel_rfl) (by kernel_rfl) ?_
    iterate 28 (first | go_big_quiet_step (first | ((with_reducible refine gd_ 6 rfl ?_); (try (refine yai (by rfl) ?_; dsimp only)); refine bx_ 6 rfl #[.string (⟨#[]⟩ : ByteArray), .int .i64 0, .slice none 0 0] 156 ?_; intro b6 hg w45 hbox hb; have b4 := yaa (hbox); have d0 := yaa ((by rw [hg]; exact (yaj (by repeat (with_reducible first | exact HB.out | apply yac | apply yab | apply yad | refine yaf ?_ (Aside0.out ‹_›)))) : w.heap.size ≤ b6)); replace HB := yaa (yak (by repeat (with_reducible first | exact HB.out | apply yac | apply yab | apply yad | refine yaf ?_ (Aside0.out ‹_›))) hb); have d4 := d0; have b1 := yaa ((by rw [hg]; exact Nat.ne_of_lt (blk_lt (upB b5.out)) : c4 ≠ b6)); replace b5 := yaa (yah (upB b5.out) hb); have b7 := yaa b1.out.symm; have b2 := yaa ((by rw [hg]; exact Nat.ne_of_lt (blk_lt (upB b0.out)) : c7 ≠ b6)); replace b0 := yaa (yah (upB b0.out) hb); have b8 := yaa b2.out.symm; clear hb hbox hg; have r4 := b7.out; have r5 := b1.out; have r6 := b8.out; have r7 := b2.out; obtain ⟨m8, m9, n0⟩ := cc3_ b4.out; obtain ⟨n1, n2⟩ := cf2_ b4.out; have n3 := yag b4.out 2) | (go_at_call 70; (with_reducible refine (spec_l7Path.calls k1 ((yae l1_5 b3).f0) true _ A7.out).mono ?_); rintro e w' ⟨rfl, ⟨nd, rfl⟩⟩; (try first | exact ⟨rfl, _, World.drewN_drewN _ _ _⟩ | exact ⟨rfl, _, Eq.trans (World.drewN_drewN _ _ _) (congrArg (World.drewN _) (Nat.add_assoc _ _ _))⟩); obtain ⟨n4, n5, n6, n7, n8, n9, o0, o1⟩ := cc8_ b0.out; obtain ⟨o2, o3, o4, o5, o6, o7, o8⟩ := cf7_ b0.out; have o9 := yag b0.out 7) | (go_at_call 63; (with_reducible refine (spec_l1In.calls ((yae l1_5 b3).f1) 0 a1_0 false _ A9.out).mono ?_); rintro e w' ⟨rfl, ⟨nd, rfl⟩⟩; (try first | exact ⟨rfl, _, World.drewN_drewN _ _ _⟩ | exact ⟨rfl, _, Eq.trans (World.drewN_drewN _ _ _) (congrArg (World.drewN _) (Nat.add_assoc _ _ _))⟩))) | quiet_step (first | (go_at_call 70; (with_reducible refine (spec_l7Path.calls k1 ((yae l1_5 b3).f0) true _ A7.out).mono ?_); rintro e w' ⟨rfl, ⟨nd, rfl⟩⟩; (try first | exact ⟨rfl, _, World.drewN_drewN _ _ _⟩ | exact ⟨rfl, _, Eq.trans (World.drewN_drewN _ _ _) (congrArg (World.drewN _) (Nat.add_assoc _ _ _))⟩)) | (go_at_call 63; (with_reducible refine (spec_l1In.calls ((yae l1_5 b3).f1) 0 a1_0 false _ A9.out).mono ?_); rintro e w' ⟨rfl, ⟨nd, rfl⟩⟩; (try first | exact ⟨rfl, _, World.drewN_drewN _ _ _⟩ | exact ⟨rfl, _, Eq.trans (World.drewN_drewN _ _ _) (congrArg (World.drewN _) (Nat.add_assoc _ _ _))⟩))))
    refine wpQuiet_nil ?_
    intro _ hw'; obtain ⟨nq, hw''⟩ := hw'; subst hw''
    go_wp2
    go_ret
    exact ⟨by first | rfl | (simp [*, errW_none, errW_some] <;> rfl), by repeat (with_reducible first | exact HB.out | apply yac | apply yab | apply yad | refine yaf ?_ (Aside0.out ‹_›))⟩
   subst c10
   rw [if_pos rfl] at H
   by_cases c11 : (((yae l1_5 b3).f2).length : Int) > 220
   ·
    rw [if_pos c11] at H
    have p9 : decide (220 < (((yae l1_5 b3).f2).length : Int)) = true := decide_eq_true c11; have q0 : decide (220 < ((yae l1_5 b3).f2).length) = true := decide_eq_true (by omega); clear c11; obtain rfl := Option.some.inj H; have F3 := c9.out; have F4 := b9.out; obtain ⟨s2, s3, s4, s5, s6, s7, s8, s9⟩ := cc8_ b0.out; obtain ⟨t0, t1, t2, t3, t4, t5, t6, t7⟩ := cf8_ b0.out; have p103 : 0 ≤ (b3 : Int) := of_decide_eq_true (by assumption); have q103 : b3 < (l1_5.length : Int) := of_decide_eq_true (by assumption); obtain ⟨ad103, d1, d2, d7, c0, c2, c3, hl103_2, hi103_2⟩ := at_T156 HR1_5.out b3 p103 q103
    cases d7
    replace c0 := (upc_ HB.out c0 :); replace c2 := (upc_ HB.out c2 :); replace c3 := (upc_ HB.out c3 :); have HR103_2 := yaa hi103_2; have HC103_2 := yaa hl103_2; clear hi103_2 hl103_2; replace p103 := eq_true p103; replace q103 := eq_true q103
    go_wp2_with (first | ((with_reducible refine gd_ 6 rfl ?_); (try (refine yai (by rfl) ?_; dsimp only)); refine bx_ 6 rfl #[.string (⟨#[]⟩ : ByteArray), .int .i64 0, .slice none 0 0] 156 ?_; intro b6 hg w14 hbox hb; have b4 := yaa (hbox); have d0 := yaa ((by rw [hg]; exact (yaj (by repeat (with_reducible first | exact HB.out | apply yac | apply yab | apply yad | refine yaf ?_ (Aside0.out ‹_›)))) : w.heap.size ≤ b6)); replace HB := yaa (yak (by repeat (with_reducible first | exact HB.out | apply yac | apply yab | apply yad | refine yaf ?_ (Aside0.out ‹_›))) hb); have d4 := d0; have b1 := yaa ((by rw [hg]; exact Nat.ne_of_lt (blk_lt (upB b5.out)) : c4 ≠ b6)); replace b5 := yaa (yah (upB b5.out) hb); have b7 := yaa b1.out.symm; have b2 := yaa ((by rw [hg]; exact Nat.ne_of_lt (blk_lt (upB b0.out)) : c7 ≠ b6)); replace b0 := yaa (yah (upB b0.out) hb); have b8 := yaa b2.out.symm; clear hb hbox hg; have q1 := b7.out; have q2 := b1.out; have q3 := b8.out; have q4 := b2.out; obtain ⟨e5, e6, e7⟩ := cc3_ b4.out; obtain ⟨e8, e9⟩ := cf2_ b4.out; have f3 := yag b4.out 2) | (go_at_call 70; (with_reducible refine (spec_l7Path.calls k1 ((yae l1_5 b3).f0) true _ A7.out).mono ?_); rintro e w' ⟨rfl, ⟨nd, rfl⟩⟩; (try first | exact ⟨rfl, _, World.drewN_drewN _ _ _⟩ | exact ⟨rfl, _, Eq.trans (World.drewN_drewN _ _ _) (congrArg (World.drewN _) (Nat.add_assoc _ _ _))⟩); obtain ⟨f4, f5, f6, f7, f8, f9, g0, g1⟩ := cc8_ b0.out; obtain ⟨g2, g3, g4, g5, g6, g7, g8⟩ := cf7_ b0.out; have g9 := yag b0.out 7) | (go_at_call 63; (with_reducible refine (spec_l1In.calls ((yae l1_5 b3).f1) 0 a1_0 true _ A9.out).mono ?_); rintro e w' ⟨rfl, ⟨nd, rfl⟩⟩; (try first | exact ⟨rfl, _, World.drewN_drewN _ _ _⟩ | exact ⟨rfl, _, Eq.trans (World.drewN_drewN _ _ _) (congrArg (World.drewN _) (Nat.add_assoc _ _ _))⟩)))
    obtain ⟨hq0_, hq1_, hq2_, hq3_, hq4_, hq5_, hq6_, hq7_⟩ := cc8_ b0.out
    refine wp_region_quiet_lit (by kernel_rfl) (by kernel_rfl) ?_
    iterate 28 (first | go_big_quiet_step (first | ((with_reducible refine gd_ 6 rfl ?_); (try (refine yai (by rfl) ?_; dsimp only)); refine bx_ 6 rfl #[.string (⟨#[]⟩ : ByteArray), .int .i64 0, .slice none 0 0] 156 ?_; intro b6 hg w14 hbox hb; have b4 := yaa (hbox); have d0 := yaa ((by rw [hg]; exact (yaj (by repeat (with_reducible first | exact HB.out | apply yac | apply yab | apply yad | refine yaf ?_ (Aside0.out ‹_›)))) : w.heap.size ≤ b6)); replace HB := yaa (yak (by repeat (with_reducible first | exact HB.out | apply yac | apply yab | apply yad | refine yaf ?_ (Aside0.out ‹_›))) hb); have d4 := d0; have b1 := yaa ((by rw [hg]; exact Nat.ne_of_lt (blk_lt (upB b5.out)) : c4 ≠ b6)); replace b5 := yaa (yah (upB b5.out) hb); have b7 := yaa b1.out.symm; have b2 := yaa ((by rw [hg]; exact Nat.ne_of_lt (blk_lt (upB b0.out)) : c7 ≠ b6)); replace b0 := yaa (yah (upB b0.out) hb); have b8 := yaa b2.out.symm; clear hb hbox hg; have q1 := b7.out; have q2 := b1.out; have q3 := b8.out; have q4 := b2.out; obtain ⟨e5, e6, e7⟩ := cc3_ b4.out; obtain ⟨e8, e9⟩ := cf2_ b4.out; have f3 := yag b4.out 2) | (go_at_call 70; (with_reducible refine (spec_l7Path.calls k1 ((yae l1_5 b3).f0) true _ A7.out).mono ?_); rintro e w' ⟨rfl, ⟨nd, rfl⟩⟩; (try first | exact ⟨rfl, _, World.drewN_drewN _ _ _⟩ | exact ⟨rfl, _, Eq.trans (World.drewN_drewN _ _ _) (congrArg (World.drewN _) (Nat.add_assoc _ _ _))⟩); obtain ⟨f4, f5, f6, f7, f8, f9, g0, g1⟩ := cc8_ b0.out; obtain ⟨g2, g3, g4, g5, g6, g7, g8⟩ := cf7_ b0.out; have g9 := yag b0.out 7) | (go_at_call 63; (with_reducible refine (spec_l1In.calls ((yae l1_5 b3).f1) 0 a1_0 true _ A9.out).mono ?_); rintro e w' ⟨rfl, ⟨nd, rfl⟩⟩; (try first | exact ⟨rfl, _, World.drewN_drewN _ _ _⟩ | exact ⟨rfl, _, Eq.trans (World.drewN_drewN _ _ _) (congrArg (World.drewN _) (Nat.add_assoc _ _ _))⟩))) | quiet_step (first | (go_at_call 70; (with_reducible refine (spec_l7Path.calls k1 ((yae l1_5 b3).f0) true _ A7.out).mono ?_); rintro e w' ⟨rfl, ⟨nd, rfl⟩⟩; (try first | exact ⟨rfl, _, World.drewN_drewN _ _ _⟩ | exact ⟨rfl, _, Eq.trans (World.drewN_drewN _ _ _) (congrArg (World.drewN _) (Nat.add_assoc _ _ _))⟩)) | (go_at_call 63; (with_reducible refine (spec_l1In.calls ((yae l1_5 b3).f1) 0 a1_0 true _ A9.out).mono ?_); rintro e w' ⟨rfl, ⟨nd, rfl⟩⟩; (try first | exact ⟨rfl, _, World.drewN_drewN _ _ _⟩ | exact ⟨rfl, _, Eq.trans (World.drewN_drewN _ _ _) (congrArg (World.drewN _) (Nat.add_assoc _ _ _))⟩))))
    refine wpQuiet_nil ?_
    intro _ hw'; obtain ⟨nq, hw''⟩ := hw'; subst hw''
    go_wp2
    go_ret
    exact ⟨by first | rfl | (simp [*, errW_none, errW_some] <;> rfl), by repeat (with_reducible first | exact HB.out | apply yac | apply yab | apply yad | refine yaf ?_ (Aside0.out ‹_›))⟩
   rw [if_neg c11] at H
   have p9 : decide (220 < (((yae l1_5 b3).f2).length : Int)) = false := decide_eq_false c11; have q0 : decide (220 < ((yae l1_5 b3).f2).length) = false := decide_eq_false (by omega); clear c11; have F5 := eq_true (of_decide_eq_true (by assumption) : 0 ≤ b3)
   by_cases c20 : b3 ≤ (l1_5.length : Int)
   rotate_left
   ·
    rw [if_neg c20] at H
    exact absurd H (by simp)
   rw [if_pos c20] at H
   have F6 := eq_true c20; replace c20 := decide_eq_true c20; obtain ⟨y107, hy107⟩ : ∃ y_ : List (S156), y_ = (l1_5.take (b3 : Int).toNat) := ⟨_, rfl⟩
   conv at H => enter [1, 1, 2]; rw [← hy107]
   have Ny107 := yaa hy107; clear hy107; obtain ⟨e1, A21, H⟩ := bindA H; (try dsimp only at H)
   by_cases c22 : e1 ≥ 0
   ·
    rw [if_pos c22] at H
    have q5 : decide (0 ≤ e1) = true := decide_eq_true c22; clear c22; obtain rfl := Option.some.inj H; have F7 := c9.out; have F8 := b9.out; obtain ⟨t8, t9, u0, u1, u2, u3, u4, u5⟩ := cc8_ b0.out; obtain ⟨u6, u7, u9, v0, v1, v2, v3, v4⟩ := cf8_ b0.out; have p103 : 0 ≤ (b3 : Int) := of_decide_eq_true (by assumption); have q103 : b3 < (l1_5.length : Int) := of_decide_eq_true (by assumption); obtain ⟨ad103, d1, d2, d7, c0, c2, c3, hl103_2, hi103_2⟩ := at_T156 HR1_5.out b3 p103 q103
    cases d7
    replace c0 := (upc_ HB.out c0 :); replace c2 := (upc_ HB.out c2 :); replace c3 := (upc_ HB.out c3 :); have HR103_2 := yaa hi103_2; have HC103_2 := yaa hl103_2; clear hi103_2 hl103_2; replace p103 := eq_true p103; replace q103 := eq_true q103
    go_wp2_with (first | ((with_reducible refine gd_ 6 rfl ?_); (try (refine yai (by rfl) ?_; dsimp only)); refine bx_ 6 rfl #[.string (⟨#[]⟩ : ByteArray), .int .i64 0, .slice none 0 0] 156 ?_; intro b6 hg w25 hbox hb; have b4 := yaa (hbox); have d0 := yaa ((by rw [hg]; exact (yaj (by repeat (with_reducible first | exact HB.out | apply yac | apply yab | apply yad | refine yaf ?_ (Aside0.out ‹_›)))) : w.heap.size ≤ b6)); replace HB := yaa (yak (by repeat (with_reducible first | exact HB.out | apply yac | apply yab | apply yad | refine yaf ?_ (Aside0.out ‹_›))) hb); have d4 := d0; have b1 := yaa ((by rw [hg]; exact Nat.ne_of_lt (blk_lt (upB b5.out)) : c4 ≠ b6)); replace b5 := yaa (yah (upB b5.out) hb); have b7 := yaa b1.out.symm; have b2 := yaa ((by rw [hg]; exact Nat.ne_of_lt (blk_lt (upB b0.out)) : c7 ≠ b6)); replace b0 := yaa (yah (upB b0.out) hb); have b8 := yaa b2.out.symm; clear hb hbox hg; have q6 := b7.out; have q7 := b1.out; have q8 := b8.out; have q9 := b2.out; obtain ⟨h0, h1, h2⟩ := cc3_ b4.out; obtain ⟨h3, h4⟩ := cf2_ b4.out; have h5 := yag b4.out 2) | ((with_reducible refine gate_store (t := 156) (p := 6) rfl ?_); (try (rw [drewN_self w25]; generalize hq_ : World.drewN w25 _ = w25; replace b5 := yaa (blk_at hq_ b5.out); replace b0 := yaa (blk_at hq_ b0.out); replace b4 := yaa (blk_at hq_ b4.out); replace HB := yaa (below_at hq_ HB.out); clear hq_)); refine store_event (t := 156) (p := 6) (v := ?vo_w29) (w1 := (((w25.setCell ⟨b6, 0, none⟩ (.string ((yae l1_5 b3).f0))).setCell ⟨b6, 1, none⟩ (.int .i64 ((yae l1_5 b3).f1))).setCell ⟨b6, 2, none⟩ (.slice d1 ((yae l1_5 b3).f2).length d2))) ?hg ?ho ?hn ?hr ?_; (case ho => rfl); (case hg => rfl); (case hn => rfl); (case hr => first | (go_simp; done) | (go_simp; rfl)); intro w29 hw; have n0_ : Aside0 (w29.heap[c4]? = some (.cells #[.slice A0_0 l0_0.length c0_0, .int .i64 a0_1, .int .i64 a0_2, .int .i64 a0_3, .int .i64 a0_4, .int .i64 a0_5, .int .i64 a0_6] 24 (0, 0))) := ⟨(by rw [hw]; exact (by repeat (with_reducible first | exact b5.out | refine oneB ?_ | refine blk_far ?_ b1.out _)))⟩; have n1_ : Aside0 (w29.heap[c7]? = some (.cells #[.int .i64 a1_0, .int .i64 a1_1, .int .i64 a1_2, .int .i64 a1_3, .slice A1_4 l1_4.length c1_4, .slice (some ad103) l1_5.length c1_5, .slice A1_6 l1_6.length c1_6, .slice A1_7 l1_7.length c1_7] 63 (0, 0))) := ⟨(by rw [hw]; exact (by repeat (with_reducible first | exact b0.out | refine oneB ?_ | refine blk_far ?_ b2.out _)))⟩; have n2_ : Aside0 (w29.heap[b6]? = some (.cells #[.string ((yae l1_5 b3).f0), .int .i64 ((yae l1_5 b3).f1), .slice d1 ((yae l1_5 b3).f2).length d2] 156 (0, 0))) := ⟨(by rw [hw]; exact (by (repeat refine oneB ?_); refine blk_put (cs := #[.string ((yae l1_5 b3).f0), .int .i64 ((yae l1_5 b3).f1), .slice none 0 0]) ?_ 2 _ rfl; refine blk_put (cs := #[.string ((yae l1_5 b3).f0), .int .i64 0, .slice none 0 0]) ?_ 1 _ rfl; refine blk_put (cs := #[.string (⟨#[]⟩ : ByteArray), .int .i64 0, .slice none 0 0]) ?_ 0 _ rfl; exact upB b4.out))⟩; have n3_ : Aside0 (Below w.heap.size w w29) := ⟨(by rw [hw]; exact (by repeat (with_reducible first | exact HB.out | apply yac | apply yab | apply yad | refine yaf ?_ (Aside0.out ‹_›))))⟩; clear hw; clear b5; clear b0; clear b4; clear HB; have b5 := n0_; have b0 := n1_; have b4 := n2_; have HB := n3_; clear n0_ n1_ n2_ n3_; obtain ⟨h6, h7, h8⟩ := cc3_ b4.out; obtain ⟨h9, i0⟩ := cf2_ b4.out; have i1 := yag b4.out 2) | (go_at_call 70; (with_reducible refine (spec_l7Path.calls k1 ((yae l1_5 b3).f0) true _ A7.out).mono ?_); rintro e w' ⟨rfl, ⟨nd, rfl⟩⟩; (try first | exact ⟨rfl, _, World.drewN_drewN _ _ _⟩ | exact ⟨rfl, _, Eq.trans (World.drewN_drewN _ _ _) (congrArg (World.drewN _) (Nat.add_assoc _ _ _))⟩); obtain ⟨i2, i3, i4, i5, i6, i7, i8, i9⟩ := cc8_ b0.out; obtain ⟨j0, j1, j2, j3, j4, j5, j6⟩ := cf7_ b0.out; have j7 := yag b0.out 7) | (go_at_call 63; (with_reducible refine (spec_l1In.calls ((yae l1_5 b3).f1) 0 a1_0 true _ A9.out).mono ?_); rintro e w' ⟨rfl, ⟨nd, rfl⟩⟩; (try first | exact ⟨rfl, _, World.drewN_drewN _ _ _⟩ | exact ⟨rfl, _, Eq.trans (World.drewN_drewN _ _ _) (congrArg (World.drewN _) (Nat.add_assoc _ _ _))⟩); have q32 : (b3 : Int) ≤ ((l1_5.length : Int) : Int) := of_decide_eq_true (by assumption); obtain ⟨i032, hi032, _, e3, _⟩ := info_parts info156; have hroom32 : l1_5.length ≤ c1_5 := HC1_5.out; have hC32 : Kd.C k156 _ (some ad103) l1_5.length l1_5 := HR1_5.out; have hcut32 := cut_to (P := Try.prog) 59 156 .i64 Try.underlying59 hi032 (some ad103) l1_5.length c1_5 b3 (of_decide_eq_true (by assumption)) q32 hroom32; have hr32 := Kd.C_take (m := (b3 : Int).toNat) hC32 (by omega); have hy32 : y107.length = (b3 : Int).toNat := (by rw [Ny107.out, List.length_take]; omega); rw [← Ny107.out] at hr32; rw [← hy32] at hcut32; have HR110 := yaa hr32; have HC110 := yaa (show y107.length ≤ c1_5 from by omega); clear hr32 hC32 hroom32 hi032 e3; have KY32 := yaa hy32; clear hy32; replace q32 := eq_true q32) | (go_at_call 138; (with_reducible refine (spec_l8Kept.calls k1 _ _ y107 ((yae l1_5 b3).f0) e1 _ ?side1 ?side2 A21.out).mono ?_); (case side1 => repeat (first | exact (Kd.C_below HR110.out (by repeat (with_reducible first | exact HB.out | apply yac | apply yab | apply yad | refine yaf ?_ (Aside0.out ‹_›)))) | (with_reducible refine Kd.C_alloc ?_ _) | (with_reducible refine Kd.C_drewN ?_ _) | (with_reducible refine Kd.C_drew ?_))); (case side2 => exact HC110.out); rintro e w' ⟨rfl, ⟨nd, rfl⟩⟩; (try first | exact ⟨rfl, _, World.drewN_drewN _ _ _⟩ | exact ⟨rfl, _, Eq.trans (World.drewN_drewN _ _ _) (congrArg (World.drewN _) (Nat.add_assoc _ _ _))⟩)))
    go_quiet (first | ((with_reducible refine gd_ 6 rfl ?_); (try (refine yai (by rfl) ?_; dsimp only)); refine bx_ 6 rfl #[.string (⟨#[]⟩ : ByteArray), .int .i64 0, .slice none 0 0] 156 ?_; intro b6 hg w25 hbox hb; have b4 := yaa (hbox); have d0 := yaa ((by rw [hg]; exact (yaj (by repeat (with_reducible first | exact HB.out | apply yac | apply yab | apply yad | refine yaf ?_ (Aside0.out ‹_›)))) : w.heap.size ≤ b6)); replace HB := yaa (yak (by repeat (with_reducible first | exact HB.out | apply yac | apply yab | apply yad | refine yaf ?_ (Aside0.out ‹_›))) hb); have d4 := d0; have b1 := yaa ((by rw [hg]; exact Nat.ne_of_lt (blk_lt (upB b5.out)) : c4 ≠ b6)); replace b5 := yaa (yah (upB b5.out) hb); have b7 := yaa b1.out.symm; have b2 := yaa ((by rw [hg]; exact Nat.ne_of_lt (blk_lt (upB b0.out)) : c7 ≠ b6)); replace b0 := yaa (yah (upB b0.out) hb); have b8 := yaa b2.out.symm; clear hb hbox hg; have q6 := b7.out; have q7 := b1.out; have q8 := b8.out; have q9 := b2.out; obtain ⟨h0, h1, h2⟩ := cc3_ b4.out; obtain ⟨h3, h4⟩ := cf2_ b4.out; have h5 := yag b4.out 2) | ((with_reducible refine gate_store (t := 156) (p := 6) rfl ?_); (try (rw [drewN_self w25]; generalize hq_ : World.drewN w25 _ = w25; replace b5 := yaa (blk_at hq_ b5.out); replace b0 := yaa (blk_at hq_ b0.out); replace b4 := yaa (blk_at hq_ b4.out); replace HB := yaa (below_at hq_ HB.out); clear hq_)); refine store_event (t := 156) (p := 6) (v := ?vo_w29) (w1 := (((w25.setCell ⟨b6, 0, none⟩ (.string ((yae l1_5 b3).f0))).setCell ⟨b6, 1, none⟩ (.int .i64 ((yae l1_5 b3).f1))).setCell ⟨b6, 2, none⟩ (.slice d1 ((yae l1_5 b3).f2).length d2))) ?hg ?ho ?hn ?hr ?_; (case ho => rfl); (case hg => rfl); (case hn => rfl); (case hr => first | (go_simp; done) | (go_simp; rfl)); intro w29 hw; have n0_ : Aside0 (w29.heap[c4]? = some (.cells #[.slice A0_0 l0_0.length c0_0, .int .i64 a0_1, .int .i64 a0_2, .int .i64 a0_3, .int .i64 a0_4, .int .i64 a0_5, .int .i64 a0_6] 24 (0, 0))) := ⟨(by rw [hw]; exact (by repeat (with_reducible first | exact b5.out | refine oneB ?_ | refine blk_far ?_ b1.out _)))⟩; have n1_ : Aside0 (w29.heap[c7]? = some (.cells #[.int .i64 a1_0, .int .i64 a1_1, .int .i64 a1_2, .int .i64 a1_3, .slice A1_4 l1_4.length c1_4, .slice (some ad103) l1_5.length c1_5, .slice A1_6 l1_6.length c1_6, .slice A1_7 l1_7.length c1_7] 63 (0, 0))) := ⟨(by rw [hw]; exact (by repeat (with_reducible first | exact b0.out | refine oneB ?_ | refine blk_far ?_ b2.out _)))⟩; have n2_ : Aside0 (w29.heap[b6]? = some (.cells #[.string ((yae l1_5 b3).f0), .int .i64 ((yae l1_5 b3).f1), .slice d1 ((yae l1_5 b3).f2).length d2] 156 (0, 0))) := ⟨(by rw [hw]; exact (by (repeat refine oneB ?_); refine blk_put (cs := #[.string ((yae l1_5 b3).f0), .int .i64 ((yae l1_5 b3).f1), .slice none 0 0]) ?_ 2 _ rfl; refine blk_put (cs := #[.string ((yae l1_5 b3).f0), .int .i64 0, .slice none 0 0]) ?_ 1 _ rfl; refine blk_put (cs := #[.string (⟨#[]⟩ : ByteArray), .int .i64 0, .slice none 0 0]) ?_ 0 _ rfl; exact upB b4.out))⟩; have n3_ : Aside0 (Below w.heap.size w w29) := ⟨(by rw [hw]; exact (by repeat (with_reducible first | exact HB.out | apply yac | apply yab | apply yad | refine yaf ?_ (Aside0.out ‹_›))))⟩; clear hw; clear b5; clear b0; clear b4; clear HB; have b5 := n0_; have b0 := n1_; have b4 := n2_; have HB := n3_; clear n0_ n1_ n2_ n3_; obtain ⟨h6, h7, h8⟩ := cc3_ b4.out; obtain ⟨h9, i0⟩ := cf2_ b4.out; have i1 := yag b4.out 2) | (go_at_call 70; (with_reducible refine (spec_l7Path.calls k1 ((yae l1_5 b3).f0) true _ A7.out).mono ?_); rintro e w' ⟨rfl, ⟨nd, rfl⟩⟩; (try first | exact ⟨rfl, _, World.drewN_drewN _ _ _⟩ | exact ⟨rfl, _, Eq.trans (World.drewN_drewN _ _ _) (congrArg (World.drewN _) (Nat.add_assoc _ _ _))⟩); obtain ⟨i2, i3, i4, i5, i6, i7, i8, i9⟩ := cc8_ b0.out; obtain ⟨j0, j1, j2, j3, j4, j5, j6⟩ := cf7_ b0.out; have j7 := yag b0.out 7) | (go_at_call 63; (with_reducible refine (spec_l1In.calls ((yae l1_5 b3).f1) 0 a1_0 true _ A9.out).mono ?_); rintro e w' ⟨rfl, ⟨nd, rfl⟩⟩; (try first | exact ⟨rfl, _, World.drewN_drewN _ _ _⟩ | exact ⟨rfl, _, Eq.trans (World.drewN_drewN _ _ _) (congrArg (World.drewN _) (Nat.add_assoc _ _ _))⟩); have q32 : (b3 : Int) ≤ ((l1_5.length : Int) : Int) := of_decide_eq_true (by assumption); obtain ⟨i032, hi032, _, e3, _⟩ := info_parts info156; have hroom32 : l1_5.length ≤ c1_5 := HC1_5.out; have hC32 : Kd.C k156 _ (some ad103) l1_5.length l1_5 := HR1_5.out; have hcut32 := cut_to (P := Try.prog) 59 156 .i64 Try.underlying59 hi032 (some ad103) l1_5.length c1_5 b3 (of_decide_eq_true (by assumption)) q32 hroom32; have hr32 := Kd.C_take (m := (b3 : Int).toNat) hC32 (by omega); have hy32 : y107.length = (b3 : Int).toNat := (by rw [Ny107.out, List.length_take]; omega); rw [← Ny107.out] at hr32; rw [← hy32] at hcut32; have HR110 := yaa hr32; have HC110 := yaa (show y107.length ≤ c1_5 from by omega); clear hr32 hC32 hroom32 hi032 e3; have KY32 := yaa hy32; clear hy32; replace q32 := eq_true q32) | (go_at_call 138; (with_reducible refine (spec_l8Kept.calls k1 _ _ y107 ((yae l1_5 b3).f0) e1 _ ?side1 ?side2 A21.out).mono ?_); (case side1 => repeat (first | exact (Kd.C_below HR110.out (by repeat (with_reducible first | exact HB.out | apply yac | apply yab | apply yad | refine yaf ?_ (Aside0.out ‹_›)))) | (with_reducible refine Kd.C_alloc ?_ _) | (with_reducible refine Kd.C_drewN ?_ _) | (with_reducible refine Kd.C_drew ?_))); (case side2 => exact HC110.out); rintro e w' ⟨rfl, ⟨nd, rfl⟩⟩; (try first | exact ⟨rfl, _, World.drewN_drewN _ _ _⟩ | exact ⟨rfl, _, Eq.trans (World.drewN_drewN _ _ _) (congrArg (World.drewN _) (Nat.add_assoc _ _ _))⟩)))
    go_wp2
    go_ret
    exact ⟨by first | rfl | (simp [*, errW_none, errW_some] <;> rfl), by repeat (with_reducible first | exact HB.out | apply yac | apply yab | apply yad | refine yaf ?_ (Aside0.out ‹_›))⟩
   rw [if_neg c22] at H
   have q5 : decide (0 ≤ e1) = false := decide_eq_false c22; clear c22; have H' := yaa H; clear H; have F9 := c9.out; have G0 := b9.out; obtain ⟨v6, v7, v8, v9, w0, w2, w5, w6⟩ := cc8_ b0.out; obtain ⟨w7, w8, w9, x0, x1, x2, x3, x4⟩ := cf8_ b0.out; have p103 : 0 ≤ (b3 : Int) := of_decide_eq_true (by assumption); have q103 : b3 < (l1_5.length : Int) := of_decide_eq_true (by assumption); obtain ⟨ad103, d1, d2, d7, c0, c2, c3, hl103_2, hi103_2⟩ := at_T156 HR1_5.out b3 p103 q103
   cases d7
   replace c0 := (upc_ HB.out c0 :); replace c2 := (upc_ HB.out c2 :); replace c3 := (upc_ HB.out c3 :); have HR103_2 := yaa hi103_2; have HC103_2 := yaa hl103_2; clear hi103_2 hl103_2; replace p103 := eq_true p103; replace q103 := eq_true q103
   go_wp2_with (first | ((with_reducible refine gd_ 6 rfl ?_); (try (refine yai (by rfl) ?_; dsimp only)); refine bx_ 6 rfl #[.string (⟨#[]⟩ : ByteArray), .int .i64 0, .slice none 0 0] 156 ?_; intro b6 hg w35 hbox hb; have b4 := yaa (hbox); have d0 := yaa ((by rw [hg]; exact (yaj (by repeat (with_reducible first | exact HB.out | apply yac | apply yab | apply yad | refine yaf ?_ (Aside0.out ‹_›)))) : w.heap.size ≤ b6)); replace HB := yaa (yak (by repeat (with_reducible first | exact HB.out | apply yac | apply yab | apply yad | refine yaf ?_ (Aside0.out ‹_›))) hb); have d4 := d0; have b1 := yaa ((by rw [hg]; exact Nat.ne_of_lt (blk_lt (upB b5.out)) : c4 ≠ b6)); replace b5 := yaa (yah (upB b5.out) hb); have b7 := yaa b1.out.symm; have b2 := yaa ((by rw [hg]; exact Nat.ne_of_lt (blk_lt (upB b0.out)) : c7 ≠ b6)); replace b0 := yaa (yah (upB b0.out) hb); have b8 := yaa b2.out.symm; clear hb hbox hg; have r0 := b7.out; have r1 := b1.out; have r2 := b8.out; have r3 := b2.out; obtain ⟨j8, j9, k0⟩ := cc3_ b4.out; obtain ⟨k2, k3⟩ := cf2_ b4.out; have k4 := yag b4.out 2) | ((with_reducible refine gate_store (t := 156) (p := 6) rfl ?_); (try (rw [drewN_self w35]; generalize hq_ : World.drewN w35 _ = w35; replace b5 := yaa (blk_at hq_ b5.out); replace b0 := yaa (blk_at hq_ b0.out); replace b4 := yaa (blk_at hq_ b4.out); replace HB := yaa (below_at hq_ HB.out); clear hq_)); refine store_event (t := 156) (p := 6) (v := ?vo_w39) (w1 := (((w35.setCell ⟨b6, 0, none⟩ (.string ((yae l1_5 b3).f0))).setCell ⟨b6, 1, none⟩ (.int .i64 ((yae l1_5 b3).f1))).setCell ⟨b6, 2, none⟩ (.slice d1 ((yae l1_5 b3).f2).length d2))) ?hg ?ho ?hn ?hr ?_; (case ho => rfl); (case hg => rfl); (case hn => rfl); (case hr => first | (go_simp; done) | (go_simp; rfl)); intro w39 hw; have n0_ : Aside0 (w39.heap[c4]? = some (.cells #[.slice A0_0 l0_0.length c0_0, .int .i64 a0_1, .int .i64 a0_2, .int .i64 a0_3, .int .i64 a0_4, .int .i64 a0_5, .int .i64 a0_6] 24 (0, 0))) := ⟨(by rw [hw]; exact (by repeat (with_reducible first | exact b5.out | refine oneB ?_ | refine blk_far ?_ b1.out _)))⟩; have n1_ : Aside0 (w39.heap[c7]? = some (.cells #[.int .i64 a1_0, .int .i64 a1_1, .int .i64 a1_2, .int .i64 a1_3, .slice A1_4 l1_4.length c1_4, .slice (some ad103) l1_5.length c1_5, .slice A1_6 l1_6.length c1_6, .slice A1_7 l1_7.length c1_7] 63 (0, 0))) := ⟨(by rw [hw]; exact (by repeat (with_reducible first | exact b0.out | refine oneB ?_ | refine blk_far ?_ b2.out _)))⟩; have n2_ : Aside0 (w39.heap[b6]? = some (.cells #[.string ((yae l1_5 b3).f0), .int .i64 ((yae l1_5 b3).f1), .slice d1 ((yae l1_5 b3).f2).length d2] 156 (0, 0))) := ⟨(by rw [hw]; exact (by (repeat refine oneB ?_); refine blk_put (cs := #[.string ((yae l1_5 b3).f0), .int .i64 ((yae l1_5 b3).f1), .slice none 0 0]) ?_ 2 _ rfl; refine blk_put (cs := #[.string ((yae l1_5 b3).f0), .int .i64 0, .slice none 0 0]) ?_ 1 _ rfl; refine blk_put (cs := #[.string (⟨#[]⟩ : ByteArray), .int .i64 0, .slice none 0 0]) ?_ 0 _ rfl; exact upB b4.out))⟩; have n3_ : Aside0 (Below w.heap.size w w39) := ⟨(by rw [hw]; exact (by repeat (with_reducible first | exact HB.out | apply yac | apply yab | apply yad | refine yaf ?_ (Aside0.out ‹_›))))⟩; clear hw; clear b5; clear b0; clear b4; clear HB; have b5 := n0_; have b0 := n1_; have b4 := n2_; have HB := n3_; clear n0_ n1_ n2_ n3_; obtain ⟨k5, k6, k7⟩ := cc3_ b4.out; obtain ⟨k8, k9⟩ := cf2_ b4.out; have l1 := yag b4.out 2) | (go_at_call 70; (with_reducible refine (spec_l7Path.calls k1 ((yae l1_5 b3).f0) true _ A7.out).mono ?_); rintro e w' ⟨rfl, ⟨nd, rfl⟩⟩; (try first | exact ⟨rfl, _, World.drewN_drewN _ _ _⟩ | exact ⟨rfl, _, Eq.trans (World.drewN_drewN _ _ _) (congrArg (World.drewN _) (Nat.add_assoc _ _ _))⟩); obtain ⟨l2, l3, l4, l5, l6, l7, l8, l9⟩ := cc8_ b0.out; obtain ⟨m0, m1, m2, m3, m4, m5, m6⟩ := cf7_ b0.out; have m7 := yag b0.out 7) | (go_at_call 63; (with_reducible refine (spec_l1In.calls ((yae l1_5 b3).f1) 0 a1_0 true _ A9.out).mono ?_); rintro e w' ⟨rfl, ⟨nd, rfl⟩⟩; (try first | exact ⟨rfl, _, World.drewN_drewN _ _ _⟩ | exact ⟨rfl, _, Eq.trans (World.drewN_drewN _ _ _) (congrArg (World.drewN _) (Nat.add_assoc _ _ _))⟩); have q42 : (b3 : Int) ≤ ((l1_5.length : Int) : Int) := of_decide_eq_true (by assumption); obtain ⟨i042, hi042, _, e4, _⟩ := info_parts info156; have hroom42 : l1_5.length ≤ c1_5 := HC1_5.out; have hC42 : Kd.C k156 _ (some ad103) l1_5.length l1_5 := HR1_5.out; have hcut42 := cut_to (P := Try.prog) 59 156 .i64 Try.underlying59 hi042 (some ad103) l1_5.length c1_5 b3 (of_decide_eq_true (by assumption)) q42 hroom42; have hr42 := Kd.C_take (m := (b3 : Int).toNat) hC42 (by omega); have hy42 : y107.length = (b3 : Int).toNat := (by rw [Ny107.out, List.length_take]; omega); rw [← Ny107.out] at hr42; rw [← hy42] at hcut42; have HR110 := yaa hr42; have HC110 := yaa (show y107.length ≤ c1_5 from by omega); clear hr42 hC42 hroom42 hi042 e4; have KY42 := yaa hy42; clear hy42; replace q42 := eq_true q42) | (go_at_call 138; (with_reducible refine (spec_l8Kept.calls k1 _ _ y107 ((yae l1_5 b3).f0) e1 _ ?side1 ?side2 A21.out).mono ?_); (case side1 => repeat (first | exact (Kd.C_below HR110.out (by repeat (with_reducible first | exact HB.out | apply yac | apply yab | apply yad | refine yaf ?_ (Aside0.out ‹_›)))) | (with_reducible refine Kd.C_alloc ?_ _) | (with_reducible refine Kd.C_drewN ?_ _) | (with_reducible refine Kd.C_drew ?_))); (case side2 => exact HC110.out); rintro e w' ⟨rfl, ⟨nd, rfl⟩⟩; (try first | exact ⟨rfl, _, World.drewN_drewN _ _ _⟩ | exact ⟨rfl, _, Eq.trans (World.drewN_drewN _ _ _) (congrArg (World.drewN _) (Nat.add_assoc _ _ _))⟩)))
   go_quiet (first | ((with_reducible refine gd_ 6 rfl ?_); (try (refine yai (by rfl) ?_; dsimp only)); refine bx_ 6 rfl #[.string (⟨#[]⟩ : ByteArray), .int .i64 0, .slice none 0 0] 156 ?_; intro b6 hg w35 hbox hb; have b4 := yaa (hbox); have d0 := yaa ((by rw [hg]; exact (yaj (by repeat (with_reducible first | exact HB.out | apply yac | apply yab | apply yad | refine yaf ?_ (Aside0.out ‹_›)))) : w.heap.size ≤ b6)); replace HB := yaa (yak (by repeat (with_reducible first | exact HB.out | apply yac | apply yab | apply yad | refine yaf ?_ (Aside0.out ‹_›))) hb); have d4 := d0; have b1 := yaa ((by rw [hg]; exact Nat.ne_of_lt (blk_lt (upB b5.out)) : c4 ≠ b6)); replace b5 := yaa (yah (upB b5.out) hb); have b7 := yaa b1.out.symm; have b2 := yaa ((by rw [hg]; exact Nat.ne_of_lt (blk_lt (upB b0.out)) : c7 ≠ b6)); replace b0 := yaa (yah (upB b0.out) hb); have b8 := yaa b2.out.symm; clear hb hbox hg; have r0 := b7.out; have r1 := b1.out; have r2 := b8.out; have r3 := b2.out; obtain ⟨j8, j9, k0⟩ := cc3_ b4.out; obtain ⟨k2, k3⟩ := cf2_ b4.out; have k4 := yag b4.out 2) | ((with_reducible refine gate_store (t := 156) (p := 6) rfl ?_); (try (rw [drewN_self w35]; generalize hq_ : World.drewN w35 _ = w35; replace b5 := yaa (blk_at hq_ b5.out); replace b0 := yaa (blk_at hq_ b0.out); replace b4 := yaa (blk_at hq_ b4.out); replace HB := yaa (below_at hq_ HB.out); clear hq_)); refine store_event (t := 156) (p := 6) (v := ?vo_w39) (w1 := (((w35.setCell ⟨b6, 0, none⟩ (.string ((yae l1_5 b3).f0))).setCell ⟨b6, 1, none⟩ (.int .i64 ((yae l1_5 b3).f1))).setCell ⟨b6, 2, none⟩ (.slice d1 ((yae l1_5 b3).f2).length d2))) ?hg ?ho ?hn ?hr ?_; (case ho => rfl); (case hg => rfl); (case hn => rfl); (case hr => first | (go_simp; done) | (go_simp; rfl)); intro w39 hw; have n0_ : Aside0 (w39.heap[c4]? = some (.cells #[.slice A0_0 l0_0.length c0_0, .int .i64 a0_1, .int .i64 a0_2, .int .i64 a0_3, .int .i64 a0_4, .int .i64 a0_5, .int .i64 a0_6] 24 (0, 0))) := ⟨(by rw [hw]; exact (by repeat (with_reducible first | exact b5.out | refine oneB ?_ | refine blk_far ?_ b1.out _)))⟩; have n1_ : Aside0 (w39.heap[c7]? = some (.cells #[.int .i64 a1_0, .int .i64 a1_1, .int .i64 a1_2, .int .i64 a1_3, .slice A1_4 l1_4.length c1_4, .slice (some ad103) l1_5.length c1_5, .slice A1_6 l1_6.length c1_6, .slice A1_7 l1_7.length c1_7] 63 (0, 0))) := ⟨(by rw [hw]; exact (by repeat (with_reducible first | exact b0.out | refine oneB ?_ | refine blk_far ?_ b2.out _)))⟩; have n2_ : Aside0 (w39.heap[b6]? = some (.cells #[.string ((yae l1_5 b3).f0), .int .i64 ((yae l1_5 b3).f1), .slice d1 ((yae l1_5 b3).f2).length d2] 156 (0, 0))) := ⟨(by rw [hw]; exact (by (repeat refine oneB ?_); refine blk_put (cs := #[.string ((yae l1_5 b3).f0), .int .i64 ((yae l1_5 b3).f1), .slice none 0 0]) ?_ 2 _ rfl; refine blk_put (cs := #[.string ((yae l1_5 b3).f0), .int .i64 0, .slice none 0 0]) ?_ 1 _ rfl; refine blk_put (cs := #[.string (⟨#[]⟩ : ByteArray), .int .i64 0, .slice none 0 0]) ?_ 0 _ rfl; exact upB b4.out))⟩; have n3_ : Aside0 (Below w.heap.size w w39) := ⟨(by rw [hw]; exact (by repeat (with_reducible first | exact HB.out | apply yac | apply yab | apply yad | refine yaf ?_ (Aside0.out ‹_›))))⟩; clear hw; clear b5; clear b0; clear b4; clear HB; have b5 := n0_; have b0 := n1_; have b4 := n2_; have HB := n3_; clear n0_ n1_ n2_ n3_; obtain ⟨k5, k6, k7⟩ := cc3_ b4.out; obtain ⟨k8, k9⟩ := cf2_ b4.out; have l1 := yag b4.out 2) | (go_at_call 70; (with_reducible refine (spec_l7Path.calls k1 ((yae l1_5 b3).f0) true _ A7.out).mono ?_); rintro e w' ⟨rfl, ⟨nd, rfl⟩⟩; (try first | exact ⟨rfl, _, World.drewN_drewN _ _ _⟩ | exact ⟨rfl, _, Eq.trans (World.drewN_drewN _ _ _) (congrArg (World.drewN _) (Nat.add_assoc _ _ _))⟩); obtain ⟨l2, l3, l4, l5, l6, l7, l8, l9⟩ := cc8_ b0.out; obtain ⟨m0, m1, m2, m3, m4, m5, m6⟩ := cf7_ b0.out; have m7 := yag b0.out 7) | (go_at_call 63; (with_reducible refine (spec_l1In.calls ((yae l1_5 b3).f1) 0 a1_0 true _ A9.out).mono ?_); rintro e w' ⟨rfl, ⟨nd, rfl⟩⟩; (try first | exact ⟨rfl, _, World.drewN_drewN _ _ _⟩ | exact ⟨rfl, _, Eq.trans (World.drewN_drewN _ _ _) (congrArg (World.drewN _) (Nat.add_assoc _ _ _))⟩); have q42 : (b3 : Int) ≤ ((l1_5.length : Int) : Int) := of_decide_eq_true (by assumption); obtain ⟨i042, hi042, _, e4, _⟩ := info_parts info156; have hroom42 : l1_5.length ≤ c1_5 := HC1_5.out; have hC42 : Kd.C k156 _ (some ad103) l1_5.length l1_5 := HR1_5.out; have hcut42 := cut_to (P := Try.prog) 59 156 .i64 Try.underlying59 hi042 (some ad103) l1_5.length c1_5 b3 (of_decide_eq_true (by assumption)) q42 hroom42; have hr42 := Kd.C_take (m := (b3 : Int).toNat) hC42 (by omega); have hy42 : y107.length = (b3 : Int).toNat := (by rw [Ny107.out, List.length_take]; omega); rw [← Ny107.out] at hr42; rw [← hy42] at hcut42; have HR110 := yaa hr42; have HC110 := yaa (show y107.length ≤ c1_5 from by omega); clear hr42 hC42 hroom42 hi042 e4; have KY42 := yaa hy42; clear hy42; replace q42 := eq_true q42) | (go_at_call 138; (with_reducible refine (spec_l8Kept.calls k1 _ _ y107 ((yae l1_5 b3).f0) e1 _ ?side1 ?side2 A21.out).mono ?_); (case side1 => repeat (first | exact (Kd.C_below HR110.out (by repeat (with_reducible first | exact HB.out | apply yac | apply yab | apply yad | refine yaf ?_ (Aside0.out ‹_›)))) | (with_reducible refine Kd.C_alloc ?_ _) | (with_reducible refine Kd.C_drewN ?_ _) | (with_reducible refine Kd.C_drew ?_))); (case side2 => exact HC110.out); rintro e w' ⟨rfl, ⟨nd, rfl⟩⟩; (try first | exact ⟨rfl, _, World.drewN_drewN _ _ _⟩ | exact ⟨rfl, _, Eq.trans (World.drewN_drewN _ _ _) (congrArg (World.drewN _) (Nat.add_assoc _ _ _))⟩)))
   go_wp2
   go_roundg k1
   case measure => have := HK1.out; omega
   case rel => exact ⟨(wrap64 (b3 + 1)), (by first | rfl | (simp; done) | (simp [*]; done)), H', ⟨by have := HK1.out; omega⟩, ⟨by exact upB b5.out⟩, ⟨by exact upB b0.out⟩, ⟨by repeat (with_reducible first | exact HB.out | apply yac | apply yab | apply yad | refine yaf ?_ (Aside0.out ‹_›))⟩⟩
end
section
def spec_l8Code.l0 : Nat → Int → List Int → Int → Option (Bool)
 | 0, _, _, _ => none
 | k + 1, x0, x3, x4 => if x4 < (x3.length : Int) then (if 0 ≤ x4 then (if (rd x3 x4) = x0 then (some true) else (spec_l8Code.l0 k x0 x3 (wrap64 (x4 + 1)))) else (none)) else (some false)
def spec_l8Code.f (k : Nat) (a0 : Int) : Option (Bool) := spec_l8Code.l0 k a0 (([200, 400, 403, 413, 415, 422, 429, 502, 503, 504] : List Int)) 0
set_option maxHeartbeats 8000000 in
set_option maxRecDepth 100000 in
theorem spec_l8Code.calls (k : Nat) (a0 : Int) (r : Bool) (w : World) (h : spec_l8Code.f k a0 = some r) :
  Calls Try.prog 139 #[.int .i64 a0] w fun e w' => e = .returned (.bool r) ∧ Below w.heap.size w w' := by
 have HB := Aside0.mk (Below.refl w.heap.size w); have H : (spec_l8Code.l0 k a0 (([200, 400, 403, 413, 415, 422, 429, 502, 503, 504] : List Int)) 0) = some r := h; clear h; obtain ⟨y101, hy101⟩ : ∃ y_ : List Int, y_ = (([200, 400, 403, 413, 415, 422, 429, 502, 503, 504] : List Int)) := ⟨_, rfl⟩
 replace H : (spec_l8Code.l0 k a0 y101 0) = some r := by first | (rw [hy101]; with_reducible exact H) | (have H2_ := (Option.bind_some _ _).symm.trans H; rw [hy101]; with_reducible exact H2_) | (have H2_ := (Option.bind_some _ _).symm.trans H; with_reducible exact H2_) | with_reducible exact H | (rw [hy101]; exact H) | exact H
 have Ny101 := Aside0.mk hy101; clear hy101; have H' := Aside0.mk H; clear H
 go_enter Try.func139, Try.ntmps139
 go_wp2_with (first | ((with_reducible refine gd_ 5 rfl ?_); refine Kd.R_lit (Kd.int .i64) _ 3 ?hg (N := 5) ?hd (xs := ([200, 400, 403, 413, 415, 422, 429, 502, 503, 504] : List Int)) (inner := [.int .i64 200, .int .i64 400, .int .i64 403, .int .i64 413, .int .i64 415, .int .i64 422, .int .i64 429, .int .i64 502, .int .i64 503, .int .i64 504]) (ok := fun _ => True) (okp := fun _ => True) ?hr ?hp (fun _ hk => hk) trivial (Below.refl _ _) (Nat.le_refl _) (by simp) ?_; (case hd => rfl); (case hg => rfl); (case hr => first | (go_simp; done) | (go_simp; rfl)); (case hp => exact (Reps.one (show Kd.M (Kd.int .i64) _ _ _ 200 [.int .i64 200] from rfl) (Reps.one (show Kd.M (Kd.int .i64) _ _ _ 400 [.int .i64 400] from rfl) (Reps.one (show Kd.M (Kd.int .i64) _ _ _ 403 [.int .i64 403] from rfl) (Reps.one (show Kd.M (Kd.int .i64) _ _ _ 413 [.int .i64 413] from rfl) (Reps.one (show Kd.M (Kd.int .i64) _ _ _ 415 [.int .i64 415] from rfl) (Reps.one (show Kd.M (Kd.int .i64) _ _ _ 422 [.int .i64 422] from rfl) (Reps.one (show Kd.M (Kd.int .i64) _ _ _ 429 [.int .i64 429] from rfl) (Reps.one (show Kd.M (Kd.int .i64) _ _ _ 502 [.int .i64 502] from rfl) (Reps.one (show Kd.M (Kd.int .i64) _ _ _ 503 [.int .i64 503] from rfl) (Reps.one (show Kd.M (Kd.int .i64) _ _ _ 504 [.int .i64 504] from rfl) (Reps.none _ _)))))))))))); intro a6 w2 ho3 hb hg_ hnew_; clear hg_ hnew_; (first | rw [← Ny101.out] at ho3 | (simp only [Int.reduceToNat] at ho3; rw [← Ny101.out] at ho3)); have a4 := Aside0.mk (Kd.R_lower ho3 (below_size (upH HB.out))); replace HB := Aside0.mk (below_step (upH HB.out) hb); clear hb ho3))
 (try simp only [Act.put, List.setIfInBounds_toArray, List.set_cons_zero, List.set_cons_succ])
 go_loopg [4] k (fun kq v4 w' => ∃ (a1 : Int), v4 = .int .i64 a1 ∧ Aside0 (spec_l8Code.l0 kq a0 y101 a1 = some r) ∧ Aside0 (kq ≤ k) ∧ Aside0 (Kd.R (Kd.int .i64) 3 w' w.heap.size (fun _ => True) a6 y101) ∧ Aside0 (Below w.heap.size w w'))
 case atStart => exact ⟨(0), (by first | rfl | (simp; done) | (simp [*]; done)), H', ⟨Nat.le_refl _⟩, ⟨by first | exact a4.out | exact upR a4.out⟩, ⟨upH HB.out⟩⟩
 case round =>
  clear H'; (try clear c1); (try clear p2); obtain ⟨a1, rfl, HA, HK1, a2, HB⟩ := hrel
  cases gk with
  | zero => exact absurd HA.out (by simp [spec_l8Code.l0])
  | succ k1 =>
   have H := HA.out; clear HA
   simp only [spec_l8Code.l0] at H
   by_cases c4 : a1 < (y101.length : Int)
   rotate_left
   ·
    rw [if_neg c4] at H
    have a7 : decide (a1 < (y101.length : Int)) = false := decide_eq_false c4; clear c4; obtain rfl := Option.some.inj H; obtain ⟨Ao9, co9, eo9⟩ := Kd.R_slice a2.out; subst eo9
    go_wp2
    go_ret
    exact ⟨by first | rfl | (simp [*, errW_none, errW_some] <;> rfl), upH HB.out⟩
   rw [if_pos c4] at H
   have a7 : decide (a1 < (y101.length : Int)) = true := decide_eq_true c4; clear c4
   by_cases c5 : 0 ≤ a1
   rotate_left
   ·
    rw [if_neg c5] at H
    exact absurd H (by simp)
   rw [if_pos c5] at H
   replace c5 := decide_eq_true c5
   by_cases c6 : (rd y101 a1) = a0
   ·
    rw [if_pos c6] at H
    have a8 := beq_iff_eq.mpr c6; have a9 := bne_eq_false_iff_eq.mpr c6; clear c6; obtain rfl := Option.some.inj H; obtain ⟨Ao7, co7, eo7⟩ := Kd.R_slice a2.out; subst eo7; have p104 : 0 ≤ (a1 : Int) := of_decide_eq_true (by assumption); have q104 : a1 < (y101.length : Int) := of_decide_eq_true (by assumption); obtain ⟨ad104, a5, a3⟩ := Kd.at_int (Kd.R_reads' a2.out).2.2 a1 p104 q104
    cases a5
    replace p104 := eq_true p104; replace q104 := eq_true q104
    go_wp2
    go_ret
    exact ⟨by first | rfl | (simp [*, errW_none, errW_some] <;> rfl), upH HB.out⟩
   rw [if_neg c6] at H
   have a8 := beq_eq_false_iff_ne.mpr c6; have a9 := bne_iff_ne.mpr c6; have H' := Aside0.mk H; clear H; obtain ⟨Ao8, co8, eo8⟩ := Kd.R_slice a2.out; subst eo8; have p104 : 0 ≤ (a1 : Int) := of_decide_eq_true (by assumption); have q104 : a1 < (y101.length : Int) := of_decide_eq_true (by assumption); obtain ⟨ad104, a5, a3⟩ := Kd.at_int (Kd.R_reads' a2.out).2.2 a1 p104 q104
   cases a5
   replace p104 := eq_true p104; replace q104 := eq_true q104
   go_wp2
   go_roundg k1
   case measure => have := HK1.out; omega
   case rel => exact ⟨(wrap64 (a1 + 1)), (by first | rfl | (simp; done) | (simp [*]; done)), H', ⟨by have := HK1.out; omega⟩, ⟨by first | exact a2.out | exact upR a2.out⟩, ⟨upH HB.out⟩⟩
end
section
open Go.Proofs.YtgpkkkmapgnhkaaW.PrintWords.Aside0 renaming mk → yaa
open Go.Proofs.YtgpkkkmapgnhkaaW.PrintWords renaming pw_below_drewN → yab, below_alloc → yad, below_drew1 → yae, below_set → yaf
open Go.Proofs.Ytgpkkkmapgnhkaa.X renaming rd_T158 → yac
mutual
def spec_l8Outs.j0 : Nat → Bool → Int → Int → Int → Int → List (S124) → List (S156) → List ByteArray → List (S158) → Option (Bool)
 | 0, _, _, _, _, _, _, _, _, _ => none
 | k + 1, x15, x102000, x102001, x102002, x102003, x102004, x102005, x102006, x102007 => if x15 = true then (some false) else (spec_l8Outs.l0 k 0 x102000 x102001 x102002 x102003 x102004 x102005 x102006 x102007)
def spec_l8Outs.l0 : Nat → Int → Int → Int → Int → Int → List (S124) → List (S156) → List ByteArray → List (S158) → Option (Bool)
 | 0, _, _, _, _, _, _, _, _, _ => none
 | k + 1, x3, x102000, x102001, x102002, x102003, x102004, x102005, x102006, x102007 => if x3 < (x102007.length : Int) then (if 0 ≤ x3 then ((spec_l1In.f ((rd_T158 x102007 x3).f0) 0 (wrap64 (x102003 - 1))).bind fun t104 => (if t104 = true then ((spec_l8Code.f k ((rd_T158 x102007 x3).f1)).bind fun t105 => (if t105 = true then (if (((rd_T158 x102007 x3).f2).length : Int) > 220 then (some false) else (if ((((rd_T158 x102007 x3).f1) == 200) != (decide ((((rd_T158 x102007 x3).f2).length : Int) > 0))) = true then (some false) else (spec_l8Outs.l0 k (wrap64 (x3 + 1)) x102000 x102001 x102002 x102003 x102004 x102005 x102006 x102007))) else (some false))) else (some false))) else (none)) else (spec_l8Outs.l1 k 0 x102000 x102001 x102002 x102003 x102004 x102005 x102006 x102007)
def spec_l8Outs.l1 : Nat → Int → Int → Int → Int → Int → List (S124) → List (S156) → List ByteArray → List (S158) → Option (Bool)
 | 0, _, _, _, _, _, _, _, _, _ => none
 | k + 1, x5, x102000, x102001, x102002, x102003, x102004, x102005, x102006, x102007 => if x5 < (x102006.length : Int) then (if 0 ≤ x5 then ((spec_l7Path.f k (rdOf ByteArray.empty x102006 x5)).bind fun t107 => (if t107 = true then (spec_l8Outs.l1 k (wrap64 (x5 + 1)) x102000 x102001 x102002 x102003 x102004 x102005 x102006 x102007) else (some false))) else (none)) else (some true)
end
def spec_l8Outs.f (k : Nat) (a0_0 : Int) (a0_1 : Int) (a0_2 : Int) (a0_3 : Int) (l0_4 : List (S124)) (l0_5 : List (S156)) (l0_6 : List ByteArray) (l0_7 : List (S158)) : Option (Bool) := if (l0_7.length : Int) > 60 then (spec_l8Outs.j0 k true a0_0 a0_1 a0_2 a0_3 l0_4 l0_5 l0_6 l0_7) else (spec_l8Outs.j0 k (decide ((l0_6.length : Int) > 60)) a0_0 a0_1 a0_2 a0_3 l0_4 l0_5 l0_6 l0_7)
set_option maxHeartbeats 8000000 in
set_option maxRecDepth 100000 in
theorem spec_l8Outs.calls (k : Nat) (a0_0 : Int) (a0_1 : Int) (a0_2 : Int) (a0_3 : Int) (A0_4 : Option Addr) (c0_4 : Nat) (l0_4 : List (S124)) (A0_5 : Option Addr) (c0_5 : Nat) (l0_5 : List (S156)) (A0_6 : Option Addr) (c0_6 : Nat) (l0_6 : List ByteArray) (A0_7 : Option Addr) (c0_7 : Nat) (l0_7 : List (S158)) (r : Bool) (w : World) (hr0_4 : Kd.C k124 w A0_4 l0_4.length l0_4) (hc0_4 : l0_4.length ≤ c0_4) (hr0_5 : Kd.C k156 w A0_5 l0_5.length l0_5) (hc0_5 : l0_5.length ≤ c0_5) (hr0_6 : Kd.C Kd.string w A0_6 l0_6.length l0_6) (hc0_6 : l0_6.length ≤ c0_6) (hr0_7 : Kd.C k158 w A0_7 l0_7.length l0_7) (hc0_7 : l0_7.length ≤ c0_7) (h : spec_l8Outs.f k a0_0 a0_1 a0_2 a0_3 l0_4 l0_5 l0_6 l0_7 = some r) :
  Calls Try.prog 110 #[.agg #[.int .i64 a0_0, .int .i64 a0_1, .int .i64 a0_2, .int .i64 a0_3, .slice A0_4 l0_4.length c0_4, .slice A0_5 l0_5.length c0_5, .slice A0_6 l0_6.length c0_6, .slice A0_7 l0_7.length c0_7]] w fun e w' => e = .returned (.bool r) ∧ Below w.heap.size w w' := by
 have hu63 := Try.underlying63; have hu158 := Try.underlying158; have HR0_4 := yaa hr0_4; have HC0_4 := yaa hc0_4; clear hr0_4 hc0_4; have HR0_5 := yaa hr0_5; have HC0_5 := yaa hc0_5; clear hr0_5 hc0_5; have HR0_6 := yaa hr0_6; have HC0_6 := yaa hc0_6; clear hr0_6 hc0_6; have HR0_7 := yaa hr0_7; have HC0_7 := yaa hc0_7; clear hr0_7 hc0_7; have HB := yaa (Below.refl w.heap.size w); have H : (if (l0_7.length : Int) > 60 then (spec_l8Outs.j0 k true a0_0 a0_1 a0_2 a0_3 l0_4 l0_5 l0_6 l0_7) else (spec_l8Outs.j0 k (decide ((l0_6.length : Int) > 60)) a0_0 a0_1 a0_2 a0_3 l0_4 l0_5 l0_6 l0_7)) = some r := h; clear h; have HC2 := yaa H; clear H
 go_enter Try.func110, Try.ntmps110
 go_upto_region 1 with (first | ((with_reducible refine gd_ 1 rfl ?_); (try (refine gate_guard (by rfl) ?_; dsimp only)); refine bx_ 1 rfl #[.int .i64 a0_0, .int .i64 a0_1, .int .i64 a0_2, .int .i64 a0_3, .slice A0_4 l0_4.length c0_4, .slice A0_5 l0_5.length c0_5, .slice A0_6 l0_6.length c0_6, .slice A0_7 l0_7.length c0_7] 63 ?_; intro b7 hg w3 hbox hb; have a8 := yaa (hbox); have G9 := yaa ((by rw [hg]; exact (below_size (upH HB.out)) : w.heap.size ≤ b7)); replace HB := yaa (below_step (upH HB.out) hb); have M5 := G9; clear hb hbox hg))
 (try simp only [Act.put, List.setIfInBounds_toArray, List.set_cons_zero, List.set_cons_succ])
 go_cut [15] (fun v15 wc => ∃ (kq : Nat) (h1 : Bool), v15 = .bool h1 ∧ Aside0 (spec_l8Outs.j0 kq h1 a0_0 a0_1 a0_2 a0_3 l0_4 l0_5 l0_6 l0_7 = some r) ∧ Aside0 (kq ≤ k) ∧ Aside0 (wc.heap[b7]? = some (.cells #[.int .i64 a0_0, .int .i64 a0_1, .int .i64 a0_2, .int .i64 a0_3, (.slice A0_4 l0_4.length c0_4), (.slice A0_5 l0_5.length c0_5), (.slice A0_6 l0_6.length c0_6), (.slice A0_7 l0_7.length c0_7)] 63 (0, 0))) ∧ Aside0 (Below w.heap.size w wc))
 case first =>
  have H := HC2.out; clear HC2
  by_cases c4 : (l0_7.length : Int) > 60
  ·
   rw [if_pos c4] at H
   have d4 : decide (60 < (l0_7.length : Int)) = true := decide_eq_true c4; have h3 : decide (60 < l0_7.length) = true := decide_eq_true (by omega); clear c4
   (first | rw [d4] | (simp only [i64_w, i32_w]; rw [d4]) | skip)
   have H' := yaa H; clear H; obtain ⟨d5, d6, d7, d8, d9, e0, e1, e2⟩ := cc8_ a8.out; obtain ⟨e3, e4, e5, e6, e7, e8, e9, f3⟩ := cf8_ a8.out
   go_wp2
   go_meet
   case rel => exact ⟨_, (true), (by first | rfl | (simp; done) | (simp [*]; done)), H', ⟨by first | omega | exact Nat.le_refl _⟩, ⟨by exact upB a8.out⟩, ⟨by repeat (with_reducible first | exact HB.out | apply yad | apply yab | apply yae | refine yaf ?_ (Aside0.out ‹_›))⟩⟩
  rw [if_neg c4] at H
  have d4 : decide (60 < (l0_7.length : Int)) = false := decide_eq_false c4; have h3 : decide (60 < l0_7.length) = false := decide_eq_false (by omega); clear c4
  (first | rw [d4] | (simp only [i64_w, i32_w]; rw [d4]) | skip)
  have H' := yaa H; clear H; obtain ⟨f4, f5, f6, f7, f8, f9, g0, g1⟩ := cc8_ a8.out; obtain ⟨g2, g3, g4, g5, g6, g7, g8, g9⟩ := cf8_ a8.out
  go_wp2
  go_meet
  case rel => exact ⟨_, (decide ((l0_6.length : Int) > 60)), (by first | rfl | (simp; done) | (simp [*]; done)), H', ⟨by first | omega | exact Nat.le_refl _⟩, ⟨by exact upB a8.out⟩, ⟨by repeat (with_reducible first | exact HB.out | apply yad | apply yab | apply yae | refine yaf ?_ (Aside0.out ‹_›))⟩⟩
 case rest =>
  clear HC2; (try clear c1); (try clear p2); (try clear c4); (try clear d4); (try clear h3); (try clear d5); (try clear d6); (try clear d7); (try clear d8); (try clear d9); (try clear e0); (try clear e1); (try clear e2); (try clear f4); (try clear f5); (try clear f6); (try clear f7); (try clear f8); (try clear f9); (try clear g0); (try clear g1); (try clear e3); (try clear e4); (try clear e5); (try clear e6); (try clear e7); (try clear e8); (try clear e9); (try clear f3); (try clear g2); (try clear g3); (try clear g4); (try clear g5); (try clear g6); (try clear g7); (try clear g8); (try clear g9); obtain ⟨kq, h1, rfl, HA, HJ1, a8, HB⟩ := hcut
  cases kq with
  | zero => exact absurd HA.out (by simp [spec_l8Outs.j0])
  | succ kj1 =>
   have H := HA.out; clear HA
   simp only [spec_l8Outs.j0] at H
   by_cases c7 : h1 = true
   ·
    subst c7
    rw [if_pos rfl] at H
    obtain rfl := Option.some.inj H
    go_wp2
    go_ret
    exact ⟨by first | rfl | (simp [*, errW_none, errW_some] <;> rfl), by repeat (with_reducible first | exact HB.out | apply yad | apply yab | apply yae | refine yaf ?_ (Aside0.out ‹_›))⟩
   replace c7 := Bool.eq_false_iff.mpr c7
   subst c7
   rw [if_neg (show ¬ (false = true) by decide)] at H
   have H' := yaa H; clear H
   go_wp2
   (try simp only [Act.put, List.setIfInBounds_toArray, List.set_cons_zero, List.set_cons_succ])
   go_loopg [3] kj1 (fun kq v3 w' => ∃ (a9 : Int), v3 = .int .i64 a9 ∧ Aside0 (spec_l8Outs.l0 kq a9 a0_0 a0_1 a0_2 a0_3 l0_4 l0_5 l0_6 l0_7 = some r) ∧ Aside0 (kq ≤ kj1) ∧ Aside0 (w'.heap[b7]? = some (.cells #[.int .i64 a0_0, .int .i64 a0_1, .int .i64 a0_2, .int .i64 a0_3, (.slice A0_4 l0_4.length c0_4), (.slice A0_5 l0_5.length c0_5), (.slice A0_6 l0_6.length c0_6), (.slice A0_7 l0_7.length c0_7)] 63 (0, 0))) ∧ Aside0 (Below w.heap.size w w'))
   case atStart => exact ⟨(0), (by first | rfl | (simp; done) | (simp [*]; done)), H', ⟨Nat.le_refl _⟩, ⟨by exact upB a8.out⟩, ⟨by repeat (with_reducible first | exact HB.out | apply yad | apply yab | apply yae | refine yaf ?_ (Aside0.out ‹_›))⟩⟩
   case round =>
    clear H'; (try clear c1); (try clear p2); (try clear c4); (try clear d4); (try clear h3); (try clear c7); (try clear d5); (try clear d6); (try clear d7); (try clear d8); (try clear d9); (try clear e0); (try clear e1); (try clear e2); (try clear f4); (try clear f5); (try clear f6); (try clear f7); (try clear f8); (try clear f9); (try clear g0); (try clear g1); (try clear e3); (try clear e4); (try clear e5); (try clear e6); (try clear e7); (try clear e8); (try clear e9); (try clear f3); (try clear g2); (try clear g3); (try clear g4); (try clear g5); (try clear g6); (try clear g7); (try clear g8); (try clear g9); (try clear p2); obtain ⟨a9, rfl, HA, HK2, a8, HB⟩ := hrel
    cases gk with
    | zero => exact absurd HA.out (by simp [spec_l8Outs.l0])
    | succ k2 =>
     have H := HA.out; clear HA
     simp only [spec_l8Outs.l0] at H
     by_cases c8 : a9 < (l0_7.length : Int)
     rotate_left
     ·
      rw [if_neg c8] at H
      have H0 : decide (a9 < (l0_7.length : Int)) = false := decide_eq_false c8; clear c8; have H' := yaa H; clear H; obtain ⟨E7, E8, E9, F0, F1, F2, F3, F4⟩ := cc8_ a8.out; obtain ⟨F5, F6, F7, F8, F9, G0, G1, G2⟩ := cf8_ a8.out
      go_wp2
      (try simp only [Act.put, List.setIfInBounds_toArray, List.set_cons_zero, List.set_cons_succ])
      go_loopg [5] k2 (fun kq v5 w' => ∃ (b8 : Int), v5 = .int .i64 b8 ∧ Aside0 (spec_l8Outs.l1 kq b8 a0_0 a0_1 a0_2 a0_3 l0_4 l0_5 l0_6 l0_7 = some r) ∧ Aside0 (kq ≤ k2) ∧ Aside0 (w'.heap[b7]? = some (.cells #[.int .i64 a0_0, .int .i64 a0_1, .int .i64 a0_2, .int .i64 a0_3, (.slice A0_4 l0_4.length c0_4), (.slice A0_5 l0_5.length c0_5), (.slice A0_6 l0_6.length c0_6), (.slice A0_7 l0_7.length c0_7)] 63 (0, 0))) ∧ Aside0 (Below w.heap.size w w'))
      case atStart => exact ⟨(0), (by first | rfl | (simp; done) | (simp [*]; done)), H', ⟨Nat.le_refl _⟩, ⟨by exact upB a8.out⟩, ⟨by repeat (with_reducible first | exact HB.out | apply yad | apply yab | apply yae | refine yaf ?_ (Aside0.out ‹_›))⟩⟩
      case round =>
       clear H'; (try clear c1); (try clear p1); (try clear q1); (try clear hx1); (try clear c2); (try clear p2); (try clear c3); (try clear c4); (try clear d4); (try clear h3); (try clear c6); (try clear p6); (try clear c7); (try clear c8); (try clear H0); (try clear c9); (try clear c9b0); (try clear c10); (try clear p10); (try clear q10); (try clear hx10); (try clear c11); (try clear c13); (try clear c14); (try clear G3); (try clear G4); (try clear c17); (try clear c22); (try clear G5); (try clear G6); (try clear G7); (try clear c25); (try clear c32); (try clear c39); (try clear c45); (try clear h4); (try clear h5); (try clear h6); (try clear h7); (try clear h8); (try clear h9); (try clear i0); (try clear i1); (try clear j1); (try clear j2); (try clear j3); (try clear j8); (try clear j9); (try clear k0); (try clear k1); (try clear k4); (try clear k5); (try clear k6); (try clear k7); (try clear l9); (try clear m0); (try clear m1); (try clear m5); (try clear m6); (try clear m7); (try clear m8); (try clear m9); (try clear n0); (try clear n1); (try clear n2); (try clear o1); (try clear o2); (try clear o3); (try clear o7); (try clear o8); (try clear o9); (try clear p0); (try clear p3); (try clear p4); (try clear p5); (try clear p7); (try clear q7); (try clear q8); (try clear q9); (try clear r3); (try clear r4); (try clear r5); (try clear r6); (try clear r7); (try clear r8); (try clear r9); (try clear s0); (try clear s9); (try clear t0); (try clear t1); (try clear t5); (try clear t6); (try clear t7); (try clear t8); (try clear t9); (try clear u0); (try clear u1); (try clear u2); (try clear v1); (try clear v2); (try clear v4); (try clear v9); (try clear w0); (try clear w1); (try clear w2); (try clear w4); (try clear w5); (try clear w6); (try clear w7); (try clear x8); (try clear x9); (try clear y9); (try clear z3); (try clear z4); (try clear z5); (try clear z6); (try clear z7); (try clear z8); (try clear z9); (try clear A0); (try clear A9); (try clear B0); (try clear B1); (try clear B2); (try clear B3); (try clear B4); (try clear B5); (try clear B6); (try clear C5); (try clear C6); (try clear C7); (try clear D1); (try clear D2); (try clear D3); (try clear D4); (try clear D5); (try clear D6); (try clear D7); (try clear D8); (try clear E7); (try clear E8); (try clear E9); (try clear F0); (try clear F1); (try clear F2); (try clear F3); (try clear F4); (try clear d5); (try clear d6); (try clear d7); (try clear d8); (try clear d9); (try clear e0); (try clear e1); (try clear e2); (try clear f4); (try clear f5); (try clear f6); (try clear f7); (try clear f8); (try clear f9); (try clear g0); (try clear g1); (try clear i2); (try clear i3); (try clear i4); (try clear i5); (try clear i6); (try clear i7); (try clear i8); (try clear i9); (try clear j4); (try clear j5); (try clear j6); (try clear k8); (try clear k9); (try clear l2); (try clear l3); (try clear l4); (try clear l5); (try clear l6); (try clear l8); (try clear m2); (try clear m3); (try clear m4); (try clear n3); (try clear n4); (try clear n5); (try clear n6); (try clear n7); (try clear n8); (try clear n9); (try clear o0); (try clear o4); (try clear o5); (try clear o6); (try clear p8); (try clear p9); (try clear q0); (try clear q2); (try clear q3); (try clear q4); (try clear q5); (try clear q6); (try clear r0); (try clear r1); (try clear r2); (try clear s1); (try clear s2); (try clear s3); (try clear s4); (try clear s5); (try clear s6); (try clear s7); (try clear s8); (try clear t2); (try clear t3); (try clear t4); (try clear u3); (try clear u4); (try clear u5); (try clear u6); (try clear u7); (try clear u8); (try clear u9); (try clear v0); (try clear v6); (try clear v7); (try clear v8); (try clear w8); (try clear w9); (try clear x0); (try clear x1); (try clear x2); (try clear x4); (try clear x6); (try clear x7); (try clear z0); (try clear z1); (try clear z2); (try clear A1); (try clear A2); (try clear A3); (try clear A4); (try clear A5); (try clear A6); (try clear A7); (try clear A8); (try clear B7); (try clear B8); (try clear B9); (try clear C0); (try clear C1); (try clear C2); (try clear C3); (try clear C4); (try clear C8); (try clear C9); (try clear D0); (try clear D9); (try clear E0); (try clear E1); (try clear E2); (try clear E3); (try clear E4); (try clear E5); (try clear E6); (try clear F5); (try clear F6); (try clear F7); (try clear F8); (try clear F9); (try clear G0); (try clear G1); (try clear G2); (try clear e3); (try clear e4); (try clear e5); (try clear e6); (try clear e7); (try clear e8); (try clear e9); (try clear f3); (try clear g2); (try clear g3); (try clear g4); (try clear g5); (try clear g6); (try clear g7); (try clear g8); (try clear g9); (try clear b2); (try clear b3)
       (try clear b4); (try clear p102); (try clear p2); (try clear q102); obtain ⟨b8, rfl, HA, HK3, a8, HB⟩ := hrel
       cases gk with
       | zero => exact absurd HA.out (by simp [spec_l8Outs.l1])
       | succ k3 =>
        have H := HA.out; clear HA
        simp only [spec_l8Outs.l1] at H
        by_cases c49 : b8 < (l0_6.length : Int)
        rotate_left
        ·
         rw [if_neg c49] at H
         have H3 : decide (b8 < (l0_6.length : Int)) = false := decide_eq_false c49; clear c49; obtain rfl := Option.some.inj H; obtain ⟨K6, K7, K8, K9, L0, L1, L2, L3⟩ := cc8_ a8.out; obtain ⟨L4, L5, L6, L7, L8, L9, M0, M1⟩ := cf8_ a8.out
         go_wp2
         go_ret
         exact ⟨by first | rfl | (simp [*, errW_none, errW_some] <;> rfl), by repeat (with_reducible first | exact HB.out | apply yad | apply yab | apply yae | refine yaf ?_ (Aside0.out ‹_›))⟩
        rw [if_pos c49] at H
        have H3 : decide (b8 < (l0_6.length : Int)) = true := decide_eq_true c49; clear c49
        by_cases c50 : 0 ≤ b8
        ·
         rw [if_pos c50] at H
         replace c50 := decide_eq_true c50; obtain ⟨M4, A51, H⟩ := bindA H; (try dsimp only at H)
         by_cases c52 : M4 = true
         ·
          subst c52
          rw [if_pos rfl] at H
          have H' := yaa H; clear H; obtain ⟨H4, H5, H6, H7, H8, H9, I0, I1⟩ := cc8_ a8.out; obtain ⟨I2, I3, I4, I5, I6, I7, I8, I9⟩ := cf8_ a8.out; have p106 : 0 ≤ (b8 : Int) := of_decide_eq_true (by assumption); have q106 : b8 < (l0_6.length : Int) := of_decide_eq_true (by assumption); obtain ⟨ad106, G8, d1⟩ := Kd.at_string HR0_6.out b8 p106 q106
          cases G8
          replace d1 := (upc_ HB.out d1 :); replace p106 := eq_true p106; replace q106 := eq_true q106
          go_wp2_with (first | ((with_reducible refine gc_ 70 rfl ?_); refine gl_ (some 69) rfl Try.func70 #[.string (rdOf ByteArray.empty l0_6 b8)] ?_; (with_reducible refine (spec_l7Path.calls k3 (rdOf ByteArray.empty l0_6 b8) true _ A51.out).mono ?_); rintro e w' ⟨rfl, ⟨nd, rfl⟩⟩; refine ⟨_, rfl, ?_⟩))
          go_roundg k3
          case measure => have := HJ1.out; have := HK2.out; have := HK3.out; omega
          case rel => exact ⟨(wrap64 (b8 + 1)), (by first | rfl | (simp; done) | (simp [*]; done)), H', ⟨by have := HJ1.out; have := HK2.out; have := HK3.out; omega⟩, ⟨by exact upB a8.out⟩, ⟨by repeat (with_reducible first | exact HB.out | apply yad | apply yab | apply yae | refine yaf ?_ (Aside0.out ‹_›))⟩⟩
         replace c52 := Bool.eq_false_iff.mpr c52
         subst c52
         rw [if_neg (show ¬ (false = true) by decide)] at H
         obtain rfl := Option.some.inj H; obtain ⟨J0, J1, J2, J3, J4, J5, J6, J7⟩ := cc8_ a8.out; obtain ⟨J8, J9, K0, K1, K2, K3, K4, K5⟩ := cf8_ a8.out; have p106 : 0 ≤ (b8 : Int) := of_decide_eq_true (by assumption); have q106 : b8 < (l0_6.length : Int) := of_decide_eq_true (by assumption); obtain ⟨ad106, G8, d1⟩ := Kd.at_string HR0_6.out b8 p106 q106
         cases G8
         replace d1 := (upc_ HB.out d1 :); replace p106 := eq_true p106; replace q106 := eq_true q106
         go_wp2_with (first | ((with_reducible refine gc_ 70 rfl ?_); refine gl_ (some 69) rfl Try.func70 #[.string (rdOf ByteArray.empty l0_6 b8)] ?_; (with_reducible refine (spec_l7Path.calls k3 (rdOf ByteArray.empty l0_6 b8) false _ A51.out).mono ?_); rintro e w' ⟨rfl, ⟨nd, rfl⟩⟩; refine ⟨_, rfl, ?_⟩))
         go_ret
         exact ⟨by first | rfl | (simp [*, errW_none, errW_some] <;> rfl), by repeat (with_reducible first | exact HB.out | apply yad | apply yab | apply yae | refine yaf ?_ (Aside0.out ‹_›))⟩
        rw [if_neg c50] at H
        exact absurd H (by simp)
     rw [if_pos c8] at H
     have H0 : decide (a9 < (l0_7.length : Int)) = true := decide_eq_true c8; clear c8
     by_cases c9 : 0 ≤ a9
     rotate_left
     ·
      rw [if_neg c9] at H
      exact absurd H (by simp)
     rw [if_pos c9] at H
     replace c9 := decide_eq_true c9; obtain ⟨M2, A10, H⟩ := bindA H; (try dsimp only at H)
     by_cases c11 : M2 = true
     rotate_left
     ·
      replace c11 := Bool.eq_false_iff.mpr c11
      subst c11
      rw [if_neg (show ¬ (false = true) by decide)] at H
      obtain rfl := Option.some.inj H; obtain ⟨A9, B0, B1, B2, B3, B4, B5, B6⟩ := cc8_ a8.out; obtain ⟨B7, B8, B9, C0, C1, C2, C3, C4⟩ := cf8_ a8.out; have p102 : 0 ≤ (a9 : Int) := of_decide_eq_true (by assumption); have q102 : a9 < (l0_7.length : Int) := of_decide_eq_true (by assumption); obtain ⟨ad102, b9, c0, d3, b2, b3, b4, hl102_2, hi102_2⟩ := at_T158 HR0_7.out a9 p102 q102
      cases d3
      replace b2 := (upc_ HB.out b2 :); replace b3 := (upc_ HB.out b3 :); replace b4 := (upc_ HB.out b4 :); have HR102_2 := yaa hi102_2; have HC102_2 := yaa hl102_2; clear hi102_2 hl102_2; replace p102 := eq_true p102; replace q102 := eq_true q102
      go_wp2_with (first | ((with_reducible refine gd_ 4 rfl ?_); (try (refine gate_guard (by rfl) ?_; dsimp only)); refine bx_ 4 rfl #[.int .i64 0, .int .i64 0, .slice none 0 0] 158 ?_; intro b6 hg w44 hbox hb; have b1 := yaa (hbox); have d0 := yaa ((by rw [hg]; exact (below_size (by repeat (with_reducible first | exact HB.out | apply yad | apply yab | apply yae | refine yaf ?_ (Aside0.out ‹_›)))) : w.heap.size ≤ b6)); replace HB := yaa (below_step (by repeat (with_reducible first | exact HB.out | apply yad | apply yab | apply yae | refine yaf ?_ (Aside0.out ‹_›))) hb); have h2 := d0; have b0 := yaa ((by rw [hg]; exact Nat.ne_of_lt (blk_lt (upB a8.out)) : b7 ≠ b6)); replace a8 := yaa (blk_below (upB a8.out) hb); have b5 := yaa b0.out.symm; clear hb hbox hg; have N5 := b5.out; have N6 := b0.out; obtain ⟨C5, C6, C7⟩ := cc3_ b1.out; obtain ⟨C8, C9, D0⟩ := cf3_ b1.out; obtain ⟨D1, D2, D3, D4, D5, D6, D7, D8⟩ := cc8_ a8.out; obtain ⟨D9, E0, E1, E2, E3, E4, E5⟩ := cf7_ a8.out; have E6 := blk_frozen a8.out 7) | ((with_reducible refine gc_ 63 rfl ?_); refine gl_ (some 33) rfl Try.func63 #[.int .i64 ((yac l0_7 a9).f0), .int .i64 0, .int .i64 (wrap64 (a0_3 - 1))] ?_; (with_reducible refine (spec_l1In.calls ((yac l0_7 a9).f0) 0 (wrap64 (a0_3 - 1)) false _ A10.out).mono ?_); rintro e w' ⟨rfl, ⟨nd, rfl⟩⟩; refine ⟨_, rfl, ?_⟩))
      go_ret
      exact ⟨by first | rfl | (simp [*, errW_none, errW_some] <;> rfl), by repeat (with_reducible first | exact HB.out | apply yad | apply yab | apply yae | refine yaf ?_ (Aside0.out ‹_›))⟩
     subst c11
     rw [if_pos rfl] at H
     obtain ⟨M3, A12, H⟩ := bindA H; (try dsimp only at H)
     by_cases c13 : M3 = true
     rotate_left
     ·
      replace c13 := Bool.eq_false_iff.mpr c13
      subst c13
      rw [if_neg (show ¬ (false = true) by decide)] at H
      obtain rfl := Option.some.inj H; obtain ⟨v9, w0, w1, w2, w4, w5, w6, w7⟩ := cc8_ a8.out; obtain ⟨w8, w9, x0, x1, x2, x4, x6, x7⟩ := cf8_ a8.out; have p102 : 0 ≤ (a9 : Int) := of_decide_eq_true (by assumption); have q102 : a9 < (l0_7.length : Int) := of_decide_eq_true (by assumption); obtain ⟨ad102, b9, c0, d3, b2, b3, b4, hl102_2, hi102_2⟩ := at_T158 HR0_7.out a9 p102 q102
      cases d3
      replace b2 := (upc_ HB.out b2 :); replace b3 := (upc_ HB.out b3 :); replace b4 := (upc_ HB.out b4 :); have HR102_2 := yaa hi102_2; have HC102_2 := yaa hl102_2; clear hi102_2 hl102_2; replace p102 := eq_true p102; replace q102 := eq_true q102
      go_wp2_with (first | ((with_reducible refine gd_ 4 rfl ?_); (try (refine gate_guard (by rfl) ?_; dsimp only)); refine bx_ 4 rfl #[.int .i64 0, .int .i64 0, .slice none 0 0] 158 ?_; intro b6 hg w38 hbox hb; have b1 := yaa (hbox); have d0 := yaa ((by rw [hg]; exact (below_size (by repeat (with_reducible first | exact HB.out | apply yad | apply yab | apply yae | refine yaf ?_ (Aside0.out ‹_›)))) : w.heap.size ≤ b6)); replace HB := yaa (below_step (by repeat (with_reducible first | exact HB.out | apply yad | apply yab | apply yae | refine yaf ?_ (Aside0.out ‹_›))) hb); have h2 := d0; have b0 := yaa ((by rw [hg]; exact Nat.ne_of_lt (blk_lt (upB a8.out)) : b7 ≠ b6)); replace a8 := yaa (blk_below (upB a8.out) hb); have b5 := yaa b0.out.symm; clear hb hbox hg; have N3 := b5.out; have N4 := b0.out; obtain ⟨x8, x9, y9⟩ := cc3_ b1.out; obtain ⟨z0, z1, z2⟩ := cf3_ b1.out; obtain ⟨z3, z4, z5, z6, z7, z8, z9, A0⟩ := cc8_ a8.out; obtain ⟨A1, A2, A3, A4, A5, A6, A7⟩ := cf7_ a8.out; have A8 := blk_frozen a8.out 7) | ((with_reducible refine gc_ 63 rfl ?_); refine gl_ (some 33) rfl Try.func63 #[.int .i64 ((yac l0_7 a9).f0), .int .i64 0, .int .i64 (wrap64 (a0_3 - 1))] ?_; (with_reducible refine (spec_l1In.calls ((yac l0_7 a9).f0) 0 (wrap64 (a0_3 - 1)) true _ A10.out).mono ?_); rintro e w' ⟨rfl, ⟨nd, rfl⟩⟩; refine ⟨_, rfl, ?_⟩) | (go_at_call 139; (with_reducible refine (spec_l8Code.calls k2 ((yac l0_7 a9).f1) false _ A12.out).mono ?_); rintro e w42 ⟨rfl, hb⟩; replace a8 := yaa (blk_below (g := b7) (o := .cells #[.int .i64 a0_0, .int .i64 a0_1, .int .i64 a0_2, .int .i64 a0_3, .slice A0_4 l0_4.length c0_4, .slice A0_5 l0_5.length c0_5, .slice A0_6 l0_6.length c0_6, .slice (some ad102) l0_7.length c0_7] 63 (0, 0)) (by repeat (with_reducible first | exact a8.out | refine oneB ?_ | refine blk_far ?_ b0.out _)) hb); replace b1 := yaa (blk_below (g := b6) (o := .cells #[.int .i64 ((yac l0_7 a9).f0), .int .i64 ((yac l0_7 a9).f1), .slice b9 ((yac l0_7 a9).f2).length c0] 158 (0, 0)) (by (repeat refine oneB ?_); refine blk_put (cs := #[.int .i64 ((yac l0_7 a9).f0), .int .i64 ((yac l0_7 a9).f1), .slice none 0 0]) ?_ 2 _ rfl; refine blk_put (cs := #[.int .i64 ((yac l0_7 a9).f0), .int .i64 0, .slice none 0 0]) ?_ 1 _ rfl; refine blk_put (cs := #[.int .i64 0, .int .i64 0, .slice none 0 0]) ?_ 0 _ rfl; exact upB b1.out) hb); replace HB := yaa (below_step (by repeat (with_reducible first | exact HB.out | apply yad | apply yab | apply yae | refine yaf ?_ (Aside0.out ‹_›))) hb); (try clear hb)))
      go_ret
      exact ⟨by first | rfl | (simp [*, errW_none, errW_some] <;> rfl), by repeat (with_reducible first | exact HB.out | apply yad | apply yab | apply yae | refine yaf ?_ (Aside0.out ‹_›))⟩
     subst c13
     rw [if_pos rfl] at H
     by_cases c14 : (((yac l0_7 a9).f2).length : Int) > 220
     ·
      rw [if_pos c14] at H
      have G3 : decide (220 < (((yac l0_7 a9).f2).length : Int)) = true := decide_eq_true c14; have G4 : decide (220 < ((yac l0_7 a9).f2).length) = true := decide_eq_true (by omega); clear c14; obtain rfl := Option.some.inj H; obtain ⟨h4, h5, h6, h7, h8, h9, i0, i1⟩ := cc8_ a8.out; obtain ⟨i2, i3, i4, i5, i6, i7, i8, i9⟩ := cf8_ a8.out; have p102 : 0 ≤ (a9 : Int) := of_decide_eq_true (by assumption); have q102 : a9 < (l0_7.length : Int) := of_decide_eq_true (by assumption); obtain ⟨ad102, b9, c0, d3, b2, b3, b4, hl102_2, hi102_2⟩ := at_T158 HR0_7.out a9 p102 q102
      cases d3
      replace b2 := (upc_ HB.out b2 :); replace b3 := (upc_ HB.out b3 :); replace b4 := (upc_ HB.out b4 :); have HR102_2 := yaa hi102_2; have HC102_2 := yaa hl102_2; clear hi102_2 hl102_2; replace p102 := eq_true p102; replace q102 := eq_true q102
      go_wp2_with (first | ((with_reducible refine gd_ 4 rfl ?_); (try (refine gate_guard (by rfl) ?_; dsimp only)); refine bx_ 4 rfl #[.int .i64 0, .int .i64 0, .slice none 0 0] 158 ?_; intro b6 hg w16 hbox hb; have b1 := yaa (hbox); have d0 := yaa ((by rw [hg]; exact (below_size (by repeat (with_reducible first | exact HB.out | apply yad | apply yab | apply yae | refine yaf ?_ (Aside0.out ‹_›)))) : w.heap.size ≤ b6)); replace HB := yaa (below_step (by repeat (with_reducible first | exact HB.out | apply yad | apply yab | apply yae | refine yaf ?_ (Aside0.out ‹_›))) hb); have h2 := d0; have b0 := yaa ((by rw [hg]; exact Nat.ne_of_lt (blk_lt (upB a8.out)) : b7 ≠ b6)); replace a8 := yaa (blk_below (upB a8.out) hb); have b5 := yaa b0.out.symm; clear hb hbox hg; have M6 := b5.out; have M7 := b0.out; obtain ⟨j1, j2, j3⟩ := cc3_ b1.out; obtain ⟨j4, j5, j6⟩ := cf3_ b1.out; obtain ⟨j8, j9, k0, k1, k4, k5, k6, k7⟩ := cc8_ a8.out; obtain ⟨k8, k9, l2, l3, l4, l5, l6⟩ := cf7_ a8.out; have l8 := blk_frozen a8.out 7) | ((with_reducible refine gc_ 63 rfl ?_); refine gl_ (some 33) rfl Try.func63 #[.int .i64 ((yac l0_7 a9).f0), .int .i64 0, .int .i64 (wrap64 (a0_3 - 1))] ?_; (with_reducible refine (spec_l1In.calls ((yac l0_7 a9).f0) 0 (wrap64 (a0_3 - 1)) true _ A10.out).mono ?_); rintro e w' ⟨rfl, ⟨nd, rfl⟩⟩; refine ⟨_, rfl, ?_⟩) | (go_at_call 139; (with_reducible refine (spec_l8Code.calls k2 ((yac l0_7 a9).f1) true _ A12.out).mono ?_); rintro e w20 ⟨rfl, hb⟩; replace a8 := yaa (blk_below (g := b7) (o := .cells #[.int .i64 a0_0, .int .i64 a0_1, .int .i64 a0_2, .int .i64 a0_3, .slice A0_4 l0_4.length c0_4, .slice A0_5 l0_5.length c0_5, .slice A0_6 l0_6.length c0_6, .slice (some ad102) l0_7.length c0_7] 63 (0, 0)) (by repeat (with_reducible first | exact a8.out | refine oneB ?_ | refine blk_far ?_ b0.out _)) hb); replace b1 := yaa (blk_below (g := b6) (o := .cells #[.int .i64 ((yac l0_7 a9).f0), .int .i64 ((yac l0_7 a9).f1), .slice b9 ((yac l0_7 a9).f2).length c0] 158 (0, 0)) (by (repeat refine oneB ?_); refine blk_put (cs := #[.int .i64 ((yac l0_7 a9).f0), .int .i64 ((yac l0_7 a9).f1), .slice none 0 0]) ?_ 2 _ rfl; refine blk_put (cs := #[.int .i64 ((yac l0_7 a9).f0), .int .i64 0, .slice none 0 0]) ?_ 1 _ rfl; refine blk_put (cs := #[.int .i64 0, .int .i64 0, .slice none 0 0]) ?_ 0 _ rfl; exact upB b1.out) hb); replace HB := yaa (below_step (by repeat (with_reducible first | exact HB.out | apply yad | apply yab | apply yae | refine yaf ?_ (Aside0.out ‹_›))) hb); (try clear hb); obtain ⟨l9, m0, m1⟩ := cc3_ b1.out; obtain ⟨m2, m3⟩ := cf2_ b1.out; have m4 := blk_frozen b1.out 2))
      go_ret
      exact ⟨by first | rfl | (simp [*, errW_none, errW_some] <;> rfl), by repeat (with_reducible first | exact HB.out | apply yad | apply yab | apply yae | refine yaf ?_ (Aside0.out ‹_›))⟩
     rw [if_neg c14] at H
     have G3 : decide (220 < (((yac l0_7 a9).f2).length : Int)) = false := decide_eq_false c14; have G4 : decide (220 < ((yac l0_7 a9).f2).length) = false := decide_eq_false (by omega); clear c14
     by_cases c22 : ((((yac l0_7 a9).f1) == 200) != (decide ((((yac l0_7 a9).f2).length : Int) > 0))) = true
     ·
      rw [if_pos c22] at H
      have G5 : ((((yac l0_7 a9).f1) == 200) != (decide ((((yac l0_7 a9).f2).length : Int) > 0))) = true := c22
      (try (have H2 : ((((yac l0_7 a9).f1) == 200) == decide (0 < (((yac l0_7 a9).f2)).length)) = false := by simpa using c22))
      (try (have G6 : decide ((((yac l0_7 a9).f1) == 200) = (decide ((((yac l0_7 a9).f2).length : Int) > 0))) = false := by simpa using c22))
      (try (have G7 : ((((yac l0_7 a9).f1) == 200) == (decide ((((yac l0_7 a9).f2).length : Int) > 0))) = false := by simpa using c22))
      (try (have M8 : ¬ ((((yac l0_7 a9).f1) == 200) = (decide ((((yac l0_7 a9).f2).length : Int) > 0))) := by simpa using c22))
      clear c22; obtain rfl := Option.some.inj H; obtain ⟨m5, m6, m7, m8, m9, n0, n1, n2⟩ := cc8_ a8.out; obtain ⟨n3, n4, n5, n6, n7, n8, n9, o0⟩ := cf8_ a8.out; have p102 : 0 ≤ (a9 : Int) := of_decide_eq_true (by assumption); have q102 : a9 < (l0_7.length : Int) := of_decide_eq_true (by assumption); obtain ⟨ad102, b9, c0, d3, b2, b3, b4, hl102_2, hi102_2⟩ := at_T158 HR0_7.out a9 p102 q102
      cases d3
      replace b2 := (upc_ HB.out b2 :); replace b3 := (upc_ HB.out b3 :); replace b4 := (upc_ HB.out b4 :); have HR102_2 := yaa hi102_2; have HC102_2 := yaa hl102_2; clear hi102_2 hl102_2; replace p102 := eq_true p102; replace q102 := eq_true q102
      go_wp2_with (first | ((with_reducible refine gd_ 4 rfl ?_); (try (refine gate_guard (by rfl) ?_; dsimp only)); refine bx_ 4 rfl #[.int .i64 0, .int .i64 0, .slice none 0 0] 158 ?_; intro b6 hg w24 hbox hb; have b1 := yaa (hbox); have d0 := yaa ((by rw [hg]; exact (below_size (by repeat (with_reducible first | exact HB.out | apply yad | apply yab | apply yae | refine yaf ?_ (Aside0.out ‹_›)))) : w.heap.size ≤ b6)); replace HB := yaa (below_step (by repeat (with_reducible first | exact HB.out | apply yad | apply yab | apply yae | refine yaf ?_ (Aside0.out ‹_›))) hb); have h2 := d0; have b0 := yaa ((by rw [hg]; exact Nat.ne_of_lt (blk_lt (upB a8.out)) : b7 ≠ b6)); replace a8 := yaa (blk_below (upB a8.out) hb); have b5 := yaa b0.out.symm; clear hb hbox hg; have M9 := b5.out; have N0 := b0.out; obtain ⟨o1, o2, o3⟩ := cc3_ b1.out; obtain ⟨o4, o5, o6⟩ := cf3_ b1.out; obtain ⟨o7, o8, o9, p0, p3, p4, p5, p7⟩ := cc8_ a8.out; obtain ⟨p8, p9, q0, q2, q3, q4, q5⟩ := cf7_ a8.out; have q6 := blk_frozen a8.out 7) | ((with_reducible refine gc_ 63 rfl ?_); refine gl_ (some 33) rfl Try.func63 #[.int .i64 ((yac l0_7 a9).f0), .int .i64 0, .int .i64 (wrap64 (a0_3 - 1))] ?_; (with_reducible refine (spec_l1In.calls ((yac l0_7 a9).f0) 0 (wrap64 (a0_3 - 1)) true _ A10.out).mono ?_); rintro e w' ⟨rfl, ⟨nd, rfl⟩⟩; refine ⟨_, rfl, ?_⟩) | (go_at_call 139; (with_reducible refine (spec_l8Code.calls k2 ((yac l0_7 a9).f1) true _ A12.out).mono ?_); rintro e w28 ⟨rfl, hb⟩; replace a8 := yaa (blk_below (g := b7) (o := .cells #[.int .i64 a0_0, .int .i64 a0_1, .int .i64 a0_2, .int .i64 a0_3, .slice A0_4 l0_4.length c0_4, .slice A0_5 l0_5.length c0_5, .slice A0_6 l0_6.length c0_6, .slice (some ad102) l0_7.length c0_7] 63 (0, 0)) (by repeat (with_reducible first | exact a8.out | refine oneB ?_ | refine blk_far ?_ b0.out _)) hb); replace b1 := yaa (blk_below (g := b6) (o := .cells #[.int .i64 ((yac l0_7 a9).f0), .int .i64 ((yac l0_7 a9).f1), .slice b9 ((yac l0_7 a9).f2).length c0] 158 (0, 0)) (by (repeat refine oneB ?_); refine blk_put (cs := #[.int .i64 ((yac l0_7 a9).f0), .int .i64 ((yac l0_7 a9).f1), .slice none 0 0]) ?_ 2 _ rfl; refine blk_put (cs := #[.int .i64 ((yac l0_7 a9).f0), .int .i64 0, .slice none 0 0]) ?_ 1 _ rfl; refine blk_put (cs := #[.int .i64 0, .int .i64 0, .slice none 0 0]) ?_ 0 _ rfl; exact upB b1.out) hb); replace HB := yaa (below_step (by repeat (with_reducible first | exact HB.out | apply yad | apply yab | apply yae | refine yaf ?_ (Aside0.out ‹_›))) hb); (try clear hb); obtain ⟨q7, q8, q9⟩ := cc3_ b1.out; obtain ⟨r0, r1⟩ := cf2_ b1.out; have r2 := blk_frozen b1.out 2))
      go_ret
      exact ⟨by first | rfl | (simp [*, errW_none, errW_some] <;> rfl), by repeat (with_reducible first | exact HB.out | apply yad | apply yab | apply yae | refine yaf ?_ (Aside0.out ‹_›))⟩
     rw [if_neg c22] at H
     have G5 : ((((yac l0_7 a9).f1) == 200) != (decide ((((yac l0_7 a9).f2).length : Int) > 0))) = false := (by simpa using c22)
     (try (have H2 : ((((yac l0_7 a9).f1) == 200) == decide (0 < (((yac l0_7 a9).f2)).length)) = true := by simpa using c22))
     (try (have G6 : decide ((((yac l0_7 a9).f1) == 200) = (decide ((((yac l0_7 a9).f2).length : Int) > 0))) = true := by simpa using c22))
     (try (have G7 : ((((yac l0_7 a9).f1) == 200) == (decide ((((yac l0_7 a9).f2).length : Int) > 0))) = true := by simpa using c22))
     clear c22; have H' := yaa H; clear H; obtain ⟨r3, r4, r5, r6, r7, r8, r9, s0⟩ := cc8_ a8.out; obtain ⟨s1, s2, s3, s4, s5, s6, s7, s8⟩ := cf8_ a8.out; have p102 : 0 ≤ (a9 : Int) := of_decide_eq_true (by assumption); have q102 : a9 < (l0_7.length : Int) := of_decide_eq_true (by assumption); obtain ⟨ad102, b9, c0, d3, b2, b3, b4, hl102_2, hi102_2⟩ := at_T158 HR0_7.out a9 p102 q102
     cases d3
     replace b2 := (upc_ HB.out b2 :); replace b3 := (upc_ HB.out b3 :); replace b4 := (upc_ HB.out b4 :); have HR102_2 := yaa hi102_2; have HC102_2 := yaa hl102_2; clear hi102_2 hl102_2; replace p102 := eq_true p102; replace q102 := eq_true q102
     go_wp2_with (first | ((with_reducible refine gd_ 4 rfl ?_); (try (refine gate_guard (by rfl) ?_; dsimp only)); refine bx_ 4 rfl #[.int .i64 0, .int .i64 0, .slice none 0 0] 158 ?_; intro b6 hg w31 hbox hb; have b1 := yaa (hbox); have d0 := yaa ((by rw [hg]; exact (below_size (by repeat (with_reducible first | exact HB.out | apply yad | apply yab | apply yae | refine yaf ?_ (Aside0.out ‹_›)))) : w.heap.size ≤ b6)); replace HB := yaa (below_step (by repeat (with_reducible first | exact HB.out | apply yad | apply yab | apply yae | refine yaf ?_ (Aside0.out ‹_›))) hb); have h2 := d0; have b0 := yaa ((by rw [hg]; exact Nat.ne_of_lt (blk_lt (upB a8.out)) : b7 ≠ b6)); replace a8 := yaa (blk_below (upB a8.out) hb); have b5 := yaa b0.out.symm; clear hb hbox hg; have N1 := b5.out; have N2 := b0.out; obtain ⟨s9, t0, t1⟩ := cc3_ b1.out; obtain ⟨t2, t3, t4⟩ := cf3_ b1.out; obtain ⟨t5, t6, t7, t8, t9, u0, u1, u2⟩ := cc8_ a8.out; obtain ⟨u3, u4, u5, u6, u7, u8, u9⟩ := cf7_ a8.out; have v0 := blk_frozen a8.out 7) | ((with_reducible refine gc_ 63 rfl ?_); refine gl_ (some 33) rfl Try.func63 #[.int .i64 ((yac l0_7 a9).f0), .int .i64 0, .int .i64 (wrap64 (a0_3 - 1))] ?_; (with_reducible refine (spec_l1In.calls ((yac l0_7 a9).f0) 0 (wrap64 (a0_3 - 1)) true _ A10.out).mono ?_); rintro e w' ⟨rfl, ⟨nd, rfl⟩⟩; refine ⟨_, rfl, ?_⟩) | (go_at_call 139; (with_reducible refine (spec_l8Code.calls k2 ((yac l0_7 a9).f1) true _ A12.out).mono ?_); rintro e w35 ⟨rfl, hb⟩; replace a8 := yaa (blk_below (g := b7) (o := .cells #[.int .i64 a0_0, .int .i64 a0_1, .int .i64 a0_2, .int .i64 a0_3, .slice A0_4 l0_4.length c0_4, .slice A0_5 l0_5.length c0_5, .slice A0_6 l0_6.length c0_6, .slice (some ad102) l0_7.length c0_7] 63 (0, 0)) (by repeat (with_reducible first | exact a8.out | refine oneB ?_ | refine blk_far ?_ b0.out _)) hb); replace b1 := yaa (blk_below (g := b6) (o := .cells #[.int .i64 ((yac l0_7 a9).f0), .int .i64 ((yac l0_7 a9).f1), .slice b9 ((yac l0_7 a9).f2).length c0] 158 (0, 0)) (by (repeat refine oneB ?_); refine blk_put (cs := #[.int .i64 ((yac l0_7 a9).f0), .int .i64 ((yac l0_7 a9).f1), .slice none 0 0]) ?_ 2 _ rfl; refine blk_put (cs := #[.int .i64 ((yac l0_7 a9).f0), .int .i64 0, .slice none 0 0]) ?_ 1 _ rfl; refine blk_put (cs := #[.int .i64 0, .int .i64 0, .slice none 0 0]) ?_ 0 _ rfl; exact upB b1.out) hb); replace HB := yaa (below_step (by repeat (with_reducible first | exact HB.out | apply yad | apply yab | apply yae | refine yaf ?_ (Aside0.out ‹_›))) hb); (try clear hb); obtain ⟨v1, v2, v4⟩ := cc3_ b1.out; obtain ⟨v6, v7⟩ := cf2_ b1.out; have v8 := blk_frozen b1.out 2))
     go_roundg k2
     case measure => have := HJ1.out; have := HK2.out; omega
     case rel => exact ⟨(wrap64 (a9 + 1)), (by first | rfl | (simp; done) | (simp [*]; done)), H', ⟨by have := HJ1.out; have := HK2.out; omega⟩, ⟨by exact upB a8.out⟩, ⟨by repeat (with_reducible first | exact HB.out | apply yad | apply yab | apply yae | refine yaf ?_ (Aside0.out ‹_›))⟩⟩
end
end Go.Proofs.Ytgpkkkmapgnhkaa.X
