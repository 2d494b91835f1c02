/- Lemmas and contracts for the law FnExactOpDo, part 7: of the program's functions, and over data alone. No condition. -/
import Derived.Test.YtoifpgkfpdeglaaMFnExactOpDo2
import Derived.Test.YtoifpgkfpdeglaaMFnExactOpDo6
import Derived.Test.YtoifpgkfpdeglaaMFnExactOpDo4
import Derived.Test.YtoifpgkfpdeglaaMFnExactOpDo5
namespace Go.Proofs.Ytoifpgkfpdeglaa.X
open Go.RowKit Go.Proofs.YtoifpgkfpdeglaaW.PrintWords Go.Proofs.YtoifpgkfpdeglaaW.PrintLast Go.Proofs.YtoifpgkfpdeglaaW.PrintMore
attribute [local go_sem] max2_int min2_int max_two min_two max_three min_three max_four min_four
set_option linter.unusedVariables false
set_option linter.unusedSimpArgs false

open Go.Proofs.YtoifpgkfpdeglaaW.PrintWords.Aside0 renaming mk → yaa
open Go.Proofs.YtoifpgkfpdeglaaW.PrintWords renaming blk_cell → yab, pw_below_drewN → yac, blk_below → yad, below_drew1 → yae, below_alloc → yaf, below_set → yag, blk_drewN → yam, blk_alloc → yan, blk_drew → yao, blk_frozen → yaq, below_step → yas, cell_far → yat, below_size → yau, Aside0 → yaw, blk_far → yax, blk_lt → yay
open Go.Proofs.YtoifpgkfpdeglaaW.PrintWords.Kd renaming R_alloc → yah, R_drewN → yai, R_below → yaj, R_drew → yak, R_mono → yal, R_far → yap, R_reads' → yar, R_elder' → yav, R_base → yaz, R_new' → yba, R_types → ybb, C_alloc → ybc, C_drewN → ybd, R_lt → ybe, C_drew → ybf, R_lower → ybg
open Go.Proofs.YtoifpgkfpdeglaaW.PrintLast renaming norm_ → ybh

/-! ### laws_FnExactOpDo: function 7 -/
abbrev q7_0 : Array Bool := #[false, false, false, false, false, false, false, false, false, false, false]
abbrev q7_1 : Array Bool := #[true, false, false, false, false, false, false, false, false, false, false]
abbrev q7_2 : Array Bool := #[true, false, true, false, false, false, false, false, false, false, false]
abbrev q7_3 : Array Bool := #[true, true, true, true, true, true, true, true, true, false, false]
abbrev q7_4 : Array Bool := #[true, true, true, false, false, false, false, false, false, false, false]
abbrev q7_5 : Array Bool := #[true, false, true, false, false, false, false, false, true, false, false]
abbrev q7_6 : Array Bool := #[true, true, true, true, false, false, false, false, false, false, false]
abbrev q7_7 : Array Bool := #[true, true, true, false, false, false, false, false, true, false, false]
abbrev q7_8 : Array Bool := #[true, true, true, true, true, false, false, false, false, false, false]
abbrev q7_9 : Array Bool := #[true, true, true, true, false, false, false, false, true, false, false]
abbrev q7_10 : Array Bool := #[true, true, true, true, true, true, false, false, false, false, false]
abbrev q7_11 : Array Bool := #[true, true, true, true, true, true, true, false, false, false, false]
abbrev q7_12 : Array Bool := #[true, true, true, true, true, true, true, true, false, false, false]
abbrev q7_13 : Array Bool := #[true, true, true, true, true, false, false, false, true, false, false]
abbrev q7_14 : Array Bool := #[true, true, true, true, true, true, false, false, true, false, false]
abbrev q7_15 : Array Bool := #[true, true, true, true, true, true, true, false, true, false, false]
abbrev q7_16 : Array Bool := #[true, true, true, true, true, true, true, true, true, true, false]
abbrev q7_17 : Array Bool := #[true, true, true, true, true, true, true, true, true, true, true]
abbrev q7_18 : Array Bool := #[false, false, false, false, false, false, false, false, false, false]
abbrev q7_19 : Array Bool := #[true, false, false, false, false, false, false, false, false, false]
abbrev q7_20 : Array Bool := #[true, true, false, false, false, false, false, false, false, false]
abbrev q7_21 : Array Bool := #[true, true, true, true, true, true, true, true, false, false]
abbrev q7_22 : Array Bool := #[true, true, true, false, false, false, false, false, false, false]
abbrev q7_23 : Array Bool := #[true, true, false, false, false, false, false, true, false, false]
abbrev q7_24 : Array Bool := #[true, true, true, true, false, false, false, false, false, false]
abbrev q7_25 : Array Bool := #[true, true, true, false, false, false, false, true, false, false]
abbrev q7_26 : Array Bool := #[true, true, true, true, true, false, false, false, false, false]
abbrev q7_27 : Array Bool := #[true, true, true, true, true, true, false, false, false, false]
abbrev q7_28 : Array Bool := #[true, true, true, true, true, true, true, false, false, false]
abbrev q7_29 : Array Bool := #[true, true, true, true, false, false, false, true, false, false]
abbrev q7_30 : Array Bool := #[true, true, true, true, true, false, false, true, false, false]
abbrev q7_31 : Array Bool := #[true, true, true, true, true, true, false, true, false, false]
abbrev q7_32 : Array Bool := #[true, true, true, true, true, true, true, true, true, false]
abbrev q7_33 : Array Bool := #[true, true, true, true, true, true, true, true, true, true]
mutual
def laws_FnExactOpDo.j0 : Nat → Bool → Bool → Bool → Int → Int → List (S94) → Int → Int → Int → Int → Int → Int → Int → List (S36) → Int → Int → List (S36) → Int → Int → List (S36) → Option (Bool)
 | 0, _, _, _, _, _, _, _, _, _, _, _, _, _, _, _, _, _, _, _, _ => none
 | k + 1, x7, x10, x46, x102000, x102001, x102002, x103000, x103001, x103002, x103003, x103004, x121000, x121001, x121002, x127000, x127001, x127002, x139000, x139001, x139002 => if x46 = true then (some false) else ((laws_toRasRaster.f k x102000 x102001 x102002).bind fun bt140 => ((laws_eqRasRaster.f k x127000 x127001 x127002 bt140.1 bt140.2.1 bt140.2.2).bind fun t145 => (if t145 = true then ((laws_markRasRaster.f k x127000 x127001 x127002 1).bind fun bt146 => (if bt146.1 < 0 then (laws_FnExactOpDo.j1 k x7 true x102000 x102001 x102002 x103000 x103001 x103002 x103003 x103004 x121000 x121001 x121002 x139000 x139001 x139002) else ((laws_eqRasRaster.f k x139000 x139001 x139002 x121000 x121001 x121002).bind fun t148 => (if t148 = true then (laws_FnExactOpDo.j1 k x7 (x10 != x7) x102000 x102001 x102002 x103000 x103001 x103002 x103003 x103004 x121000 x121001 x121002 x139000 x139001 x139002) else (laws_FnExactOpDo.j1 k x7 true x102000 x102001 x102002 x103000 x103001 x103002 x103003 x103004 x121000 x121001 x121002 x139000 x139001 x139002))))) else (some false))))
def laws_FnExactOpDo.j1 : Nat → Bool → Bool → Int → Int → List (S94) → Int → Int → Int → Int → Int → Int → Int → List (S36) → Int → Int → List (S36) → Option (Bool)
 | 0, _, _, _, _, _, _, _, _, _, _, _, _, _, _, _, _ => none
 | k + 1, x7, x67, x102000, x102001, x102002, x103000, x103001, x103002, x103003, x103004, x121000, x121001, x121002, x139000, x139001, x139002 => if x67 = true then (some false) else ((laws_markRasRaster.f k x139000 x139001 x139002 1).bind fun bt149 => ((laws_heldRasRaster.f k x139000 x139001 bt149.2 1).bind fun t151 => (if t151 < 0 then (some false) else (if t151 = bt149.1 then ((laws_toRasRaster.f k x102000 x102001 x102002).bind fun bt152 => ((laws_toOpOp.f x103000 x103001 x103002 x103003 x103004).bind fun bt157 => ((impl_OpDo.f bt152.1 bt152.2.1 bt152.2.2 bt157.1 bt157.2.1 bt157.2.2.1 bt157.2.2.2.1 bt157.2.2.2.2).bind fun bt162 => ((laws_eqRasRaster.f k bt162.1 bt162.2.1 bt162.2.2.1 x121000 x121001 x121002).bind fun t169 => (if t169 = true then (laws_FnExactOpDo.j2 k bt149.1 (bt162.2.2.2 != x7) x139000 x139001 bt149.2) else (laws_FnExactOpDo.j2 k bt149.1 true x139000 x139001 bt149.2)))))) else (some false)))))
def laws_FnExactOpDo.j2 : Nat → Int → Bool → Int → Int → List (S36) → Option (Bool)
 | 0, _, _, _, _, _ => none
 | k + 1, x12, x95, x139000, x139001, x139002 => if x95 = true then (some false) else ((laws_heldRasRaster.f k x139000 x139001 x139002 1).bind fun t170 => (if t170 < 0 then (some false) else (if t170 = x12 then (some true) else (some false))))
end
def laws_FnExactOpDo.f (k : Nat) (a0_0 : Int) (a0_1 : Int) (l0_2 : List (S94)) (a1_0 : Int) (a1_1 : Int) (a1_2 : Int) (a1_3 : Int) (a1_4 : Int) : Option (Bool) := (laws_szRasRaster.f a0_0 a0_1 l0_2 1048576).bind fun t103 => (if t103 < 0 then (some true) else ((laws_toRasRaster.f k a0_0 a0_1 l0_2).bind fun bt104 => ((laws_toOpOp.f a1_0 a1_1 a1_2 a1_3 a1_4).bind fun bt109 => ((spec_OpDo.f k bt104.1 bt104.2.1 bt104.2.2 bt109.1 bt109.2.1 bt109.2.2.1 bt109.2.2.2.1 bt109.2.2.2.2).bind fun bt114 => ((laws_toRasRaster.f k a0_0 a0_1 l0_2).bind fun bt121 => ((laws_toOpOp.f a1_0 a1_1 a1_2 a1_3 a1_4).bind fun bt127 => ((impl_OpDo.f bt121.1 bt121.2.1 bt121.2.2 bt127.1 bt127.2.1 bt127.2.2.1 bt127.2.2.2.1 bt127.2.2.2.2).bind fun bt132 => ((laws_eqRasRaster.f k bt132.1 bt132.2.1 bt132.2.2.1 bt114.1 bt114.2.1 bt114.2.2.1).bind fun t139 => (if t139 = true then (laws_FnExactOpDo.j0 k bt114.2.2.2 bt132.2.2.2 (bt132.2.2.2 != bt114.2.2.2) a0_0 a0_1 l0_2 a1_0 a1_1 a1_2 a1_3 a1_4 bt114.1 bt114.2.1 bt114.2.2.1 bt121.1 bt121.2.1 bt121.2.2 bt132.1 bt132.2.1 bt132.2.2.1) else (laws_FnExactOpDo.j0 k bt114.2.2.2 bt132.2.2.2 true a0_0 a0_1 l0_2 a1_0 a1_1 a1_2 a1_3 a1_4 bt114.1 bt114.2.1 bt114.2.2.1 bt121.1 bt121.2.1 bt121.2.2 bt132.1 bt132.2.1 bt132.2.2.1))))))))))
def laws_FnExactOpDo.T5 : Bool × List (List Nat × List Nat) := (true, [([], []), ([0], [0]), ([], []), ([2, 1], [2]), ([1, 3, 3], [1, 3]), ([4], [4]), ([5], [5]), ([5], [5]), ([], []), ([8, 6, 4, 0, 1, 2, 3, 4, 5, 6, 8], [6, 8]), ([7, 9, 0, 1, 2, 3, 4, 5, 6, 7, 8, 9], [7])])
def laws_FnExactOpDo.B5 : List Nat := [0, 1, 0, 7, 15, 31, 63, 63, 0, 383, 1023]
theorem laws_FnExactOpDo.tab5 : rtab .any (opsOf Try.f7 5) = laws_FnExactOpDo.T5 := by kernel_rfl
theorem laws_FnExactOpDo.bits5 : waitsOk laws_FnExactOpDo.T5.2 laws_FnExactOpDo.B5 = true := by kernel_rfl
def laws_FnExactOpDo.T7 : Bool × List (List Nat × List Nat) := (true, [([], []), ([], []), ([1], [1]), ([0, 2, 2], [0, 2]), ([3], [3]), ([4], [4]), ([4], [4]), ([], []), ([7, 5, 3, 0, 1, 2, 3, 4, 5, 7], [5, 7]), ([6, 8, 0, 1, 2, 3, 4, 5, 6, 7, 8], [6])])
def laws_FnExactOpDo.B7 : List Nat := [0, 0, 2, 7, 15, 31, 31, 0, 191, 511]
theorem laws_FnExactOpDo.tab7 : rtab .any (opsOf Try.f7 7) = laws_FnExactOpDo.T7 := by kernel_rfl
theorem laws_FnExactOpDo.bits7 : waitsOk laws_FnExactOpDo.T7.2 laws_FnExactOpDo.B7 = true := by kernel_rfl
def laws_FnExactOpDo.T24 : Bool × List (List Nat × List Nat) := (true, [([], []), ([0], [0]), ([], []), ([2, 1], [2]), ([1, 3, 3], [1, 3]), ([4], [4]), ([5], [5]), ([5], [5]), ([], []), ([8, 6, 4, 0, 1, 2, 3, 4, 5, 6, 8], [6, 8]), ([7, 9, 0, 1, 2, 3, 4, 5, 6, 7, 8, 9], [7])])
def laws_FnExactOpDo.B24 : List Nat := [0, 1, 0, 7, 15, 31, 63, 63, 0, 383, 1023]
theorem laws_FnExactOpDo.tab24 : rtab .any (opsOf Try.f7 24) = laws_FnExactOpDo.T24 := by kernel_rfl
theorem laws_FnExactOpDo.bits24 : waitsOk laws_FnExactOpDo.T24.2 laws_FnExactOpDo.B24 = true := by kernel_rfl
set_option maxHeartbeats 8000000 in
set_option maxRecDepth 100000 in
theorem laws_FnExactOpDo.calls (k : Nat) (a0_0 : Int) (a0_1 : Int) (A0_2 : Option Addr) (c0_2 : Nat) (l0_2 : List (S94)) (a1_0 : Int) (a1_1 : Int) (a1_2 : Int) (a1_3 : Int) (a1_4 : Int) (r : Bool) (w : World) (hr0_2 : Kd.C k94 w A0_2 l0_2.length l0_2) (hc0_2 : l0_2.length ≤ c0_2) (h : laws_FnExactOpDo.f k a0_0 a0_1 l0_2 a1_0 a1_1 a1_2 a1_3 a1_4 = some r) (hrt : r = true) :
  Calls Try.prog 7 #[.agg #[.int .i64 a0_0, .int .i64 a0_1, .slice A0_2 l0_2.length c0_2], .agg #[.int .i64 a1_0, .int .i64 a1_1, .int .i64 a1_2, .int .i64 a1_3, .int .i64 a1_4]] w fun e w' => e = .returned (.bool r) ∧ Below w.heap.size w w' := by
 have hu44 := Try.underlying44
 have hu45 := Try.underlying45
 have hu25 := Try.underlying25
 have HR0_2 := yaa hr0_2
 have HC0_2 := yaa hc0_2
 clear hr0_2 hc0_2
 have HB := yaa (Below.refl w.heap.size w)
 have H : ((laws_szRasRaster.f a0_0 a0_1 l0_2 1048576).bind fun q5 => (if q5 < 0 then (some true) else ((laws_toRasRaster.f k a0_0 a0_1 l0_2).bind fun n9 => ((laws_toOpOp.f a1_0 a1_1 a1_2 a1_3 a1_4).bind fun k8 => ((spec_OpDo.f k n9.1 n9.2.1 n9.2.2 k8.1 k8.2.1 k8.2.2.1 k8.2.2.2.1 k8.2.2.2.2).bind fun i0 => ((laws_toRasRaster.f k a0_0 a0_1 l0_2).bind fun i8 => ((laws_toOpOp.f a1_0 a1_1 a1_2 a1_3 a1_4).bind fun k9 => ((impl_OpDo.f i8.1 i8.2.1 i8.2.2 k9.1 k9.2.1 k9.2.2.1 k9.2.2.2.1 k9.2.2.2.2).bind fun i1 => ((laws_eqRasRaster.f k i1.1 i1.2.1 i1.2.2.1 i0.1 i0.2.1 i0.2.2.1).bind fun q6 => (if q6 = true then (laws_FnExactOpDo.j0 k i0.2.2.2 i1.2.2.2 (i1.2.2.2 != i0.2.2.2) a0_0 a0_1 l0_2 a1_0 a1_1 a1_2 a1_3 a1_4 i0.1 i0.2.1 i0.2.2.1 i8.1 i8.2.1 i8.2.2 i1.1 i1.2.1 i1.2.2.1) else (laws_FnExactOpDo.j0 k i0.2.2.2 i1.2.2.2 true a0_0 a0_1 l0_2 a1_0 a1_1 a1_2 a1_3 a1_4 i0.1 i0.2.1 i0.2.2.1 i8.1 i8.2.1 i8.2.2 i1.1 i1.2.1 i1.2.2.1))))))))))) = some r := h
 clear h
 replace H := Option.bind_eq_some_iff.mp H
 obtain ⟨q5, A30, H⟩ := H
 replace H : (if q5 < 0 then (some true) else ((laws_toRasRaster.f k a0_0 a0_1 l0_2).bind fun n9 => ((laws_toOpOp.f a1_0 a1_1 a1_2 a1_3 a1_4).bind fun k8 => ((spec_OpDo.f k n9.1 n9.2.1 n9.2.2 k8.1 k8.2.1 k8.2.2.1 k8.2.2.2.1 k8.2.2.2.2).bind fun i0 => ((laws_toRasRaster.f k a0_0 a0_1 l0_2).bind fun i8 => ((laws_toOpOp.f a1_0 a1_1 a1_2 a1_3 a1_4).bind fun k9 => ((impl_OpDo.f i8.1 i8.2.1 i8.2.2 k9.1 k9.2.1 k9.2.2.1 k9.2.2.2.1 k9.2.2.2.2).bind fun i1 => ((laws_eqRasRaster.f k i1.1 i1.2.1 i1.2.2.1 i0.1 i0.2.1 i0.2.2.1).bind fun q6 => (if q6 = true then (laws_FnExactOpDo.j0 k i0.2.2.2 i1.2.2.2 (i1.2.2.2 != i0.2.2.2) a0_0 a0_1 l0_2 a1_0 a1_1 a1_2 a1_3 a1_4 i0.1 i0.2.1 i0.2.2.1 i8.1 i8.2.1 i8.2.2 i1.1 i1.2.1 i1.2.2.1) else (laws_FnExactOpDo.j0 k i0.2.2.2 i1.2.2.2 true a0_0 a0_1 l0_2 a1_0 a1_1 a1_2 a1_3 a1_4 i0.1 i0.2.1 i0.2.2.1 i8.1 i8.2.1 i8.2.2 i1.1 i1.2.1 i1.2.2.1)))))))))) = some r := H
 have A3 := yaa A30
 clear A30
 by_cases c4 : q5 < 0
 ·
  rw [if_pos c4] at H
  have R5 : decide (q5 < 0) = true := decide_eq_true c4
  clear c4
  obtain rfl := Option.some.inj H
  go_enter Try.func7, Try.ntmps7
  go_wp2_with (first | ((with_reducible refine gate_dst (N := 2) rfl ?_); refine box_event ?hg (N := 2) ?hd (cs := #[.int .i64 a0_0, .int .i64 a0_1, .slice A0_2 l0_2.length c0_2]) (t := 44) ?hr ?_; (case hd => rfl); (case hg => rfl); (case hr => first | (go_simp; done) | (go_simp; rfl)); intro b9 hg w5 hbox hb; have n0_ := yaa (yas (by repeat (first | (with_reducible first | exact HB.out | apply yaf | apply yac | apply yae) | exact HB.out)) hb); have n1_ := yaa (hbox); have n2_ := yaa ((by rw [hg]; exact (yau (by repeat (first | (with_reducible first | exact HB.out | apply yaf | apply yac | apply yae) | exact HB.out))) : w.heap.size ≤ b9)); have n3_ := yaa ((by rw [hg]; exact (yau (by repeat (first | (with_reducible first | exact HB.out | apply yaf | apply yac | apply yae) | exact HB.out))) : w.heap.size ≤ b9)); clear HB; have HB := n0_; have a9 := n1_; have E9 := n2_; have F0 := n3_; clear n0_ n1_ n2_ n3_; clear hb hbox hg) | ((with_reducible refine gate_dst (N := 3) rfl ?_); refine box_event ?hg (N := 3) ?hd (cs := #[.int .i64 a1_0, .int .i64 a1_1, .int .i64 a1_2, .int .i64 a1_3, .int .i64 a1_4]) (t := 45) ?hr ?_; (case hd => rfl); (case hg => rfl); (case hr => first | (go_simp; done) | (go_simp; rfl)); intro b8 hg w6 hbox hb; have n0_ := yaa (yad (g := b9) (o := .cells #[.int .i64 a0_0, .int .i64 a0_1, .slice A0_2 l0_2.length c0_2] 44 (0, 0)) (upB a9.out) hb); have n1_ := yaa (yas (by repeat (first | (with_reducible first | exact HB.out | apply yaf | apply yac | apply yae | refine yag ?_ (Aside0.out ‹_›)) | exact HB.out)) hb); have n2_ := yaa (hbox); have n3_ := yaa ((by rw [hg]; exact (yau (by repeat (first | (with_reducible first | exact HB.out | apply yaf | apply yac | apply yae | refine yag ?_ (Aside0.out ‹_›)) | exact HB.out))) : w.heap.size ≤ b8)); have n4_ := yaa ((by rw [hg]; exact (yau (by repeat (first | (with_reducible first | exact HB.out | apply yaf | apply yac | apply yae | refine yag ?_ (Aside0.out ‹_›)) | exact HB.out))) : w.heap.size ≤ b8)); have n5_ := yaa ((by rw [hg]; exact Nat.ne_of_lt (yay (g := b9) (o := .cells #[.int .i64 a0_0, .int .i64 a0_1, .slice A0_2 l0_2.length c0_2] 44 (0, 0)) (upB a9.out)) : b9 ≠ b8)); have n6_ := yaa ((by rw [hg]; exact Nat.ne_of_gt (yay (g := b9) (o := .cells #[.int .i64 a0_0, .int .i64 a0_1, .slice A0_2 l0_2.length c0_2] 44 (0, 0)) (upB a9.out)) : b8 ≠ b9)); clear a9; clear HB; have a9 := n0_; have HB := n1_; have a8 := n2_; have F1 := n3_; have F2 := n4_; have l8 := n5_; have l9 := n6_; clear n0_ n1_ n2_ n3_ n4_ n5_ n6_; clear hb hbox hg; have cS := l8.out; have cT := l9.out; have R6 : w6.cell? ⟨b9, 0, none⟩ = some (.int .i64 a0_0) := (yab a9.out 0).trans rfl; have R7 : w6.cell? ⟨b9, 1, none⟩ = some (.int .i64 a0_1) := (yab a9.out 1).trans rfl; have R8 : w6.cell? ⟨b9, 2, none⟩ = some (.slice A0_2 l0_2.length c0_2) := (yab a9.out 2).trans rfl; have R9 := yaq a9.out 0; have S0 := yaq a9.out 1; have S1 := yaq a9.out 2) | ((with_reducible refine gate_callee (f := 20) rfl ?_); refine goesL_ (some 18) rfl rfl Try.func20 (by kernel_rfl) rfl #[.agg #[.int .i64 a0_0, .int .i64 a0_1, .slice A0_2 l0_2.length c0_2], .int .i64 1048576] rfl (by (try simp only [List.map_toArray, List.map_cons, List.map_nil]); first | done | rfl | (simp only [List.length_drop, List.length_take]; rfl)) ?_; (with_reducible refine (laws_szRasRaster.calls a0_0 a0_1 _ _ l0_2 1048576 q5 _ ?side1 ?side2 A3.out).mono ?_); (case side1 => repeat (first | exact (Kd.C_below HR0_2.out HB.out) | (with_reducible refine ybc ?_ _) | (with_reducible refine ybd ?_ _) | (with_reducible refine ybf ?_))); (case side2 => exact HC0_2.out); rintro e w9 ⟨rfl, hb⟩; refine ⟨_, rfl, ?_⟩; have n0_ := yaa (yad (g := b9) (o := .cells #[.int .i64 a0_0, .int .i64 a0_1, .slice A0_2 l0_2.length c0_2] 44 (0, 0)) (upB a9.out) hb); have n1_ := yaa (yad (g := b8) (o := .cells #[.int .i64 a1_0, .int .i64 a1_1, .int .i64 a1_2, .int .i64 a1_3, .int .i64 a1_4] 45 (0, 0)) (upB a8.out) hb); have n2_ := yaa (yas (by repeat (first | (with_reducible first | exact HB.out | apply yaf | apply yac | apply yae | refine yag ?_ (Aside0.out ‹_›)) | exact HB.out)) hb); clear a9; clear a8; clear HB; have a9 := n0_; have a8 := n1_; have HB := n2_; clear n0_ n1_ n2_; (try clear hb); (try clear hb2); (try clear hk); (try clear hi)))
  go_ret
  exact ⟨by first | rfl | (simp [errW_none, errW_some] <;> rfl) | (simp [*, errW_none, errW_some] <;> rfl), by repeat (first | (with_reducible first | exact HB.out | apply yaf | apply yac | apply yae | refine yag ?_ (Aside0.out ‹_›)) | exact HB.out)⟩
 ·
  rw [if_neg c4] at H
  have R5 : decide (q5 < 0) = false := decide_eq_false c4
  clear c4
  replace H := Option.bind_eq_some_iff.mp H
  obtain ⟨⟨o0, o1, k6⟩, F3, H⟩ := H
  have A10 := yaa F3
  clear F3
  replace H := Option.bind_eq_some_iff.mp H
  obtain ⟨⟨m8, m9, n0, n1, n2⟩, F4, H⟩ := H
  have A11 := yaa F4
  clear F4
  replace H := Option.bind_eq_some_iff.mp H
  obtain ⟨⟨d8, e0, d0, h2⟩, r2, H⟩ := H
  have A12 := yaa r2
  clear r2
  replace H := Option.bind_eq_some_iff.mp H
  obtain ⟨⟨e9, f1, f0⟩, F5, H⟩ := H
  have A13 := yaa F5
  clear F5
  replace H := Option.bind_eq_some_iff.mp H
  obtain ⟨⟨p8, p9, q0, q1, q2⟩, F6, H⟩ := H
  have A14 := yaa F6
  clear F6
  replace H := Option.bind_eq_some_iff.mp H
  obtain ⟨⟨d9, e1, d2, j9⟩, F7, H⟩ := H
  replace H : ((laws_eqRasRaster.f k d9 e1 d2 d8 e0 d0).bind fun q6 => (if q6 = true then (laws_FnExactOpDo.j0 k h2 j9 (j9 != h2) a0_0 a0_1 l0_2 a1_0 a1_1 a1_2 a1_3 a1_4 d8 e0 d0 e9 f1 f0 d9 e1 d2) else (laws_FnExactOpDo.j0 k h2 j9 true a0_0 a0_1 l0_2 a1_0 a1_1 a1_2 a1_3 a1_4 d8 e0 d0 e9 f1 f0 d9 e1 d2))) = some r := H
  have A15 := yaa F7
  clear F7
  have HC16 := yaa H
  clear H
  go_enter Try.func7, Try.ntmps7
  try go_wp2_with (first | ((with_reducible refine gate_dst (N := 2) rfl ?_); refine box_event ?hg (N := 2) ?hd (cs := #[.int .i64 a0_0, .int .i64 a0_1, .slice A0_2 l0_2.length c0_2]) (t := 44) ?hr ?_; (case hd => rfl); (case hg => rfl); (case hr => first | (go_simp; done) | (go_simp; rfl)); intro b9 hg w17 hbox hb; have n0_ := yaa (yas (by repeat (first | (with_reducible first | exact HB.out | apply yaf | apply yac | apply yae) | exact HB.out)) hb); have n1_ := yaa (hbox); have n2_ := yaa ((by rw [hg]; exact (yau (by repeat (first | (with_reducible first | exact HB.out | apply yaf | apply yac | apply yae) | exact HB.out))) : w.heap.size ≤ b9)); have n3_ := yaa ((by rw [hg]; exact (yau (by repeat (first | (with_reducible first | exact HB.out | apply yaf | apply yac | apply yae) | exact HB.out))) : w.heap.size ≤ b9)); clear HB; have HB := n0_; have a9 := n1_; have E9 := n2_; have F0 := n3_; clear n0_ n1_ n2_ n3_; clear hb hbox hg) | ((with_reducible refine gate_dst (N := 3) rfl ?_); refine box_event ?hg (N := 3) ?hd (cs := #[.int .i64 a1_0, .int .i64 a1_1, .int .i64 a1_2, .int .i64 a1_3, .int .i64 a1_4]) (t := 45) ?hr ?_; (case hd => rfl); (case hg => rfl); (case hr => first | (go_simp; done) | (go_simp; rfl)); intro b8 hg w18 hbox hb; have n0_ := yaa (yad (g := b9) (o := .cells #[.int .i64 a0_0, .int .i64 a0_1, .slice A0_2 l0_2.length c0_2] 44 (0, 0)) (upB a9.out) hb); have n1_ := yaa (yas (by repeat (first | (with_reducible first | exact HB.out | apply yaf | apply yac | apply yae | refine yag ?_ (Aside0.out ‹_›)) | exact HB.out)) hb); have n2_ := yaa (hbox); have n3_ := yaa ((by rw [hg]; exact (yau (by repeat (first | (with_reducible first | exact HB.out | apply yaf | apply yac | apply yae | refine yag ?_ (Aside0.out ‹_›)) | exact HB.out))) : w.heap.size ≤ b8)); have n4_ := yaa ((by rw [hg]; exact (yau (by repeat (first | (with_reducible first | exact HB.out | apply yaf | apply yac | apply yae | refine yag ?_ (Aside0.out ‹_›)) | exact HB.out))) : w.heap.size ≤ b8)); have n5_ := yaa ((by rw [hg]; exact Nat.ne_of_lt (yay (g := b9) (o := .cells #[.int .i64 a0_0, .int .i64 a0_1, .slice A0_2 l0_2.length c0_2] 44 (0, 0)) (upB a9.out)) : b9 ≠ b8)); have n6_ := yaa ((by rw [hg]; exact Nat.ne_of_gt (yay (g := b9) (o := .cells #[.int .i64 a0_0, .int .i64 a0_1, .slice A0_2 l0_2.length c0_2] 44 (0, 0)) (upB a9.out)) : b8 ≠ b9)); clear a9; clear HB; have a9 := n0_; have HB := n1_; have a8 := n2_; have F1 := n3_; have F2 := n4_; have l8 := n5_; have l9 := n6_; clear n0_ n1_ n2_ n3_ n4_ n5_ n6_; clear hb hbox hg; have aB := l8.out; have aC := l9.out; have M0 : w18.cell? ⟨b9, 0, none⟩ = some (.int .i64 a0_0) := (yab a9.out 0).trans rfl; have M1 : w18.cell? ⟨b9, 1, none⟩ = some (.int .i64 a0_1) := (yab a9.out 1).trans rfl; have M2 : w18.cell? ⟨b9, 2, none⟩ = some (.slice A0_2 l0_2.length c0_2) := (yab a9.out 2).trans rfl; have M3 := yaq a9.out 0; have M4 := yaq a9.out 1; have M5 := yaq a9.out 2) | ((with_reducible refine gate_callee (f := 20) rfl ?_); refine goesL_ (some 18) rfl rfl Try.func20 (by kernel_rfl) rfl #[.agg #[.int .i64 a0_0, .int .i64 a0_1, .slice A0_2 l0_2.length c0_2], .int .i64 1048576] rfl (by (try simp only [List.map_toArray, List.map_cons, List.map_nil]); first | done | rfl | (simp only [List.length_drop, List.length_take]; rfl)) ?_; (with_reducible refine (laws_szRasRaster.calls a0_0 a0_1 _ _ l0_2 1048576 q5 _ ?side1 ?side2 A3.out).mono ?_); (case side1 => repeat (first | exact (Kd.C_below HR0_2.out HB.out) | (with_reducible refine ybc ?_ _) | (with_reducible refine ybd ?_ _) | (with_reducible refine ybf ?_))); (case side2 => exact HC0_2.out); rintro e w21 ⟨rfl, hb⟩; refine ⟨_, rfl, ?_⟩; have n0_ := yaa (yad (g := b9) (o := .cells #[.int .i64 a0_0, .int .i64 a0_1, .slice A0_2 l0_2.length c0_2] 44 (0, 0)) (upB a9.out) hb); have n1_ := yaa (yad (g := b8) (o := .cells #[.int .i64 a1_0, .int .i64 a1_1, .int .i64 a1_2, .int .i64 a1_3, .int .i64 a1_4] 45 (0, 0)) (upB a8.out) hb); have n2_ := yaa (yas (by repeat (first | (with_reducible first | exact HB.out | apply yaf | apply yac | apply yae | refine yag ?_ (Aside0.out ‹_›)) | exact HB.out)) hb); clear a9; clear a8; clear HB; have a9 := n0_; have a8 := n1_; have HB := n2_; clear n0_ n1_ n2_; (try clear hb); (try clear hb2); (try clear hk); (try clear hi)))
  have n0_ := yaa (yao a9.out)
  have n1_ := yaa (yao a8.out)
  have n2_ := yaa (yae HB.out)
  clear a9 a8 HB
  have a9 := n0_
  have a8 := n1_
  have HB := n2_
  clear n0_ n1_ n2_
  refine start_ (n := 11) (S := fun w' => w'.cell? ⟨b9, 0, none⟩ = some (.int .i64 a0_0) ∧ w'.cell? ⟨b9, 1, none⟩ = some (.int .i64 a0_1) ∧ w'.cell? ⟨b9, 2, none⟩ = some (.slice A0_2 l0_2.length c0_2) ∧ w'.cell? ⟨b8, 0, none⟩ = some (.int .i64 a1_0) ∧ w'.cell? ⟨b8, 1, none⟩ = some (.int .i64 a1_1) ∧ w'.cell? ⟨b8, 2, none⟩ = some (.int .i64 a1_2) ∧ w'.cell? ⟨b8, 3, none⟩ = some (.int .i64 a1_3) ∧ w'.cell? ⟨b8, 4, none⟩ = some (.int .i64 a1_4)) (ds := []) q7_0 (by kernel_rfl) rfl rfl ⟨(yab a9.out 0).trans rfl, (yab a9.out 1).trans rfl, (yab a9.out 2).trans rfl, (yab a8.out 0).trans rfl, (yab a8.out 1).trans rfl, (yab a8.out 2).trans rfl, (yab a8.out 3).trans rfl, (yab a8.out 4).trans rfl⟩ (fun hHeld => ?_); refine with_tabW laws_FnExactOpDo.tab5 laws_FnExactOpDo.bits5 (fun HT_ HW_ => ?_)
  generalize w21.drew = w22 at a9 a8 HB hHeld ⊢
  refine tz_ 0 22 q7_1 HT_ HW_ (by kernel_rfl) hHeld ?_
  refine tz_ 2 24 q7_2 HT_ HW_ (by kernel_rfl) hHeld ?_
  refine join_ (σ := Value × Value × Nat) 2 q7_3 (fun s_ => [(23, .agg #[.int .i64 o0, .int .i64 o1, s_.1]), (25, .agg #[.int .i64 m8, .int .i64 m9, .int .i64 n0, .int .i64 n1, .int .i64 n2]), (26, .tuple #[.agg #[.int .i64 d8, .int .i64 e0, s_.2.1], .bool h2]), (6, .pointer (some ⟨s_.2.2, 0, none⟩)), (21, .tuple #[.agg #[.int .i64 d8, .int .i64 e0, s_.2.1], .bool h2]), (27, .agg #[.int .i64 d8, .int .i64 e0, s_.2.1]), (28, .bool h2)]) (fun s_ w' => (w'.cell? ⟨b9, 0, none⟩ = some (.int .i64 a0_0) ∧ w'.cell? ⟨b9, 1, none⟩ = some (.int .i64 a0_1) ∧ w'.cell? ⟨b9, 2, none⟩ = some (.slice A0_2 l0_2.length c0_2) ∧ w'.cell? ⟨b8, 0, none⟩ = some (.int .i64 a1_0) ∧ w'.cell? ⟨b8, 1, none⟩ = some (.int .i64 a1_1) ∧ w'.cell? ⟨b8, 2, none⟩ = some (.int .i64 a1_2) ∧ w'.cell? ⟨b8, 3, none⟩ = some (.int .i64 a1_3) ∧ w'.cell? ⟨b8, 4, none⟩ = some (.int .i64 a1_4)) ∧ (Kd.R k36 36 w' w.heap.size (fun k_ => some k_ ≠ (s_.2.1 : Value).ownBlock) s_.1 k6) ∧ (Kd.R k36 36 w' w.heap.size (fun k_ => some k_ ≠ (s_.1 : Value).ownBlock) s_.2.1 d0) ∧ (w'.heap[b9]? = some (.cells #[.int .i64 a0_0, .int .i64 a0_1, .slice A0_2 l0_2.length c0_2] 44 (0, 0))) ∧ (w'.heap[b8]? = some (.cells #[.int .i64 a1_0, .int .i64 a1_1, .int .i64 a1_2, .int .i64 a1_3, .int .i64 a1_4] 45 (0, 0))) ∧ (w'.heap[s_.2.2]? = some (.cells #[.int .i64 0, .int .i64 0, .slice none 0 0] 25 (0, 0))) ∧ (w.heap.size ≤ s_.2.2) ∧ (w.heap.size ≤ s_.2.2) ∧ (b9 ≠ s_.2.2) ∧ (s_.2.2 ≠ b9) ∧ (b8 ≠ s_.2.2) ∧ (s_.2.2 ≠ b8) ∧ (Below w.heap.size w w')) ?_ ?_
  rotate_left
  ·
   intro hCont
   refine two_ (i := 1) (j := 8) (Ni := some 23) (Nj := some 6) q7_4 q7_5 rfl rfl rfl rfl (two_of HT_.out (by kernel_rfl)) (by decide) (by decide) (fun K hK => ?_) (fun K hK => ?_)
   ·
    skip
    refine goes_ Try.func21 (by kernel_rfl) rfl #[.agg #[.int .i64 a0_0, .int .i64 a0_1, .slice A0_2 l0_2.length c0_2]] (by rfl) rfl rfl (by (try simp only [List.map_toArray, List.map_cons, List.map_nil]); first | done | rfl | (simp only [List.length_drop, List.length_take]; rfl)) ?_
    with_reducible refine (laws_toRasRaster.calls k a0_0 a0_1 _ _ l0_2 o0 o1 k6 _ ?side1 ?side2 A10.out).mono ?_
    (case side1 => repeat (first | exact (Kd.C_below HR0_2.out HB.out) | (with_reducible refine ybc ?_ _) | (with_reducible refine ybd ?_ _) | (with_reducible refine ybf ?_)))
    (case side2 => exact HC0_2.out)
    rintro e w23 ⟨k7, rfl, ho0, hb⟩
    refine ⟨_, rfl, ?_⟩
    have n0_ := yaa (ybg ho0 (yau (by repeat (first | (with_reducible first | exact HB.out | apply yaf | apply yac | apply yae | refine yag ?_ (Aside0.out ‹_›)) | exact HB.out))))
    have n1_ := yaa (yad (g := b9) (o := .cells #[.int .i64 a0_0, .int .i64 a0_1, .slice A0_2 l0_2.length c0_2] 44 (0, 0)) (upB a9.out) hb)
    have n2_ := yaa (yad (g := b8) (o := .cells #[.int .i64 a1_0, .int .i64 a1_1, .int .i64 a1_2, .int .i64 a1_3, .int .i64 a1_4] 45 (0, 0)) (upB a8.out) hb)
    have n3_ := yaa (yas (by repeat (first | (with_reducible first | exact HB.out | apply yaf | apply yac | apply yae | refine yag ?_ (Aside0.out ‹_›)) | exact HB.out)) hb)
    clear a9 a8 HB
    have d1 := n0_
    have a9 := n1_
    have a8 := n2_
    have HB := n3_
    clear n0_ n1_ n2_ n3_
    (try clear hb)
    (try clear hb2)
    (try clear hk)
    (try clear hi)
    (try clear ho0)
    refine hK.out _ _ ⟨(yab a9.out 0).trans rfl, (yab a9.out 1).trans rfl, (yab a9.out 2).trans rfl, (yab a8.out 0).trans rfl, (yab a8.out 1).trans rfl, (yab a8.out 2).trans rfl, (yab a8.out 3).trans rfl, (yab a8.out 4).trans rfl⟩ (fun hHeld => ?_)
    clear hK K
    refine ybh (a' := ?_) ?_ ?_
    rotate_left
    ·
     show Act.put _ (some 23) _ = _
     simp only [Act.put, List.setIfInBounds_toArray, List.set_cons_zero, List.set_cons_succ, i64_w, i32_w]
     rfl
    refine two_ (i := 3) (j := 8) (Ni := some 25) (Nj := some 6) q7_6 q7_7 rfl rfl rfl rfl (two_of HT_.out (by kernel_rfl)) (by decide) (by decide) (fun K hK => ?_) (fun K hK => ?_)
    ·
     skip
     refine goes_ Try.func22 (by kernel_rfl) rfl #[.agg #[.int .i64 a1_0, .int .i64 a1_1, .int .i64 a1_2, .int .i64 a1_3, .int .i64 a1_4]] (by rfl) rfl rfl (by (try simp only [List.map_toArray, List.map_cons, List.map_nil]); first | done | rfl | (simp only [List.length_drop, List.length_take]; rfl)) ?_
     with_reducible refine (laws_toOpOp.calls a1_0 a1_1 a1_2 a1_3 a1_4 m8 m9 n0 n1 n2 _ A11.out).mono ?_
     rintro e w24 ⟨rfl, hb⟩
     refine ⟨_, rfl, ?_⟩
     have n0_ := yaa (yaj (upR d1.out) hb)
     have n1_ := yaa (yad (g := b9) (o := .cells #[.int .i64 a0_0, .int .i64 a0_1, .slice A0_2 l0_2.length c0_2] 44 (0, 0)) (upB a9.out) hb)
     have n2_ := yaa (yad (g := b8) (o := .cells #[.int .i64 a1_0, .int .i64 a1_1, .int .i64 a1_2, .int .i64 a1_3, .int .i64 a1_4] 45 (0, 0)) (upB a8.out) hb)
     have n3_ := yaa (yas (by repeat (first | (with_reducible first | exact HB.out | apply yaf | apply yac | apply yae | refine yag ?_ (Aside0.out ‹_›)) | exact HB.out)) hb)
     clear d1 a9 a8 HB
     have d1 := n0_
     have a9 := n1_
     have a8 := n2_
     have HB := n3_
     clear n0_ n1_ n2_ n3_
     (try clear hb)
     (try clear hb2)
     (try clear hk)
     (try clear hi)
     obtain ⟨F8, F9, G0⟩ := Kd.R_slice d1.out
     (first | subst G0 | (injection G0 with f1_ f2_ f3_; have f4_ := f1_.symm; have f5_ := f3_.symm; clear f1_ f2_ f3_; subst f4_; subst f5_))
     refine hK.out _ _ ⟨(yab a9.out 0).trans rfl, (yab a9.out 1).trans rfl, (yab a9.out 2).trans rfl, (yab a8.out 0).trans rfl, (yab a8.out 1).trans rfl, (yab a8.out 2).trans rfl, (yab a8.out 3).trans rfl, (yab a8.out 4).trans rfl⟩ (fun hHeld => ?_)
     clear hK K
     refine ybh (a' := ?_) ?_ ?_
     rotate_left
     ·
      show Act.put _ (some 25) _ = _
      simp only [Act.put, List.setIfInBounds_toArray, List.set_cons_zero, List.set_cons_succ, i64_w, i32_w]
      rfl
     refine two_ (i := 4) (j := 8) (Ni := some 26) (Nj := some 6) q7_8 q7_9 rfl rfl rfl rfl (two_of HT_.out (by kernel_rfl)) (by decide) (by decide) (fun K hK => ?_) (fun K hK => ?_)
     ·
      skip
      refine goes_ Try.func12 (by kernel_rfl) rfl #[.agg #[.int .i64 o0, .int .i64 o1, .slice F8 k6.length F9], .agg #[.int .i64 m8, .int .i64 m9, .int .i64 n0, .int .i64 n1, .int .i64 n2]] (by rfl) rfl rfl (by (try simp only [List.map_toArray, List.map_cons, List.map_nil]); first | done | rfl | (simp only [List.length_drop, List.length_take]; rfl)) ?_
      with_reducible refine (spec_OpDo.calls k o0 o1 _ _ k6 m8 m9 n0 n1 n2 d8 e0 d0 h2 _ ?side1 ?side2 A12.out).mono ?_
      (case side1 => repeat (first | exact (yar d1.out).2.2 | (with_reducible refine ybc ?_ _) | (with_reducible refine ybd ?_ _) | (with_reducible refine ybf ?_)))
      (case side2 => exact (yar d1.out).2.1)
      rintro e w26 ⟨o8, rfl, ho0, hb⟩
      refine ⟨_, rfl, ?_⟩
      have n0_ := yaa (yav (upR d1.out) (yaz ho0) hb)
      have n1_ := yaa (ybg (yba ho0 (ybe (upR d1.out))) (yau (by repeat (first | (with_reducible first | exact HB.out | apply yaf | apply yac | apply yae | refine yag ?_ (Aside0.out ‹_›)) | exact HB.out))))
      have n2_ := yaa (yad (g := b9) (o := .cells #[.int .i64 a0_0, .int .i64 a0_1, .slice A0_2 l0_2.length c0_2] 44 (0, 0)) (upB a9.out) hb)
      have n3_ := yaa (yad (g := b8) (o := .cells #[.int .i64 a1_0, .int .i64 a1_1, .int .i64 a1_2, .int .i64 a1_3, .int .i64 a1_4] 45 (0, 0)) (upB a8.out) hb)
      have n4_ := yaa (yas (by repeat (first | (with_reducible first | exact HB.out | apply yaf | apply yac | apply yae | refine yag ?_ (Aside0.out ‹_›)) | exact HB.out)) hb)
      clear d1 a9 a8 HB
      have d1 := n0_
      have e7 := n1_
      have a9 := n2_
      have a8 := n3_
      have HB := n4_
      clear n0_ n1_ n2_ n3_ n4_
      (try clear hb)
      (try clear hb2)
      (try clear hk)
      (try clear hi)
      (try clear ho0)
      refine hK.out _ _ ⟨(yab a9.out 0).trans rfl, (yab a9.out 1).trans rfl, (yab a9.out 2).trans rfl, (yab a8.out 0).trans rfl, (yab a8.out 1).trans rfl, (yab a8.out 2).trans rfl, (yab a8.out 3).trans rfl, (yab a8.out 4).trans rfl⟩ (fun hHeld => ?_)
      clear hK K
      refine ybh (a' := ?_) ?_ ?_
      rotate_left
      ·
       show Act.put _ (some 26) _ = _
       simp only [Act.put, List.setIfInBounds_toArray, List.set_cons_zero, List.set_cons_succ, i64_w, i32_w]
       rfl
      refine pz_ 5 21 q7_10 HT_ (by kernel_rfl) ?_
      refine pz_ 6 27 q7_11 HT_ (by kernel_rfl) ?_
      refine pz_ 7 28 q7_12 HT_ (by kernel_rfl) ?_
      refine one_ (i := 8) (N := some 6) q7_3 rfl rfl (one_of HT_.out (by kernel_rfl)) (by decide) (fun K hK => ?_)
      refine box_step ?hg (N := 6) ?hd (cs := #[.int .i64 0, .int .i64 0, .slice none 0 0]) (t := 25) ?hr ?_; (case hd => rfl); (case hg => rfl); (case hr => first | (go_simp; done) | (go_simp; rfl))
      intro b6 hg w27 hbox hb
      have n0_ := yaa (yaj (upR d1.out) hb)
      have n1_ := yaa (yaj (upR e7.out) hb)
      have n2_ := yaa (yad (g := b9) (o := .cells #[.int .i64 a0_0, .int .i64 a0_1, .slice A0_2 l0_2.length c0_2] 44 (0, 0)) (upB a9.out) hb)
      have n3_ := yaa (yad (g := b8) (o := .cells #[.int .i64 a1_0, .int .i64 a1_1, .int .i64 a1_2, .int .i64 a1_3, .int .i64 a1_4] 45 (0, 0)) (upB a8.out) hb)
      have n4_ := yaa (yas (by repeat (first | (with_reducible first | exact HB.out | apply yaf | apply yac | apply yae | refine yag ?_ (Aside0.out ‹_›)) | exact HB.out)) hb)
      have n5_ := yaa (hbox)
      have n6_ := yaa ((by rw [hg]; exact (yau (by repeat (first | (with_reducible first | exact HB.out | apply yaf | apply yac | apply yae | refine yag ?_ (Aside0.out ‹_›)) | exact HB.out))) : w.heap.size ≤ b6))
      have n7_ := yaa ((by rw [hg]; exact (yau (by repeat (first | (with_reducible first | exact HB.out | apply yaf | apply yac | apply yae | refine yag ?_ (Aside0.out ‹_›)) | exact HB.out))) : w.heap.size ≤ b6))
      have n8_ := yaa ((by rw [hg]; exact Nat.ne_of_lt (yay (g := b9) (o := .cells #[.int .i64 a0_0, .int .i64 a0_1, .slice A0_2 l0_2.length c0_2] 44 (0, 0)) (upB a9.out)) : b9 ≠ b6))
      have n9_ := yaa ((by rw [hg]; exact Nat.ne_of_gt (yay (g := b9) (o := .cells #[.int .i64 a0_0, .int .i64 a0_1, .slice A0_2 l0_2.length c0_2] 44 (0, 0)) (upB a9.out)) : b6 ≠ b9))
      have g0 := yaa ((by rw [hg]; exact Nat.ne_of_lt (yay (g := b8) (o := .cells #[.int .i64 a1_0, .int .i64 a1_1, .int .i64 a1_2, .int .i64 a1_3, .int .i64 a1_4] 45 (0, 0)) (upB a8.out)) : b8 ≠ b6))
      have h1 := yaa ((by rw [hg]; exact Nat.ne_of_gt (yay (g := b8) (o := .cells #[.int .i64 a1_0, .int .i64 a1_1, .int .i64 a1_2, .int .i64 a1_3, .int .i64 a1_4] 45 (0, 0)) (upB a8.out)) : b6 ≠ b8))
      clear d1 e7 a9 a8 HB
      have d1 := n0_
      have e7 := n1_
      have a9 := n2_
      have a8 := n3_
      have HB := n4_
      have b3 := n5_
      have m1 := n6_
      have m2 := n7_
      have e5 := n8_
      have g3 := n9_
      have d4 := g0
      have g4 := h1
      clear n0_ n1_ n2_ n3_ n4_ n5_ n6_ n7_ n8_ n9_ g0 h1 hb hbox hg
      refine hK.out _ _ ⟨(yab a9.out 0).trans rfl, (yab a9.out 1).trans rfl, (yab a9.out 2).trans rfl, (yab a8.out 0).trans rfl, (yab a8.out 1).trans rfl, (yab a8.out 2).trans rfl, (yab a8.out 3).trans rfl, (yab a8.out 4).trans rfl⟩ (fun hHeld => ?_)
      clear hK K
      refine ybh (a' := ?_) ?_ ?_
      rotate_left
      ·
       show Act.put _ (some 6) _ = _
       simp only [Act.put, List.setIfInBounds_toArray, List.set_cons_zero, List.set_cons_succ, i64_w, i32_w]
       rfl
      exact ybh (by simp only [putAll, Act.put, List.setIfInBounds_toArray, List.set_cons_zero, List.set_cons_succ]) (hCont (.slice F8 k6.length F9, o8, b6) _ ⟨hHeld, (by (with_reducible repeat (first | apply yah | apply yai | apply yak)); exact yal d1.out (fun _ hk => by first | exact hk.2 | exact True.intro)), (by (with_reducible repeat (first | apply yah | apply yai | apply yak)); exact yal e7.out (fun _ hk => by first | exact hk.2 | exact True.intro)), (upB a9.out), (upB a8.out), (upB b3.out), m1.out, m2.out, e5.out, g3.out, d4.out, g4.out, (by repeat (first | (with_reducible first | exact HB.out | apply yaf | apply yac | apply yae | refine yag ?_ (Aside0.out ‹_›)) | exact HB.out))⟩)
     ·
      skip
      refine box_step ?hg (N := 6) ?hd (cs := #[.int .i64 0, .int .i64 0, .slice none 0 0]) (t := 25) ?hr ?_; (case hd => rfl); (case hg => rfl); (case hr => first | (go_simp; done) | (go_simp; rfl))
      intro b6 hg w25 hbox hb
      have n0_ := yaa (yaj (upR d1.out) hb)
      have n1_ := yaa (yad (g := b9) (o := .cells #[.int .i64 a0_0, .int .i64 a0_1, .slice A0_2 l0_2.length c0_2] 44 (0, 0)) (upB a9.out) hb)
      have n2_ := yaa (yad (g := b8) (o := .cells #[.int .i64 a1_0, .int .i64 a1_1, .int .i64 a1_2, .int .i64 a1_3, .int .i64 a1_4] 45 (0, 0)) (upB a8.out) hb)
      have n3_ := yaa (yas (by repeat (first | (with_reducible first | exact HB.out | apply yaf | apply yac | apply yae | refine yag ?_ (Aside0.out ‹_›)) | exact HB.out)) hb)
      have n4_ := yaa (hbox)
      have n5_ := yaa ((by rw [hg]; exact (yau (by repeat (first | (with_reducible first | exact HB.out | apply yaf | apply yac | apply yae | refine yag ?_ (Aside0.out ‹_›)) | exact HB.out))) : w.heap.size ≤ b6))
      have n6_ := yaa ((by rw [hg]; exact (yau (by repeat (first | (with_reducible first | exact HB.out | apply yaf | apply yac | apply yae | refine yag ?_ (Aside0.out ‹_›)) | exact HB.out))) : w.heap.size ≤ b6))
      have n7_ := yaa ((by rw [hg]; exact Nat.ne_of_lt (yay (g := b9) (o := .cells #[.int .i64 a0_0, .int .i64 a0_1, .slice A0_2 l0_2.length c0_2] 44 (0, 0)) (upB a9.out)) : b9 ≠ b6))
      have n8_ := yaa ((by rw [hg]; exact Nat.ne_of_gt (yay (g := b9) (o := .cells #[.int .i64 a0_0, .int .i64 a0_1, .slice A0_2 l0_2.length c0_2] 44 (0, 0)) (upB a9.out)) : b6 ≠ b9))
      have n9_ := yaa ((by rw [hg]; exact Nat.ne_of_lt (yay (g := b8) (o := .cells #[.int .i64 a1_0, .int .i64 a1_1, .int .i64 a1_2, .int .i64 a1_3, .int .i64 a1_4] 45 (0, 0)) (upB a8.out)) : b8 ≠ b6))
      have g0 := yaa ((by rw [hg]; exact Nat.ne_of_gt (yay (g := b8) (o := .cells #[.int .i64 a1_0, .int .i64 a1_1, .int .i64 a1_2, .int .i64 a1_3, .int .i64 a1_4] 45 (0, 0)) (upB a8.out)) : b6 ≠ b8))
      clear d1 a9 a8 HB
      have d1 := n0_
      have a9 := n1_
      have a8 := n2_
      have HB := n3_
      have b3 := n4_
      have m1 := n5_
      have m2 := n6_
      have e5 := n7_
      have g3 := n8_
      have d4 := n9_
      have g4 := g0
      clear n0_ n1_ n2_ n3_ n4_ n5_ n6_ n7_ n8_ n9_ g0 hb hbox hg
      obtain ⟨q7, q8, q9⟩ := Kd.R_slice d1.out
      (first | subst q9 | (injection q9 with f1_ f2_ f3_; have f4_ := f1_.symm; have f5_ := f3_.symm; clear f1_ f2_ f3_; subst f4_; subst f5_))
      refine hK.out _ _ ⟨(yab a9.out 0).trans rfl, (yab a9.out 1).trans rfl, (yab a9.out 2).trans rfl, (yab a8.out 0).trans rfl, (yab a8.out 1).trans rfl, (yab a8.out 2).trans rfl, (yab a8.out 3).trans rfl, (yab a8.out 4).trans rfl⟩ (fun hHeld => ?_)
      clear hK K
      refine ybh (a' := ?_) ?_ ?_
      rotate_left
      ·
       show Act.put _ (some 6) _ = _
       simp only [Act.put, List.setIfInBounds_toArray, List.set_cons_zero, List.set_cons_succ, i64_w, i32_w]
       rfl
      refine one_ (i := 4) (N := some 26) q7_13 rfl rfl (one_of HT_.out (by kernel_rfl)) (by decide) (fun K hK => ?_)
      refine goes_ Try.func12 (by kernel_rfl) rfl #[.agg #[.int .i64 o0, .int .i64 o1, .slice q7 k6.length q8], .agg #[.int .i64 m8, .int .i64 m9, .int .i64 n0, .int .i64 n1, .int .i64 n2]] (by rfl) rfl rfl (by (try simp only [List.map_toArray, List.map_cons, List.map_nil]); first | done | rfl | (simp only [List.length_drop, List.length_take]; rfl)) ?_
      with_reducible refine (spec_OpDo.calls k o0 o1 _ _ k6 m8 m9 n0 n1 n2 d8 e0 d0 h2 _ ?side1 ?side2 A12.out).mono ?_
      (case side1 => repeat (first | exact (yar d1.out).2.2 | (with_reducible refine ybc ?_ _) | (with_reducible refine ybd ?_ _) | (with_reducible refine ybf ?_)))
      (case side2 => exact (yar d1.out).2.1)
      rintro e w27 ⟨o8, rfl, ho0, hb⟩
      refine ⟨_, rfl, ?_⟩
      have n0_ := yaa (yav (upR d1.out) (yaz ho0) hb)
      have n1_ := yaa (ybg (yba ho0 (ybe (upR d1.out))) (yau (by repeat (first | (with_reducible first | exact HB.out | apply yaf | apply yac | apply yae | refine yag ?_ (Aside0.out ‹_›)) | exact HB.out))))
      have n2_ := yaa (yad (g := b9) (o := .cells #[.int .i64 a0_0, .int .i64 a0_1, .slice A0_2 l0_2.length c0_2] 44 (0, 0)) (upB a9.out) hb)
      have n3_ := yaa (yad (g := b8) (o := .cells #[.int .i64 a1_0, .int .i64 a1_1, .int .i64 a1_2, .int .i64 a1_3, .int .i64 a1_4] 45 (0, 0)) (upB a8.out) hb)
      have n4_ := yaa (yad (g := b6) (o := .cells #[.int .i64 0, .int .i64 0, .slice none 0 0] 25 (0, 0)) (upB b3.out) hb)
      have n5_ := yaa (yas (by repeat (first | (with_reducible first | exact HB.out | apply yaf | apply yac | apply yae | refine yag ?_ (Aside0.out ‹_›)) | exact HB.out)) hb)
      clear d1 a9 a8 b3 HB
      have d1 := n0_
      have e7 := n1_
      have a9 := n2_
      have a8 := n3_
      have b3 := n4_
      have HB := n5_
      clear n0_ n1_ n2_ n3_ n4_ n5_
      (try clear hb)
      (try clear hb2)
      (try clear hk)
      (try clear hi)
      (try clear ho0)
      refine hK.out _ _ ⟨(yab a9.out 0).trans rfl, (yab a9.out 1).trans rfl, (yab a9.out 2).trans rfl, (yab a8.out 0).trans rfl, (yab a8.out 1).trans rfl, (yab a8.out 2).trans rfl, (yab a8.out 3).trans rfl, (yab a8.out 4).trans rfl⟩ (fun hHeld => ?_)
      clear hK K
      refine ybh (a' := ?_) ?_ ?_
      rotate_left
      ·
       show Act.put _ (some 26) _ = _
       simp only [Act.put, List.setIfInBounds_toArray, List.set_cons_zero, List.set_cons_succ, i64_w, i32_w]
       rfl
      refine pz_ 5 21 q7_14 HT_ (by kernel_rfl) ?_
      refine pz_ 6 27 q7_15 HT_ (by kernel_rfl) ?_
      refine pz_ 7 28 q7_3 HT_ (by kernel_rfl) ?_
      exact ybh (by simp only [putAll, Act.put, List.setIfInBounds_toArray, List.set_cons_zero, List.set_cons_succ]) (hCont (.slice q7 k6.length q8, o8, b6) _ ⟨hHeld, (by (with_reducible repeat (first | apply yah | apply yai | apply yak)); exact yal d1.out (fun _ hk => by first | exact hk.2 | exact True.intro)), (by (with_reducible repeat (first | apply yah | apply yai | apply yak)); exact yal e7.out (fun _ hk => by first | exact hk.2 | exact True.intro)), (upB a9.out), (upB a8.out), (upB b3.out), m1.out, m2.out, e5.out, g3.out, d4.out, g4.out, (by repeat (first | (with_reducible first | exact HB.out | apply yaf | apply yac | apply yae | refine yag ?_ (Aside0.out ‹_›)) | exact HB.out))⟩)
    ·
     skip
     refine box_step ?hg (N := 6) ?hd (cs := #[.int .i64 0, .int .i64 0, .slice none 0 0]) (t := 25) ?hr ?_; (case hd => rfl); (case hg => rfl); (case hr => first | (go_simp; done) | (go_simp; rfl))
     intro b6 hg w24 hbox hb
     have n0_ := yaa (yaj (upR d1.out) hb)
     have n1_ := yaa (yad (g := b9) (o := .cells #[.int .i64 a0_0, .int .i64 a0_1, .slice A0_2 l0_2.length c0_2] 44 (0, 0)) (upB a9.out) hb)
     have n2_ := yaa (yad (g := b8) (o := .cells #[.int .i64 a1_0, .int .i64 a1_1, .int .i64 a1_2, .int .i64 a1_3, .int .i64 a1_4] 45 (0, 0)) (upB a8.out) hb)
     have n3_ := yaa (yas (by repeat (first | (with_reducible first | exact HB.out | apply yaf | apply yac | apply yae | refine yag ?_ (Aside0.out ‹_›)) | exact HB.out)) hb)
     have n4_ := yaa (hbox)
     have n5_ := yaa ((by rw [hg]; exact (yau (by repeat (first | (with_reducible first | exact HB.out | apply yaf | apply yac | apply yae | refine yag ?_ (Aside0.out ‹_›)) | exact HB.out))) : w.heap.size ≤ b6))
     have n6_ := yaa ((by rw [hg]; exact (yau (by repeat (first | (with_reducible first | exact HB.out | apply yaf | apply yac | apply yae | refine yag ?_ (Aside0.out ‹_›)) | exact HB.out))) : w.heap.size ≤ b6))
     have n7_ := yaa ((by rw [hg]; exact Nat.ne_of_lt (yay (g := b9) (o := .cells #[.int .i64 a0_0, .int .i64 a0_1, .slice A0_2 l0_2.length c0_2] 44 (0, 0)) (upB a9.out)) : b9 ≠ b6))
     have n8_ := yaa ((by rw [hg]; exact Nat.ne_of_gt (yay (g := b9) (o := .cells #[.int .i64 a0_0, .int .i64 a0_1, .slice A0_2 l0_2.length c0_2] 44 (0, 0)) (upB a9.out)) : b6 ≠ b9))
     have n9_ := yaa ((by rw [hg]; exact Nat.ne_of_lt (yay (g := b8) (o := .cells #[.int .i64 a1_0, .int .i64 a1_1, .int .i64 a1_2, .int .i64 a1_3, .int .i64 a1_4] 45 (0, 0)) (upB a8.out)) : b8 ≠ b6))
     have g0 := yaa ((by rw [hg]; exact Nat.ne_of_gt (yay (g := b8) (o := .cells #[.int .i64 a1_0, .int .i64 a1_1, .int .i64 a1_2, .int .i64 a1_3, .int .i64 a1_4] 45 (0, 0)) (upB a8.out)) : b6 ≠ b8))
     clear d1 a9 a8 HB
     have d1 := n0_
     have a9 := n1_
     have a8 := n2_
     have HB := n3_
     have b3 := n4_
     have m1 := n5_
     have m2 := n6_
     have e5 := n7_
     have g3 := n8_
     have d4 := n9_
     have g4 := g0
     clear n0_ n1_ n2_ n3_ n4_ n5_ n6_ n7_ n8_ n9_ g0 hb hbox hg
     refine hK.out _ _ ⟨(yab a9.out 0).trans rfl, (yab a9.out 1).trans rfl, (yab a9.out 2).trans rfl, (yab a8.out 0).trans rfl, (yab a8.out 1).trans rfl, (yab a8.out 2).trans rfl, (yab a8.out 3).trans rfl, (yab a8.out 4).trans rfl⟩ (fun hHeld => ?_)
     clear hK K
     refine ybh (a' := ?_) ?_ ?_
     rotate_left
     ·
      show Act.put _ (some 6) _ = _
      simp only [Act.put, List.setIfInBounds_toArray, List.set_cons_zero, List.set_cons_succ, i64_w, i32_w]
      rfl
     refine one_ (i := 3) (N := some 25) q7_9 rfl rfl (one_of HT_.out (by kernel_rfl)) (by decide) (fun K hK => ?_)
     refine goes_ Try.func22 (by kernel_rfl) rfl #[.agg #[.int .i64 a1_0, .int .i64 a1_1, .int .i64 a1_2, .int .i64 a1_3, .int .i64 a1_4]] (by rfl) rfl rfl (by (try simp only [List.map_toArray, List.map_cons, List.map_nil]); first | done | rfl | (simp only [List.length_drop, List.length_take]; rfl)) ?_
     with_reducible refine (laws_toOpOp.calls a1_0 a1_1 a1_2 a1_3 a1_4 m8 m9 n0 n1 n2 _ A11.out).mono ?_
     rintro e w25 ⟨rfl, hb⟩
     refine ⟨_, rfl, ?_⟩
     have n0_ := yaa (yaj (upR d1.out) hb)
     have n1_ := yaa (yad (g := b9) (o := .cells #[.int .i64 a0_0, .int .i64 a0_1, .slice A0_2 l0_2.length c0_2] 44 (0, 0)) (upB a9.out) hb)
     have n2_ := yaa (yad (g := b8) (o := .cells #[.int .i64 a1_0, .int .i64 a1_1, .int .i64 a1_2, .int .i64 a1_3, .int .i64 a1_4] 45 (0, 0)) (upB a8.out) hb)
     have n3_ := yaa (yad (g := b6) (o := .cells #[.int .i64 0, .int .i64 0, .slice none 0 0] 25 (0, 0)) (upB b3.out) hb)
     have n4_ := yaa (yas (by repeat (first | (with_reducible first | exact HB.out | apply yaf | apply yac | apply yae | refine yag ?_ (Aside0.out ‹_›)) | exact HB.out)) hb)
     clear d1 a9 a8 b3 HB
     have d1 := n0_
     have a9 := n1_
     have a8 := n2_
     have b3 := n3_
     have HB := n4_
     clear n0_ n1_ n2_ n3_ n4_
     (try clear hb)
     (try clear hb2)
     (try clear hk)
     (try clear hi)
     obtain ⟨q7, q8, q9⟩ := Kd.R_slice d1.out
     (first | subst q9 | (injection q9 with f1_ f2_ f3_; have f4_ := f1_.symm; have f5_ := f3_.symm; clear f1_ f2_ f3_; subst f4_; subst f5_))
     refine hK.out _ _ ⟨(yab a9.out 0).trans rfl, (yab a9.out 1).trans rfl, (yab a9.out 2).trans rfl, (yab a8.out 0).trans rfl, (yab a8.out 1).trans rfl, (yab a8.out 2).trans rfl, (yab a8.out 3).trans rfl, (yab a8.out 4).trans rfl⟩ (fun hHeld => ?_)
     clear hK K
     refine ybh (a' := ?_) ?_ ?_
     rotate_left
     ·
      show Act.put _ (some 25) _ = _
      simp only [Act.put, List.setIfInBounds_toArray, List.set_cons_zero, List.set_cons_succ, i64_w, i32_w]
      rfl
     refine one_ (i := 4) (N := some 26) q7_13 rfl rfl (one_of HT_.out (by kernel_rfl)) (by decide) (fun K hK => ?_)
     refine goes_ Try.func12 (by kernel_rfl) rfl #[.agg #[.int .i64 o0, .int .i64 o1, .slice q7 k6.length q8], .agg #[.int .i64 m8, .int .i64 m9, .int .i64 n0, .int .i64 n1, .int .i64 n2]] (by rfl) rfl rfl (by (try simp only [List.map_toArray, List.map_cons, List.map_nil]); first | done | rfl | (simp only [List.length_drop, List.length_take]; rfl)) ?_
     with_reducible refine (spec_OpDo.calls k o0 o1 _ _ k6 m8 m9 n0 n1 n2 d8 e0 d0 h2 _ ?side1 ?side2 A12.out).mono ?_
     (case side1 => repeat (first | exact (yar d1.out).2.2 | (with_reducible refine ybc ?_ _) | (with_reducible refine ybd ?_ _) | (with_reducible refine ybf ?_)))
     (case side2 => exact (yar d1.out).2.1)
     rintro e w27 ⟨o8, rfl, ho0, hb⟩
     refine ⟨_, rfl, ?_⟩
     have n0_ := yaa (yav (upR d1.out) (yaz ho0) hb)
     have n1_ := yaa (ybg (yba ho0 (ybe (upR d1.out))) (yau (by repeat (first | (with_reducible first | exact HB.out | apply yaf | apply yac | apply yae | refine yag ?_ (Aside0.out ‹_›)) | exact HB.out))))
     have n2_ := yaa (yad (g := b9) (o := .cells #[.int .i64 a0_0, .int .i64 a0_1, .slice A0_2 l0_2.length c0_2] 44 (0, 0)) (upB a9.out) hb)
     have n3_ := yaa (yad (g := b8) (o := .cells #[.int .i64 a1_0, .int .i64 a1_1, .int .i64 a1_2, .int .i64 a1_3, .int .i64 a1_4] 45 (0, 0)) (upB a8.out) hb)
     have n4_ := yaa (yad (g := b6) (o := .cells #[.int .i64 0, .int .i64 0, .slice none 0 0] 25 (0, 0)) (upB b3.out) hb)
     have n5_ := yaa (yas (by repeat (first | (with_reducible first | exact HB.out | apply yaf | apply yac | apply yae | refine yag ?_ (Aside0.out ‹_›)) | exact HB.out)) hb)
     clear d1 a9 a8 b3 HB
     have d1 := n0_
     have e7 := n1_
     have a9 := n2_
     have a8 := n3_
     have b3 := n4_
     have HB := n5_
     clear n0_ n1_ n2_ n3_ n4_ n5_
     (try clear hb)
     (try clear hb2)
     (try clear hk)
     (try clear hi)
     (try clear ho0)
     refine hK.out _ _ ⟨(yab a9.out 0).trans rfl, (yab a9.out 1).trans rfl, (yab a9.out 2).trans rfl, (yab a8.out 0).trans rfl, (yab a8.out 1).trans rfl, (yab a8.out 2).trans rfl, (yab a8.out 3).trans rfl, (yab a8.out 4).trans rfl⟩ (fun hHeld => ?_)
     clear hK K
     refine ybh (a' := ?_) ?_ ?_
     rotate_left
     ·
      show Act.put _ (some 26) _ = _
      simp only [Act.put, List.setIfInBounds_toArray, List.set_cons_zero, List.set_cons_succ, i64_w, i32_w]
      rfl
     refine pz_ 5 21 q7_14 HT_ (by kernel_rfl) ?_
     refine pz_ 6 27 q7_15 HT_ (by kernel_rfl) ?_
     refine pz_ 7 28 q7_3 HT_ (by kernel_rfl) ?_
     exact ybh (by simp only [putAll, Act.put, List.setIfInBounds_toArray, List.set_cons_zero, List.set_cons_succ]) (hCont (.slice q7 k6.length q8, o8, b6) _ ⟨hHeld, (by (with_reducible repeat (first | apply yah | apply yai | apply yak)); exact yal d1.out (fun _ hk => by first | exact hk.2 | exact True.intro)), (by (with_reducible repeat (first | apply yah | apply yai | apply yak)); exact yal e7.out (fun _ hk => by first | exact hk.2 | exact True.intro)), (upB a9.out), (upB a8.out), (upB b3.out), m1.out, m2.out, e5.out, g3.out, d4.out, g4.out, (by repeat (first | (with_reducible first | exact HB.out | apply yaf | apply yac | apply yae | refine yag ?_ (Aside0.out ‹_›)) | exact HB.out))⟩)
   ·
    skip
    refine box_step ?hg (N := 6) ?hd (cs := #[.int .i64 0, .int .i64 0, .slice none 0 0]) (t := 25) ?hr ?_; (case hd => rfl); (case hg => rfl); (case hr => first | (go_simp; done) | (go_simp; rfl))
    intro b6 hg w23 hbox hb
    have n0_ := yaa (yad (g := b9) (o := .cells #[.int .i64 a0_0, .int .i64 a0_1, .slice A0_2 l0_2.length c0_2] 44 (0, 0)) (upB a9.out) hb)
    have n1_ := yaa (yad (g := b8) (o := .cells #[.int .i64 a1_0, .int .i64 a1_1, .int .i64 a1_2, .int .i64 a1_3, .int .i64 a1_4] 45 (0, 0)) (upB a8.out) hb)
    have n2_ := yaa (yas (by repeat (first | (with_reducible first | exact HB.out | apply yaf | apply yac | apply yae | refine yag ?_ (Aside0.out ‹_›)) | exact HB.out)) hb)
    have n3_ := yaa (hbox)
    have n4_ := yaa ((by rw [hg]; exact (yau (by repeat (first | (with_reducible first | exact HB.out | apply yaf | apply yac | apply yae | refine yag ?_ (Aside0.out ‹_›)) | exact HB.out))) : w.heap.size ≤ b6))
    have n5_ := yaa ((by rw [hg]; exact (yau (by repeat (first | (with_reducible first | exact HB.out | apply yaf | apply yac | apply yae | refine yag ?_ (Aside0.out ‹_›)) | exact HB.out))) : w.heap.size ≤ b6))
    have n6_ := yaa ((by rw [hg]; exact Nat.ne_of_lt (yay (g := b9) (o := .cells #[.int .i64 a0_0, .int .i64 a0_1, .slice A0_2 l0_2.length c0_2] 44 (0, 0)) (upB a9.out)) : b9 ≠ b6))
    have n7_ := yaa ((by rw [hg]; exact Nat.ne_of_gt (yay (g := b9) (o := .cells #[.int .i64 a0_0, .int .i64 a0_1, .slice A0_2 l0_2.length c0_2] 44 (0, 0)) (upB a9.out)) : b6 ≠ b9))
    have n8_ := yaa ((by rw [hg]; exact Nat.ne_of_lt (yay (g := b8) (o := .cells #[.int .i64 a1_0, .int .i64 a1_1, .int .i64 a1_2, .int .i64 a1_3, .int .i64 a1_4] 45 (0, 0)) (upB a8.out)) : b8 ≠ b6))
    have n9_ := yaa ((by rw [hg]; exact Nat.ne_of_gt (yay (g := b8) (o := .cells #[.int .i64 a1_0, .int .i64 a1_1, .int .i64 a1_2, .int .i64 a1_3, .int .i64 a1_4] 45 (0, 0)) (upB a8.out)) : b6 ≠ b8))
    clear a9 a8 HB
    have a9 := n0_
    have a8 := n1_
    have HB := n2_
    have b3 := n3_
    have m1 := n4_
    have m2 := n5_
    have e5 := n6_
    have g3 := n7_
    have d4 := n8_
    have g4 := n9_
    clear n0_ n1_ n2_ n3_ n4_ n5_ n6_ n7_ n8_ n9_ hb hbox hg
    refine hK.out _ _ ⟨(yab a9.out 0).trans rfl, (yab a9.out 1).trans rfl, (yab a9.out 2).trans rfl, (yab a8.out 0).trans rfl, (yab a8.out 1).trans rfl, (yab a8.out 2).trans rfl, (yab a8.out 3).trans rfl, (yab a8.out 4).trans rfl⟩ (fun hHeld => ?_)
    clear hK K
    refine ybh (a' := ?_) ?_ ?_
    rotate_left
    ·
     show Act.put _ (some 6) _ = _
     simp only [Act.put, List.setIfInBounds_toArray, List.set_cons_zero, List.set_cons_succ, i64_w, i32_w]
     rfl
    refine one_ (i := 1) (N := some 23) q7_7 rfl rfl (one_of HT_.out (by kernel_rfl)) (by decide) (fun K hK => ?_)
    refine goes_ Try.func21 (by kernel_rfl) rfl #[.agg #[.int .i64 a0_0, .int .i64 a0_1, .slice A0_2 l0_2.length c0_2]] (by rfl) rfl rfl (by (try simp only [List.map_toArray, List.map_cons, List.map_nil]); first | done | rfl | (simp only [List.length_drop, List.length_take]; rfl)) ?_
    with_reducible refine (laws_toRasRaster.calls k a0_0 a0_1 _ _ l0_2 o0 o1 k6 _ ?side1 ?side2 A10.out).mono ?_
    (case side1 => repeat (first | exact (Kd.C_below HR0_2.out HB.out) | (with_reducible refine ybc ?_ _) | (with_reducible refine ybd ?_ _) | (with_reducible refine ybf ?_)))
    (case side2 => exact HC0_2.out)
    rintro e w24 ⟨k7, rfl, ho0, hb⟩
    refine ⟨_, rfl, ?_⟩
    have n0_ := yaa (ybg ho0 (yau (by repeat (first | (with_reducible first | exact HB.out | apply yaf | apply yac | apply yae | refine yag ?_ (Aside0.out ‹_›)) | exact HB.out))))
    have n1_ := yaa (yad (g := b9) (o := .cells #[.int .i64 a0_0, .int .i64 a0_1, .slice A0_2 l0_2.length c0_2] 44 (0, 0)) (upB a9.out) hb)
    have n2_ := yaa (yad (g := b8) (o := .cells #[.int .i64 a1_0, .int .i64 a1_1, .int .i64 a1_2, .int .i64 a1_3, .int .i64 a1_4] 45 (0, 0)) (upB a8.out) hb)
    have n3_ := yaa (yad (g := b6) (o := .cells #[.int .i64 0, .int .i64 0, .slice none 0 0] 25 (0, 0)) (upB b3.out) hb)
    have n4_ := yaa (yas (by repeat (first | (with_reducible first | exact HB.out | apply yaf | apply yac | apply yae | refine yag ?_ (Aside0.out ‹_›)) | exact HB.out)) hb)
    clear a9 a8 b3 HB
    have d1 := n0_
    have a9 := n1_
    have a8 := n2_
    have b3 := n3_
    have HB := n4_
    clear n0_ n1_ n2_ n3_ n4_
    (try clear hb)
    (try clear hb2)
    (try clear hk)
    (try clear hi)
    (try clear ho0)
    refine hK.out _ _ ⟨(yab a9.out 0).trans rfl, (yab a9.out 1).trans rfl, (yab a9.out 2).trans rfl, (yab a8.out 0).trans rfl, (yab a8.out 1).trans rfl, (yab a8.out 2).trans rfl, (yab a8.out 3).trans rfl, (yab a8.out 4).trans rfl⟩ (fun hHeld => ?_)
    clear hK K
    refine ybh (a' := ?_) ?_ ?_
    rotate_left
    ·
     show Act.put _ (some 23) _ = _
     simp only [Act.put, List.setIfInBounds_toArray, List.set_cons_zero, List.set_cons_succ, i64_w, i32_w]
     rfl
    refine one_ (i := 3) (N := some 25) q7_9 rfl rfl (one_of HT_.out (by kernel_rfl)) (by decide) (fun K hK => ?_)
    refine goes_ Try.func22 (by kernel_rfl) rfl #[.agg #[.int .i64 a1_0, .int .i64 a1_1, .int .i64 a1_2, .int .i64 a1_3, .int .i64 a1_4]] (by rfl) rfl rfl (by (try simp only [List.map_toArray, List.map_cons, List.map_nil]); first | done | rfl | (simp only [List.length_drop, List.length_take]; rfl)) ?_
    with_reducible refine (laws_toOpOp.calls a1_0 a1_1 a1_2 a1_3 a1_4 m8 m9 n0 n1 n2 _ A11.out).mono ?_
    rintro e w25 ⟨rfl, hb⟩
    refine ⟨_, rfl, ?_⟩
    have n0_ := yaa (yaj (upR d1.out) hb)
    have n1_ := yaa (yad (g := b9) (o := .cells #[.int .i64 a0_0, .int .i64 a0_1, .slice A0_2 l0_2.length c0_2] 44 (0, 0)) (upB a9.out) hb)
    have n2_ := yaa (yad (g := b8) (o := .cells #[.int .i64 a1_0, .int .i64 a1_1, .int .i64 a1_2, .int .i64 a1_3, .int .i64 a1_4] 45 (0, 0)) (upB a8.out) hb)
    have n3_ := yaa (yad (g := b6) (o := .cells #[.int .i64 0, .int .i64 0, .slice none 0 0] 25 (0, 0)) (upB b3.out) hb)
    have n4_ := yaa (yas (by repeat (first | (with_reducible first | exact HB.out | apply yaf | apply yac | apply yae | refine yag ?_ (Aside0.out ‹_›)) | exact HB.out)) hb)
    clear d1 a9 a8 b3 HB
    have d1 := n0_
    have a9 := n1_
    have a8 := n2_
    have b3 := n3_
    have HB := n4_
    clear n0_ n1_ n2_ n3_ n4_
    (try clear hb)
    (try clear hb2)
    (try clear hk)
    (try clear hi)
    obtain ⟨q7, q8, q9⟩ := Kd.R_slice d1.out
    (first | subst q9 | (injection q9 with f1_ f2_ f3_; have f4_ := f1_.symm; have f5_ := f3_.symm; clear f1_ f2_ f3_; subst f4_; subst f5_))
    refine hK.out _ _ ⟨(yab a9.out 0).trans rfl, (yab a9.out 1).trans rfl, (yab a9.out 2).trans rfl, (yab a8.out 0).trans rfl, (yab a8.out 1).trans rfl, (yab a8.out 2).trans rfl, (yab a8.out 3).trans rfl, (yab a8.out 4).trans rfl⟩ (fun hHeld => ?_)
    clear hK K
    refine ybh (a' := ?_) ?_ ?_
    rotate_left
    ·
     show Act.put _ (some 25) _ = _
     simp only [Act.put, List.setIfInBounds_toArray, List.set_cons_zero, List.set_cons_succ, i64_w, i32_w]
     rfl
    refine one_ (i := 4) (N := some 26) q7_13 rfl rfl (one_of HT_.out (by kernel_rfl)) (by decide) (fun K hK => ?_)
    refine goes_ Try.func12 (by kernel_rfl) rfl #[.agg #[.int .i64 o0, .int .i64 o1, .slice q7 k6.length q8], .agg #[.int .i64 m8, .int .i64 m9, .int .i64 n0, .int .i64 n1, .int .i64 n2]] (by rfl) rfl rfl (by (try simp only [List.map_toArray, List.map_cons, List.map_nil]); first | done | rfl | (simp only [List.length_drop, List.length_take]; rfl)) ?_
    with_reducible refine (spec_OpDo.calls k o0 o1 _ _ k6 m8 m9 n0 n1 n2 d8 e0 d0 h2 _ ?side1 ?side2 A12.out).mono ?_
    (case side1 => repeat (first | exact (yar d1.out).2.2 | (with_reducible refine ybc ?_ _) | (with_reducible refine ybd ?_ _) | (with_reducible refine ybf ?_)))
    (case side2 => exact (yar d1.out).2.1)
    rintro e w27 ⟨o8, rfl, ho0, hb⟩
    refine ⟨_, rfl, ?_⟩
    have n0_ := yaa (yav (upR d1.out) (yaz ho0) hb)
    have n1_ := yaa (ybg (yba ho0 (ybe (upR d1.out))) (yau (by repeat (first | (with_reducible first | exact HB.out | apply yaf | apply yac | apply yae | refine yag ?_ (Aside0.out ‹_›)) | exact HB.out))))
    have n2_ := yaa (yad (g := b9) (o := .cells #[.int .i64 a0_0, .int .i64 a0_1, .slice A0_2 l0_2.length c0_2] 44 (0, 0)) (upB a9.out) hb)
    have n3_ := yaa (yad (g := b8) (o := .cells #[.int .i64 a1_0, .int .i64 a1_1, .int .i64 a1_2, .int .i64 a1_3, .int .i64 a1_4] 45 (0, 0)) (upB a8.out) hb)
    have n4_ := yaa (yad (g := b6) (o := .cells #[.int .i64 0, .int .i64 0, .slice none 0 0] 25 (0, 0)) (upB b3.out) hb)
    have n5_ := yaa (yas (by repeat (first | (with_reducible first | exact HB.out | apply yaf | apply yac | apply yae | refine yag ?_ (Aside0.out ‹_›)) | exact HB.out)) hb)
    clear d1 a9 a8 b3 HB
    have d1 := n0_
    have e7 := n1_
    have a9 := n2_
    have a8 := n3_
    have b3 := n4_
    have HB := n5_
    clear n0_ n1_ n2_ n3_ n4_ n5_
    (try clear hb)
    (try clear hb2)
    (try clear hk)
    (try clear hi)
    (try clear ho0)
    refine hK.out _ _ ⟨(yab a9.out 0).trans rfl, (yab a9.out 1).trans rfl, (yab a9.out 2).trans rfl, (yab a8.out 0).trans rfl, (yab a8.out 1).trans rfl, (yab a8.out 2).trans rfl, (yab a8.out 3).trans rfl, (yab a8.out 4).trans rfl⟩ (fun hHeld => ?_)
    clear hK K
    refine ybh (a' := ?_) ?_ ?_
    rotate_left
    ·
     show Act.put _ (some 26) _ = _
     simp only [Act.put, List.setIfInBounds_toArray, List.set_cons_zero, List.set_cons_succ, i64_w, i32_w]
     rfl
    refine pz_ 5 21 q7_14 HT_ (by kernel_rfl) ?_
    refine pz_ 6 27 q7_15 HT_ (by kernel_rfl) ?_
    refine pz_ 7 28 q7_3 HT_ (by kernel_rfl) ?_
    exact ybh (by simp only [putAll, Act.put, List.setIfInBounds_toArray, List.set_cons_zero, List.set_cons_succ]) (hCont (.slice q7 k6.length q8, o8, b6) _ ⟨hHeld, (by (with_reducible repeat (first | apply yah | apply yai | apply yak)); exact yal d1.out (fun _ hk => by first | exact hk.2 | exact True.intro)), (by (with_reducible repeat (first | apply yah | apply yai | apply yak)); exact yal e7.out (fun _ hk => by first | exact hk.2 | exact True.intro)), (upB a9.out), (upB a8.out), (upB b3.out), m1.out, m2.out, e5.out, g3.out, d4.out, g4.out, (by repeat (first | (with_reducible first | exact HB.out | apply yaf | apply yac | apply yae | refine yag ?_ (Aside0.out ‹_›)) | exact HB.out))⟩)
  rintro ⟨k7, o8, b6⟩ w28 ⟨hS_, h0_, h1_, h2_, h3_, h4_, h5_, h6_, h7_, h8_, h9_, h10_, h11_⟩
  have n0_ : yaw (Kd.R k36 36 w28 w.heap.size (fun k_ => some k_ ≠ (o8 : Value).ownBlock) k7 k6) := ⟨h0_⟩
  have n1_ : yaw (Kd.R k36 36 w28 w.heap.size (fun k_ => some k_ ≠ (k7 : Value).ownBlock) o8 d0) := ⟨h1_⟩
  have n2_ : yaw (w28.heap[b9]? = some (.cells #[.int .i64 a0_0, .int .i64 a0_1, .slice A0_2 l0_2.length c0_2] 44 (0, 0))) := ⟨h2_⟩
  have n3_ : yaw (w28.heap[b8]? = some (.cells #[.int .i64 a1_0, .int .i64 a1_1, .int .i64 a1_2, .int .i64 a1_3, .int .i64 a1_4] 45 (0, 0))) := ⟨h3_⟩
  have n4_ : yaw (w28.heap[b6]? = some (.cells #[.int .i64 0, .int .i64 0, .slice none 0 0] 25 (0, 0))) := ⟨h4_⟩
  have n5_ : yaw (w.heap.size ≤ b6) := ⟨h5_⟩
  have n6_ : yaw (w.heap.size ≤ b6) := ⟨h6_⟩
  have n7_ : yaw (b9 ≠ b6) := ⟨h7_⟩
  have n8_ : yaw (b6 ≠ b9) := ⟨h8_⟩
  have n9_ : yaw (b8 ≠ b6) := ⟨h9_⟩
  have g0 : yaw (b6 ≠ b8) := ⟨h10_⟩
  have h1 : yaw (Below w.heap.size w w28) := ⟨h11_⟩
  clear a9 a8 HB h0_ h1_ h2_ h3_ h4_ h5_ h6_ h7_ h8_ h9_ h10_ h11_
  have d1 := n0_
  have e7 := n1_
  have a9 := n2_
  have a8 := n3_
  have b3 := n4_
  have m1 := n5_
  have m2 := n6_
  have e5 := n7_
  have g3 := n8_
  have d4 := n9_
  have g4 := g0
  have HB := h1
  clear n0_ n1_ n2_ n3_ n4_ n5_ n6_ n7_ n8_ n9_ g0 h1
  have hHeld : w28.cell? ⟨b9, 0, none⟩ = some (.int .i64 a0_0) ∧ w28.cell? ⟨b9, 1, none⟩ = some (.int .i64 a0_1) ∧ w28.cell? ⟨b9, 2, none⟩ = some (.slice A0_2 l0_2.length c0_2) ∧ w28.cell? ⟨b8, 0, none⟩ = some (.int .i64 a1_0) ∧ w28.cell? ⟨b8, 1, none⟩ = some (.int .i64 a1_1) ∧ w28.cell? ⟨b8, 2, none⟩ = some (.int .i64 a1_2) ∧ w28.cell? ⟨b8, 3, none⟩ = some (.int .i64 a1_3) ∧ w28.cell? ⟨b8, 4, none⟩ = some (.int .i64 a1_4) := hS_
  obtain ⟨e4, e2, G1⟩ := Kd.R_slice e7.out
  (first | subst G1 | (injection G1 with f1_ f2_ f3_; have f4_ := f1_.symm; have f5_ := f3_.symm; clear f1_ f2_ f3_; subst f4_; subst f5_))
  refine ybh (a' := ?_) ?_ ?_
  rotate_left
  ·
   simp only [putAll, Act.put, List.setIfInBounds_toArray, List.set_cons_zero, List.set_cons_succ]
   rfl
  refine one_ (i := 9) (N := none) q7_16 rfl rfl (one_of HT_.out (by kernel_rfl)) (by decide) (fun K hK => ?_)
  have cU : w28.cell? ⟨b6, 0, none⟩ = some (.int .i64 0) := (yab b3.out 0).trans rfl
  have aD := yaq b3.out 0
  have M6 := e5.out
  have M7 := d4.out
  have M8 := g3.out
  have M9 := g4.out
  have cV : w28.cell? ⟨b6, 1, none⟩ = some (.int .i64 0) := (yab b3.out 1).trans rfl
  have aE := yaq b3.out 1
  have N0 := e5.out
  have N1 := d4.out
  have N2 := g3.out
  have N3 := g4.out
  have cW : w28.cell? ⟨b6, 2, none⟩ = some (.slice none 0 0) := (yab b3.out 2).trans rfl
  have aF := yaq b3.out 2
  have N4 := e5.out
  have N5 := d4.out
  have N6 := g3.out
  have N7 := g4.out
  refine skip_ (w1 := ?_) (by rfl) rfl ?_ ?_
  rotate_left
  ·
   go_simp
   rfl
  refine hK.out _ _ ⟨((yat (p := ⟨b6, _, none⟩) e5.out _).trans (((yat (p := ⟨b6, _, none⟩) e5.out _).trans (((yat (p := ⟨b6, _, none⟩) e5.out _).trans (hHeld.1)))))), ((yat (p := ⟨b6, _, none⟩) e5.out _).trans (((yat (p := ⟨b6, _, none⟩) e5.out _).trans (((yat (p := ⟨b6, _, none⟩) e5.out _).trans (hHeld.2.1)))))), ((yat (p := ⟨b6, _, none⟩) e5.out _).trans (((yat (p := ⟨b6, _, none⟩) e5.out _).trans (((yat (p := ⟨b6, _, none⟩) e5.out _).trans (hHeld.2.2.1)))))), ((yat (p := ⟨b6, _, none⟩) d4.out _).trans (((yat (p := ⟨b6, _, none⟩) d4.out _).trans (((yat (p := ⟨b6, _, none⟩) d4.out _).trans (hHeld.2.2.2.1)))))), ((yat (p := ⟨b6, _, none⟩) d4.out _).trans (((yat (p := ⟨b6, _, none⟩) d4.out _).trans (((yat (p := ⟨b6, _, none⟩) d4.out _).trans (hHeld.2.2.2.2.1)))))), ((yat (p := ⟨b6, _, none⟩) d4.out _).trans (((yat (p := ⟨b6, _, none⟩) d4.out _).trans (((yat (p := ⟨b6, _, none⟩) d4.out _).trans (hHeld.2.2.2.2.2.1)))))), ((yat (p := ⟨b6, _, none⟩) d4.out _).trans (((yat (p := ⟨b6, _, none⟩) d4.out _).trans (((yat (p := ⟨b6, _, none⟩) d4.out _).trans (hHeld.2.2.2.2.2.2.1)))))), ((yat (p := ⟨b6, _, none⟩) d4.out _).trans (((yat (p := ⟨b6, _, none⟩) d4.out _).trans (((yat (p := ⟨b6, _, none⟩) d4.out _).trans (hHeld.2.2.2.2.2.2.2))))))⟩ (fun hHeld => ?_)
  clear hK K
  refine pz_ 10 7 q7_17 HT_ (by kernel_rfl) ?_
  refine done_ (done_of HT_.out (by kernel_rfl)) ?_
  have aG := e5.out
  have aH := g3.out
  have N8 : w28.cell? ⟨b9, 0, none⟩ = some (.int .i64 a0_0) := (yab a9.out 0).trans rfl
  have N9 : w28.cell? ⟨b9, 1, none⟩ = some (.int .i64 a0_1) := (yab a9.out 1).trans rfl
  have O0 : w28.cell? ⟨b9, 2, none⟩ = some (.slice A0_2 l0_2.length c0_2) := (yab a9.out 2).trans rfl
  have O1 := yaq a9.out 0
  have O2 := yaq a9.out 1
  have O3 := yaq a9.out 2
  try go_wp2_with (first | ((with_reducible refine gate_callee (f := 21) rfl ?_); refine goesL_ (some 30) rfl rfl Try.func21 (by kernel_rfl) rfl #[.agg #[.int .i64 a0_0, .int .i64 a0_1, .slice A0_2 l0_2.length c0_2]] rfl (by (try simp only [List.map_toArray, List.map_cons, List.map_nil]); first | done | rfl | (simp only [List.length_drop, List.length_take]; rfl)) ?_; (with_reducible refine (laws_toRasRaster.calls k a0_0 a0_1 _ _ l0_2 e9 f1 f0 _ ?side1 ?side2 A13.out).mono ?_); (case side1 => exact Kd.C_below HR0_2.out (by repeat (first | (with_reducible first | exact HB.out | apply yaf | apply yac | apply yae | refine yag ?_ (Aside0.out ‹_›)) | exact HB.out))); (case side2 => exact HC0_2.out); rintro e w35 ⟨cX, rfl, ho0, hb⟩; refine ⟨_, rfl, ?_⟩; have n0_ := yaa (yav (by (with_reducible repeat (first | apply yah | apply yai | apply yak)); exact (yal (yap (p := ⟨b6, 2, none⟩) (yap (p := ⟨b6, 1, none⟩) (yap (p := ⟨b6, 0, none⟩) (ybb d1.out b3.out (by decide)) (fun _ hk => hk.2) (.int .i64 d8)) (fun _ hk => hk.2) (.int .i64 e0)) (fun _ hk => hk.2) (.slice e4 d0.length e2)) (fun _ h_ => h_.1))) (yaz ho0) hb); have n1_ := yaa (yav (by (with_reducible repeat (first | apply yah | apply yai | apply yak)); exact (yal (yap (p := ⟨b6, 2, none⟩) (yap (p := ⟨b6, 1, none⟩) (yap (p := ⟨b6, 0, none⟩) (ybb e7.out b3.out (by decide)) (fun _ hk => hk.2) (.int .i64 d8)) (fun _ hk => hk.2) (.int .i64 e0)) (fun _ hk => hk.2) (.slice e4 d0.length e2)) (fun _ h_ => h_.1))) (yaz ho0) hb); have n2_ := yaa (ybg (yba (yba ho0 (ybe (by (with_reducible repeat (first | apply yah | apply yai | apply yak)); exact (yal (yap (p := ⟨b6, 2, none⟩) (yap (p := ⟨b6, 1, none⟩) (yap (p := ⟨b6, 0, none⟩) (ybb d1.out b3.out (by decide)) (fun _ hk => hk.2) (.int .i64 d8)) (fun _ hk => hk.2) (.int .i64 e0)) (fun _ hk => hk.2) (.slice e4 d0.length e2)) (fun _ h_ => h_.1))))) (ybe (by (with_reducible repeat (first | apply yah | apply yai | apply yak)); exact (yal (yap (p := ⟨b6, 2, none⟩) (yap (p := ⟨b6, 1, none⟩) (yap (p := ⟨b6, 0, none⟩) (ybb e7.out b3.out (by decide)) (fun _ hk => hk.2) (.int .i64 d8)) (fun _ hk => hk.2) (.int .i64 e0)) (fun _ hk => hk.2) (.slice e4 d0.length e2)) (fun _ h_ => h_.1))))) (yau (by repeat (first | (with_reducible first | exact HB.out | apply yaf | apply yac | apply yae | refine yag ?_ (Aside0.out ‹_›)) | exact HB.out)))); have n3_ := yaa (yad (g := b9) (o := .cells #[.int .i64 a0_0, .int .i64 a0_1, .slice A0_2 l0_2.length c0_2] 44 (0, 0)) (by (with_reducible repeat (first | refine yam ?_ _ | refine yao ?_ | refine yan ?_ _)); refine yax ?_ e5.out _; (with_reducible repeat (first | refine yam ?_ _ | refine yao ?_ | refine yan ?_ _)); refine yax ?_ e5.out _; (with_reducible repeat (first | refine yam ?_ _ | refine yao ?_ | refine yan ?_ _)); refine yax ?_ e5.out _; exact upB a9.out) hb); have n4_ := yaa (yad (g := b8) (o := .cells #[.int .i64 a1_0, .int .i64 a1_1, .int .i64 a1_2, .int .i64 a1_3, .int .i64 a1_4] 45 (0, 0)) (by (with_reducible repeat (first | refine yam ?_ _ | refine yao ?_ | refine yan ?_ _)); refine yax ?_ d4.out _; (with_reducible repeat (first | refine yam ?_ _ | refine yao ?_ | refine yan ?_ _)); refine yax ?_ d4.out _; (with_reducible repeat (first | refine yam ?_ _ | refine yao ?_ | refine yan ?_ _)); refine yax ?_ d4.out _; exact upB a8.out) hb); have n5_ := yaa (yad (g := b6) (o := .cells #[.int .i64 d8, .int .i64 e0, .slice e4 d0.length e2] 25 (0, 0)) (by (with_reducible repeat (first | refine yam ?_ _ | refine yao ?_ | refine yan ?_ _)); refine blk_put (cs := #[.int .i64 d8, .int .i64 e0, .slice none 0 0]) ?_ 2 _ rfl; (with_reducible repeat (first | refine yam ?_ _ | refine yao ?_ | refine yan ?_ _)); refine blk_put (cs := #[.int .i64 d8, .int .i64 0, .slice none 0 0]) ?_ 1 _ rfl; (with_reducible repeat (first | refine yam ?_ _ | refine yao ?_ | refine yan ?_ _)); refine blk_put (cs := #[.int .i64 0, .int .i64 0, .slice none 0 0]) ?_ 0 _ rfl; exact upB b3.out) hb); have n6_ := yaa (yas (by repeat (first | (with_reducible first | exact HB.out | apply yaf | apply yac | apply yae | refine yag ?_ (Aside0.out ‹_›)) | exact HB.out)) hb); clear d1; clear e7; clear a9; clear a8; clear b3; clear HB; have d1 := n0_; have e7 := n1_; have f5 := n2_; have a9 := n3_; have a8 := n4_; have b3 := n5_; have HB := n6_; clear n0_ n1_ n2_ n3_ n4_ n5_ n6_; (try clear hb); (try clear hb2); (try clear hk); (try clear hi); (try clear ho0)) | ((with_reducible refine gate_dst (N := 8) rfl ?_); refine box_event ?hg (N := 8) ?hd (cs := #[.int .i64 0, .int .i64 0, .slice none 0 0]) (t := 25) ?hr ?_; (case hd => rfl); (case hg => rfl); (case hr => first | (go_simp; done) | (go_simp; rfl)); intro c3 hg w36 hbox hb; have n0_ := yaa (yaj (upR d1.out) hb); have n1_ := yaa (yaj (upR e7.out) hb); have n2_ := yaa (yaj (upR f5.out) hb); have n3_ := yaa (yad (g := b9) (o := .cells #[.int .i64 a0_0, .int .i64 a0_1, .slice A0_2 l0_2.length c0_2] 44 (0, 0)) (upB a9.out) hb); have n4_ := yaa (yad (g := b8) (o := .cells #[.int .i64 a1_0, .int .i64 a1_1, .int .i64 a1_2, .int .i64 a1_3, .int .i64 a1_4] 45 (0, 0)) (upB a8.out) hb); have n5_ := yaa (yad (g := b6) (o := .cells #[.int .i64 d8, .int .i64 e0, .slice e4 d0.length e2] 25 (0, 0)) (upB b3.out) hb); have n6_ := yaa (yas (by repeat (first | (with_reducible first | exact HB.out | apply yaf | apply yac | apply yae | refine yag ?_ (Aside0.out ‹_›)) | exact HB.out)) hb); have n7_ := yaa (hbox); have n8_ := yaa ((by rw [hg]; exact (yau (by repeat (first | (with_reducible first | exact HB.out | apply yaf | apply yac | apply yae | refine yag ?_ (Aside0.out ‹_›)) | exact HB.out))) : w.heap.size ≤ c3)); have n9_ := yaa ((by rw [hg]; exact (yau (by repeat (first | (with_reducible first | exact HB.out | apply yaf | apply yac | apply yae | refine yag ?_ (Aside0.out ‹_›)) | exact HB.out))) : w.heap.size ≤ c3)); have g0 := yaa ((by rw [hg]; exact Nat.ne_of_lt (yay (g := b9) (o := .cells #[.int .i64 a0_0, .int .i64 a0_1, .slice A0_2 l0_2.length c0_2] 44 (0, 0)) (upB a9.out)) : b9 ≠ c3)); have h1 := yaa ((by rw [hg]; exact Nat.ne_of_gt (yay (g := b9) (o := .cells #[.int .i64 a0_0, .int .i64 a0_1, .slice A0_2 l0_2.length c0_2] 44 (0, 0)) (upB a9.out)) : c3 ≠ b9)); have i9 := yaa ((by rw [hg]; exact Nat.ne_of_lt (yay (g := b8) (o := .cells #[.int .i64 a1_0, .int .i64 a1_1, .int .i64 a1_2, .int .i64 a1_3, .int .i64 a1_4] 45 (0, 0)) (upB a8.out)) : b8 ≠ c3)); have j3 := yaa ((by rw [hg]; exact Nat.ne_of_gt (yay (g := b8) (o := .cells #[.int .i64 a1_0, .int .i64 a1_1, .int .i64 a1_2, .int .i64 a1_3, .int .i64 a1_4] 45 (0, 0)) (upB a8.out)) : c3 ≠ b8)); have j4 := yaa ((by rw [hg]; exact Nat.ne_of_lt (yay (g := b6) (o := .cells #[.int .i64 d8, .int .i64 e0, .slice e4 d0.length e2] 25 (0, 0)) (upB b3.out)) : b6 ≠ c3)); have j5 := yaa ((by rw [hg]; exact Nat.ne_of_gt (yay (g := b6) (o := .cells #[.int .i64 d8, .int .i64 e0, .slice e4 d0.length e2] 25 (0, 0)) (upB b3.out)) : c3 ≠ b6)); clear d1; clear e7; clear f5; clear a9; clear a8; clear b3; clear HB; have d1 := n0_; have e7 := n1_; have f5 := n2_; have a9 := n3_; have a8 := n4_; have b3 := n5_; have HB := n6_; have b4 := n7_; have aI := n8_; have aJ := n9_; have k3 := g0; have p1 := h1; have k4 := i9; have p3 := j3; have h8 := j4; have i7 := j5; clear n0_ n1_ n2_ n3_ n4_ n5_ n6_ n7_ n8_ n9_ g0 h1 i9 j3 j4 j5; clear hb hbox hg; have aK := p1.out; have aL := k3.out; have aM := p3.out; have aN := k4.out; have aO := i7.out; have aP := h8.out; have O4 : w36.cell? ⟨c3, 0, none⟩ = some (.int .i64 0) := (yab b4.out 0).trans rfl; have O5 : w36.cell? ⟨c3, 1, none⟩ = some (.int .i64 0) := (yab b4.out 1).trans rfl; have O6 : w36.cell? ⟨c3, 2, none⟩ = some (.slice none 0 0) := (yab b4.out 2).trans rfl; have O7 := yaq b4.out 0; have O8 := yaq b4.out 1; have O9 := yaq b4.out 2; obtain ⟨d6, d7, S2⟩ := Kd.R_slice f5.out; subst S2))
  have n0_ : yaw (Kd.R k36 36 (((w36.setCell ⟨c3, 0, none⟩ (.int .i64 e9)).setCell ⟨c3, 1, none⟩ (.int .i64 f1)).setCell ⟨c3, 2, none⟩ (.slice d6 f0.length d7)) w.heap.size (fun k_ => some k_ ≠ (.slice e4 d0.length e2 : Value).ownBlock ∧ some k_ ≠ (.slice d6 f0.length d7 : Value).ownBlock) k7 k6) := ⟨by (with_reducible repeat (first | apply yah | apply yai | apply yak)); exact yal (yap (p := ⟨c3, 2, none⟩) (yap (p := ⟨c3, 1, none⟩) (yap (p := ⟨c3, 0, none⟩) (ybb d1.out b4.out (by decide)) (fun _ hk => hk.2) (.int .i64 e9)) (fun _ hk => hk.2) (.int .i64 f1)) (fun _ hk => hk.2) (.slice d6 f0.length d7)) (fun _ hk => ⟨hk.1.1, hk.1.2⟩)⟩
  have n1_ : yaw (Kd.R k36 36 (((w36.setCell ⟨c3, 0, none⟩ (.int .i64 e9)).setCell ⟨c3, 1, none⟩ (.int .i64 f1)).setCell ⟨c3, 2, none⟩ (.slice d6 f0.length d7)) w.heap.size (fun k_ => some k_ ≠ (k7 : Value).ownBlock ∧ some k_ ≠ (.slice d6 f0.length d7 : Value).ownBlock) (.slice e4 d0.length e2) d0) := ⟨by (with_reducible repeat (first | apply yah | apply yai | apply yak)); exact yal (yap (p := ⟨c3, 2, none⟩) (yap (p := ⟨c3, 1, none⟩) (yap (p := ⟨c3, 0, none⟩) (ybb e7.out b4.out (by decide)) (fun _ hk => hk.2) (.int .i64 e9)) (fun _ hk => hk.2) (.int .i64 f1)) (fun _ hk => hk.2) (.slice d6 f0.length d7)) (fun _ hk => ⟨hk.1.1, hk.1.2⟩)⟩
  have n2_ : yaw (Kd.R k36 36 (((w36.setCell ⟨c3, 0, none⟩ (.int .i64 e9)).setCell ⟨c3, 1, none⟩ (.int .i64 f1)).setCell ⟨c3, 2, none⟩ (.slice d6 f0.length d7)) w.heap.size (fun k_ => some k_ ≠ (k7 : Value).ownBlock ∧ some k_ ≠ (.slice e4 d0.length e2 : Value).ownBlock) (.slice d6 f0.length d7) f0) := ⟨by (with_reducible repeat (first | apply yah | apply yai | apply yak)); exact yal (yap (p := ⟨c3, 2, none⟩) (yap (p := ⟨c3, 1, none⟩) (yap (p := ⟨c3, 0, none⟩) (ybb f5.out b4.out (by decide)) (fun _ hk => hk.2) (.int .i64 e9)) (fun _ hk => hk.2) (.int .i64 f1)) (fun _ hk => hk.2) (.slice d6 f0.length d7)) (fun _ hk => ⟨hk.1.1.2, hk.1.2⟩)⟩
  have n3_ : yaw ((((w36.setCell ⟨c3, 0, none⟩ (.int .i64 e9)).setCell ⟨c3, 1, none⟩ (.int .i64 f1)).setCell ⟨c3, 2, none⟩ (.slice d6 f0.length d7)).heap[b9]? = some (.cells #[.int .i64 a0_0, .int .i64 a0_1, .slice A0_2 l0_2.length c0_2] 44 (0, 0))) := ⟨by (with_reducible repeat (first | refine yam ?_ _ | refine yao ?_ | refine yan ?_ _)); refine yax ?_ k3.out _; (with_reducible repeat (first | refine yam ?_ _ | refine yao ?_ | refine yan ?_ _)); refine yax ?_ k3.out _; (with_reducible repeat (first | refine yam ?_ _ | refine yao ?_ | refine yan ?_ _)); refine yax ?_ k3.out _; exact upB a9.out⟩
  have n4_ : yaw ((((w36.setCell ⟨c3, 0, none⟩ (.int .i64 e9)).setCell ⟨c3, 1, none⟩ (.int .i64 f1)).setCell ⟨c3, 2, none⟩ (.slice d6 f0.length d7)).heap[b8]? = some (.cells #[.int .i64 a1_0, .int .i64 a1_1, .int .i64 a1_2, .int .i64 a1_3, .int .i64 a1_4] 45 (0, 0))) := ⟨by (with_reducible repeat (first | refine yam ?_ _ | refine yao ?_ | refine yan ?_ _)); refine yax ?_ k4.out _; (with_reducible repeat (first | refine yam ?_ _ | refine yao ?_ | refine yan ?_ _)); refine yax ?_ k4.out _; (with_reducible repeat (first | refine yam ?_ _ | refine yao ?_ | refine yan ?_ _)); refine yax ?_ k4.out _; exact upB a8.out⟩
  have n5_ : yaw ((((w36.setCell ⟨c3, 0, none⟩ (.int .i64 e9)).setCell ⟨c3, 1, none⟩ (.int .i64 f1)).setCell ⟨c3, 2, none⟩ (.slice d6 f0.length d7)).heap[b6]? = some (.cells #[.int .i64 d8, .int .i64 e0, .slice e4 d0.length e2] 25 (0, 0))) := ⟨by (with_reducible repeat (first | refine yam ?_ _ | refine yao ?_ | refine yan ?_ _)); refine yax ?_ h8.out _; (with_reducible repeat (first | refine yam ?_ _ | refine yao ?_ | refine yan ?_ _)); refine yax ?_ h8.out _; (with_reducible repeat (first | refine yam ?_ _ | refine yao ?_ | refine yan ?_ _)); refine yax ?_ h8.out _; exact upB b3.out⟩
  have n6_ : yaw ((((w36.setCell ⟨c3, 0, none⟩ (.int .i64 e9)).setCell ⟨c3, 1, none⟩ (.int .i64 f1)).setCell ⟨c3, 2, none⟩ (.slice d6 f0.length d7)).heap[c3]? = some (.cells #[.int .i64 e9, .int .i64 f1, .slice d6 f0.length d7] 25 (0, 0))) := ⟨by (with_reducible repeat (first | refine yam ?_ _ | refine yao ?_ | refine yan ?_ _)); refine blk_put (cs := #[.int .i64 e9, .int .i64 f1, .slice none 0 0]) ?_ 2 _ rfl; (with_reducible repeat (first | refine yam ?_ _ | refine yao ?_ | refine yan ?_ _)); refine blk_put (cs := #[.int .i64 e9, .int .i64 0, .slice none 0 0]) ?_ 1 _ rfl; (with_reducible repeat (first | refine yam ?_ _ | refine yao ?_ | refine yan ?_ _)); refine blk_put (cs := #[.int .i64 0, .int .i64 0, .slice none 0 0]) ?_ 0 _ rfl; exact upB b4.out⟩
  have n7_ : yaw (Below w.heap.size w (((w36.setCell ⟨c3, 0, none⟩ (.int .i64 e9)).setCell ⟨c3, 1, none⟩ (.int .i64 f1)).setCell ⟨c3, 2, none⟩ (.slice d6 f0.length d7))) := ⟨by repeat (first | (with_reducible first | exact HB.out | apply yaf | apply yac | apply yae | refine yag ?_ (Aside0.out ‹_›)) | exact HB.out)⟩
  (try clear d1)
  (try clear e7)
  (try clear f5)
  (try clear a9)
  (try clear a8)
  (try clear b3)
  (try clear b4)
  (try clear HB)
  generalize (((w36.setCell ⟨c3, 0, none⟩ (.int .i64 e9)).setCell ⟨c3, 1, none⟩ (.int .i64 f1)).setCell ⟨c3, 2, none⟩ (.slice d6 f0.length d7)) = w42 at n0_ n1_ n2_ n3_ n4_ n5_ n6_ n7_ ⊢
  have d1 := n0_
  have e7 := n1_
  have f5 := n2_
  have a9 := n3_
  have a8 := n4_
  have b3 := n5_
  have b4 := n6_
  have HB := n7_
  clear n0_ n1_ n2_ n3_ n4_ n5_ n6_ n7_
  have n0_ := yaa (yak d1.out)
  have n1_ := yaa (yak e7.out)
  have n2_ := yaa (yak f5.out)
  have n3_ := yaa (yao a9.out)
  have n4_ := yaa (yao a8.out)
  have n5_ := yaa (yao b3.out)
  have n6_ := yaa (yao b4.out)
  have n7_ := yaa (yae HB.out)
  clear d1 e7 f5 a9 a8 b3 b4 HB
  have d1 := n0_
  have e7 := n1_
  have f5 := n2_
  have a9 := n3_
  have a8 := n4_
  have b3 := n5_
  have b4 := n6_
  have HB := n7_
  clear n0_ n1_ n2_ n3_ n4_ n5_ n6_ n7_
  refine start_ (n := 10) (S := fun w' => w'.cell? ⟨c3, 0, none⟩ = some (.int .i64 e9) ∧ w'.cell? ⟨c3, 1, none⟩ = some (.int .i64 f1) ∧ w'.cell? ⟨c3, 2, none⟩ = some (.slice d6 f0.length d7) ∧ w'.cell? ⟨b8, 0, none⟩ = some (.int .i64 a1_0) ∧ w'.cell? ⟨b8, 1, none⟩ = some (.int .i64 a1_1) ∧ w'.cell? ⟨b8, 2, none⟩ = some (.int .i64 a1_2) ∧ w'.cell? ⟨b8, 3, none⟩ = some (.int .i64 a1_3) ∧ w'.cell? ⟨b8, 4, none⟩ = some (.int .i64 a1_4)) (ds := []) q7_18 (by kernel_rfl) rfl rfl ⟨(yab b4.out 0).trans rfl, (yab b4.out 1).trans rfl, (yab b4.out 2).trans rfl, (yab a8.out 0).trans rfl, (yab a8.out 1).trans rfl, (yab a8.out 2).trans rfl, (yab a8.out 3).trans rfl, (yab a8.out 4).trans rfl⟩ (fun hHeld => ?_); refine with_tabW laws_FnExactOpDo.tab7 laws_FnExactOpDo.bits7 (fun HT_ HW_ => ?_)
  generalize w42.drew = w43 at d1 e7 f5 a9 a8 b3 b4 HB hHeld ⊢
  refine tz_ 0 32 q7_19 HT_ HW_ (by kernel_rfl) hHeld ?_
  refine tz_ 1 33 q7_20 HT_ HW_ (by kernel_rfl) hHeld ?_
  refine join_ (σ := Value × Nat) 2 q7_21 (fun s_ => [(34, .agg #[.int .i64 p8, .int .i64 p9, .int .i64 q0, .int .i64 q1, .int .i64 q2]), (35, .tuple #[.agg #[.int .i64 d9, .int .i64 e1, s_.1], .bool j9]), (9, .pointer (some ⟨s_.2, 0, none⟩)), (31, .tuple #[.agg #[.int .i64 d9, .int .i64 e1, s_.1], .bool j9]), (36, .agg #[.int .i64 d9, .int .i64 e1, s_.1]), (37, .bool j9)]) (fun s_ w' => (w'.cell? ⟨c3, 0, none⟩ = some (.int .i64 e9) ∧ w'.cell? ⟨c3, 1, none⟩ = some (.int .i64 f1) ∧ w'.cell? ⟨c3, 2, none⟩ = some (.slice d6 f0.length d7) ∧ w'.cell? ⟨b8, 0, none⟩ = some (.int .i64 a1_0) ∧ w'.cell? ⟨b8, 1, none⟩ = some (.int .i64 a1_1) ∧ w'.cell? ⟨b8, 2, none⟩ = some (.int .i64 a1_2) ∧ w'.cell? ⟨b8, 3, none⟩ = some (.int .i64 a1_3) ∧ w'.cell? ⟨b8, 4, none⟩ = some (.int .i64 a1_4)) ∧ (Kd.R k36 36 w' w.heap.size (fun k_ => some k_ ≠ (.slice e4 d0.length e2 : Value).ownBlock ∧ some k_ ≠ (.slice d6 f0.length d7 : Value).ownBlock ∧ some k_ ≠ (s_.1 : Value).ownBlock) k7 k6) ∧ (Kd.R k36 36 w' w.heap.size (fun k_ => some k_ ≠ (k7 : Value).ownBlock ∧ some k_ ≠ (.slice d6 f0.length d7 : Value).ownBlock ∧ some k_ ≠ (s_.1 : Value).ownBlock) (.slice e4 d0.length e2) d0) ∧ (Kd.R k36 36 w' w.heap.size (fun k_ => some k_ ≠ (k7 : Value).ownBlock ∧ some k_ ≠ (.slice e4 d0.length e2 : Value).ownBlock ∧ some k_ ≠ (s_.1 : Value).ownBlock) (.slice d6 f0.length d7) f0) ∧ (Kd.R k36 36 w' w.heap.size (fun k_ => some k_ ≠ (k7 : Value).ownBlock ∧ some k_ ≠ (.slice e4 d0.length e2 : Value).ownBlock ∧ some k_ ≠ (.slice d6 f0.length d7 : Value).ownBlock) s_.1 d2) ∧ (w'.heap[b9]? = some (.cells #[.int .i64 a0_0, .int .i64 a0_1, .slice A0_2 l0_2.length c0_2] 44 (0, 0))) ∧ (w'.heap[b8]? = some (.cells #[.int .i64 a1_0, .int .i64 a1_1, .int .i64 a1_2, .int .i64 a1_3, .int .i64 a1_4] 45 (0, 0))) ∧ (w'.heap[b6]? = some (.cells #[.int .i64 d8, .int .i64 e0, .slice e4 d0.length e2] 25 (0, 0))) ∧ (w'.heap[c3]? = some (.cells #[.int .i64 e9, .int .i64 f1, .slice d6 f0.length d7] 25 (0, 0))) ∧ (w'.heap[s_.2]? = some (.cells #[.int .i64 0, .int .i64 0, .slice none 0 0] 25 (0, 0))) ∧ (w.heap.size ≤ s_.2) ∧ (w.heap.size ≤ s_.2) ∧ (b9 ≠ s_.2) ∧ (s_.2 ≠ b9) ∧ (b8 ≠ s_.2) ∧ (s_.2 ≠ b8) ∧ (b6 ≠ s_.2) ∧ (s_.2 ≠ b6) ∧ (c3 ≠ s_.2) ∧ (s_.2 ≠ c3) ∧ (Below w.heap.size w w')) ?_ ?_
  rotate_left
  ·
   intro hCont
   refine two_ (i := 2) (j := 7) (Ni := some 34) (Nj := some 9) q7_22 q7_23 rfl rfl rfl rfl (two_of HT_.out (by kernel_rfl)) (by decide) (by decide) (fun K hK => ?_) (fun K hK => ?_)
   ·
    skip
    refine goes_ Try.func22 (by kernel_rfl) rfl #[.agg #[.int .i64 a1_0, .int .i64 a1_1, .int .i64 a1_2, .int .i64 a1_3, .int .i64 a1_4]] (by rfl) rfl rfl (by (try simp only [List.map_toArray, List.map_cons, List.map_nil]); first | done | rfl | (simp only [List.length_drop, List.length_take]; rfl)) ?_
    with_reducible refine (laws_toOpOp.calls a1_0 a1_1 a1_2 a1_3 a1_4 p8 p9 q0 q1 q2 _ A14.out).mono ?_
    rintro e w44 ⟨rfl, hb⟩
    refine ⟨_, rfl, ?_⟩
    have n0_ := yaa (yaj (upR d1.out) hb)
    have n1_ := yaa (yaj (upR e7.out) hb)
    have n2_ := yaa (yaj (upR f5.out) hb)
    have n3_ := yaa (yad (g := b9) (o := .cells #[.int .i64 a0_0, .int .i64 a0_1, .slice A0_2 l0_2.length c0_2] 44 (0, 0)) (upB a9.out) hb)
    have n4_ := yaa (yad (g := b8) (o := .cells #[.int .i64 a1_0, .int .i64 a1_1, .int .i64 a1_2, .int .i64 a1_3, .int .i64 a1_4] 45 (0, 0)) (upB a8.out) hb)
    have n5_ := yaa (yad (g := b6) (o := .cells #[.int .i64 d8, .int .i64 e0, .slice e4 d0.length e2] 25 (0, 0)) (upB b3.out) hb)
    have n6_ := yaa (yad (g := c3) (o := .cells #[.int .i64 e9, .int .i64 f1, .slice d6 f0.length d7] 25 (0, 0)) (upB b4.out) hb)
    have n7_ := yaa (yas (by repeat (first | (with_reducible first | exact HB.out | apply yaf | apply yac | apply yae | refine yag ?_ (Aside0.out ‹_›)) | exact HB.out)) hb)
    clear d1 e7 f5 a9 a8 b3 b4 HB
    have d1 := n0_
    have e7 := n1_
    have f5 := n2_
    have a9 := n3_
    have a8 := n4_
    have b3 := n5_
    have b4 := n6_
    have HB := n7_
    clear n0_ n1_ n2_ n3_ n4_ n5_ n6_ n7_
    (try clear hb)
    (try clear hb2)
    (try clear hk)
    (try clear hi)
    refine hK.out _ _ ⟨(yab b4.out 0).trans rfl, (yab b4.out 1).trans rfl, (yab b4.out 2).trans rfl, (yab a8.out 0).trans rfl, (yab a8.out 1).trans rfl, (yab a8.out 2).trans rfl, (yab a8.out 3).trans rfl, (yab a8.out 4).trans rfl⟩ (fun hHeld => ?_)
    clear hK K
    refine ybh (a' := ?_) ?_ ?_
    rotate_left
    ·
     show Act.put _ (some 34) _ = _
     simp only [Act.put, List.setIfInBounds_toArray, List.set_cons_zero, List.set_cons_succ, i64_w, i32_w]
     rfl
    refine two_ (i := 3) (j := 7) (Ni := some 35) (Nj := some 9) q7_24 q7_25 rfl rfl rfl rfl (two_of HT_.out (by kernel_rfl)) (by decide) (by decide) (fun K hK => ?_) (fun K hK => ?_)
    ·
     skip
     refine goes_ Try.func11 (by kernel_rfl) rfl #[.agg #[.int .i64 e9, .int .i64 f1, .slice d6 f0.length d7], .agg #[.int .i64 p8, .int .i64 p9, .int .i64 q0, .int .i64 q1, .int .i64 q2]] (by rfl) rfl rfl (by (try simp only [List.map_toArray, List.map_cons, List.map_nil]); first | done | rfl | (simp only [List.length_drop, List.length_take]; rfl)) ?_
     with_reducible refine (impl_OpDo.calls e9 f1 _ _ f0 p8 p9 q0 q1 q2 d9 e1 d2 j9 _ ?side1 ?side2 A15.out).mono ?_
     (case side1 => repeat (first | exact (yar f5.out).2.2 | (with_reducible refine ybc ?_ _) | (with_reducible refine ybd ?_ _) | (with_reducible refine ybf ?_)))
     (case side2 => exact (yar f5.out).2.1)
     rintro e w45 ⟨o9, rfl, ho0, hb⟩
     refine ⟨_, rfl, ?_⟩
     have n0_ := yaa (yav (upR d1.out) (yaz ho0) hb)
     have n1_ := yaa (yav (upR e7.out) (yaz ho0) hb)
     have n2_ := yaa (yav (upR f5.out) (yaz ho0) hb)
     have n3_ := yaa (ybg (yba (yba (yba ho0 (ybe (upR d1.out))) (ybe (upR e7.out))) (ybe (upR f5.out))) (yau (by repeat (first | (with_reducible first | exact HB.out | apply yaf | apply yac | apply yae | refine yag ?_ (Aside0.out ‹_›)) | exact HB.out))))
     have n4_ := yaa (yad (g := b9) (o := .cells #[.int .i64 a0_0, .int .i64 a0_1, .slice A0_2 l0_2.length c0_2] 44 (0, 0)) (upB a9.out) hb)
     have n5_ := yaa (yad (g := b8) (o := .cells #[.int .i64 a1_0, .int .i64 a1_1, .int .i64 a1_2, .int .i64 a1_3, .int .i64 a1_4] 45 (0, 0)) (upB a8.out) hb)
     have n6_ := yaa (yad (g := b6) (o := .cells #[.int .i64 d8, .int .i64 e0, .slice e4 d0.length e2] 25 (0, 0)) (upB b3.out) hb)
     have n7_ := yaa (yad (g := c3) (o := .cells #[.int .i64 e9, .int .i64 f1, .slice d6 f0.length d7] 25 (0, 0)) (upB b4.out) hb)
     have n8_ := yaa (yas (by repeat (first | (with_reducible first | exact HB.out | apply yaf | apply yac | apply yae | refine yag ?_ (Aside0.out ‹_›)) | exact HB.out)) hb)
     clear d1 e7 f5 a9 a8 b3 b4 HB
     have d1 := n0_
     have e7 := n1_
     have f5 := n2_
     have i5 := n3_
     have a9 := n4_
     have a8 := n5_
     have b3 := n6_
     have b4 := n7_
     have HB := n8_
     clear n0_ n1_ n2_ n3_ n4_ n5_ n6_ n7_ n8_
     (try clear hb)
     (try clear hb2)
     (try clear hk)
     (try clear hi)
     (try clear ho0)
     refine hK.out _ _ ⟨(yab b4.out 0).trans rfl, (yab b4.out 1).trans rfl, (yab b4.out 2).trans rfl, (yab a8.out 0).trans rfl, (yab a8.out 1).trans rfl, (yab a8.out 2).trans rfl, (yab a8.out 3).trans rfl, (yab a8.out 4).trans rfl⟩ (fun hHeld => ?_)
     clear hK K
     refine ybh (a' := ?_) ?_ ?_
     rotate_left
     ·
      show Act.put _ (some 35) _ = _
      simp only [Act.put, List.setIfInBounds_toArray, List.set_cons_zero, List.set_cons_succ, i64_w, i32_w]
      rfl
     refine pz_ 4 31 q7_26 HT_ (by kernel_rfl) ?_
     refine pz_ 5 36 q7_27 HT_ (by kernel_rfl) ?_
     refine pz_ 6 37 q7_28 HT_ (by kernel_rfl) ?_
     refine one_ (i := 7) (N := some 9) q7_21 rfl rfl (one_of HT_.out (by kernel_rfl)) (by decide) (fun K hK => ?_)
     refine box_step ?hg (N := 9) ?hd (cs := #[.int .i64 0, .int .i64 0, .slice none 0 0]) (t := 25) ?hr ?_; (case hd => rfl); (case hg => rfl); (case hr => first | (go_simp; done) | (go_simp; rfl))
     intro b7 hg w46 hbox hb
     have n0_ := yaa (yaj (upR d1.out) hb)
     have n1_ := yaa (yaj (upR e7.out) hb)
     have n2_ := yaa (yaj (upR f5.out) hb)
     have n3_ := yaa (yaj (upR i5.out) hb)
     have n4_ := yaa (yad (g := b9) (o := .cells #[.int .i64 a0_0, .int .i64 a0_1, .slice A0_2 l0_2.length c0_2] 44 (0, 0)) (upB a9.out) hb)
     have n5_ := yaa (yad (g := b8) (o := .cells #[.int .i64 a1_0, .int .i64 a1_1, .int .i64 a1_2, .int .i64 a1_3, .int .i64 a1_4] 45 (0, 0)) (upB a8.out) hb)
     have n6_ := yaa (yad (g := b6) (o := .cells #[.int .i64 d8, .int .i64 e0, .slice e4 d0.length e2] 25 (0, 0)) (upB b3.out) hb)
     have n7_ := yaa (yad (g := c3) (o := .cells #[.int .i64 e9, .int .i64 f1, .slice d6 f0.length d7] 25 (0, 0)) (upB b4.out) hb)
     have n8_ := yaa (yas (by repeat (first | (with_reducible first | exact HB.out | apply yaf | apply yac | apply yae | refine yag ?_ (Aside0.out ‹_›)) | exact HB.out)) hb)
     have n9_ := yaa (hbox)
     have g0 := yaa ((by rw [hg]; exact (yau (by repeat (first | (with_reducible first | exact HB.out | apply yaf | apply yac | apply yae | refine yag ?_ (Aside0.out ‹_›)) | exact HB.out))) : w.heap.size ≤ b7))
     have h1 := yaa ((by rw [hg]; exact (yau (by repeat (first | (with_reducible first | exact HB.out | apply yaf | apply yac | apply yae | refine yag ?_ (Aside0.out ‹_›)) | exact HB.out))) : w.heap.size ≤ b7))
     have i9 := yaa ((by rw [hg]; exact Nat.ne_of_lt (yay (g := b9) (o := .cells #[.int .i64 a0_0, .int .i64 a0_1, .slice A0_2 l0_2.length c0_2] 44 (0, 0)) (upB a9.out)) : b9 ≠ b7))
     have j3 := yaa ((by rw [hg]; exact Nat.ne_of_gt (yay (g := b9) (o := .cells #[.int .i64 a0_0, .int .i64 a0_1, .slice A0_2 l0_2.length c0_2] 44 (0, 0)) (upB a9.out)) : b7 ≠ b9))
     have j4 := yaa ((by rw [hg]; exact Nat.ne_of_lt (yay (g := b8) (o := .cells #[.int .i64 a1_0, .int .i64 a1_1, .int .i64 a1_2, .int .i64 a1_3, .int .i64 a1_4] 45 (0, 0)) (upB a8.out)) : b8 ≠ b7))
     have j5 := yaa ((by rw [hg]; exact Nat.ne_of_gt (yay (g := b8) (o := .cells #[.int .i64 a1_0, .int .i64 a1_1, .int .i64 a1_2, .int .i64 a1_3, .int .i64 a1_4] 45 (0, 0)) (upB a8.out)) : b7 ≠ b8))
     have j6 := yaa ((by rw [hg]; exact Nat.ne_of_lt (yay (g := b6) (o := .cells #[.int .i64 d8, .int .i64 e0, .slice e4 d0.length e2] 25 (0, 0)) (upB b3.out)) : b6 ≠ b7))
     have j7 := yaa ((by rw [hg]; exact Nat.ne_of_gt (yay (g := b6) (o := .cells #[.int .i64 d8, .int .i64 e0, .slice e4 d0.length e2] 25 (0, 0)) (upB b3.out)) : b7 ≠ b6))
     have j8 := yaa ((by rw [hg]; exact Nat.ne_of_lt (yay (g := c3) (o := .cells #[.int .i64 e9, .int .i64 f1, .slice d6 f0.length d7] 25 (0, 0)) (upB b4.out)) : c3 ≠ b7))
     have k5 := yaa ((by rw [hg]; exact Nat.ne_of_gt (yay (g := c3) (o := .cells #[.int .i64 e9, .int .i64 f1, .slice d6 f0.length d7] 25 (0, 0)) (upB b4.out)) : b7 ≠ c3))
     clear d1 e7 f5 i5 a9 a8 b3 b4 HB
     have d1 := n0_
     have e7 := n1_
     have f5 := n2_
     have i5 := n3_
     have a9 := n4_
     have a8 := n5_
     have b3 := n6_
     have b4 := n7_
     have HB := n8_
     have b5 := n9_
     have p4 := g0
     have p5 := h1
     have f8 := i9
     have g7 := j3
     have d3 := j4
     have g8 := j5
     have f6 := j6
     have g5 := j7
     have e3 := j8
     have g6 := k5
     clear n0_ n1_ n2_ n3_ n4_ n5_ n6_ n7_ n8_ n9_ g0 h1 i9 j3 j4 j5 j6 j7 j8 k5 hb hbox hg
     refine hK.out _ _ ⟨(yab b4.out 0).trans rfl, (yab b4.out 1).trans rfl, (yab b4.out 2).trans rfl, (yab a8.out 0).trans rfl, (yab a8.out 1).trans rfl, (yab a8.out 2).trans rfl, (yab a8.out 3).trans rfl, (yab a8.out 4).trans rfl⟩ (fun hHeld => ?_)
     clear hK K
     refine ybh (a' := ?_) ?_ ?_
     rotate_left
     ·
      show Act.put _ (some 9) _ = _
      simp only [Act.put, List.setIfInBounds_toArray, List.set_cons_zero, List.set_cons_succ, i64_w, i32_w]
      rfl
     exact ybh (by simp only [putAll, Act.put, List.setIfInBounds_toArray, List.set_cons_zero, List.set_cons_succ]) (hCont (o9, b7) _ ⟨hHeld, (by (with_reducible repeat (first | apply yah | apply yai | apply yak)); exact yal d1.out (fun _ hk => ⟨hk.1.1, ⟨hk.1.2, hk.2⟩⟩)), (by (with_reducible repeat (first | apply yah | apply yai | apply yak)); exact yal e7.out (fun _ hk => ⟨hk.1.1, ⟨hk.1.2, hk.2⟩⟩)), (by (with_reducible repeat (first | apply yah | apply yai | apply yak)); exact yal f5.out (fun _ hk => ⟨hk.1.1, ⟨hk.1.2, hk.2⟩⟩)), (by (with_reducible repeat (first | apply yah | apply yai | apply yak)); exact yal i5.out (fun _ hk => ⟨hk.1.1.2, ⟨hk.1.2, hk.2⟩⟩)), (upB a9.out), (upB a8.out), (upB b3.out), (upB b4.out), (upB b5.out), p4.out, p5.out, f8.out, g7.out, d3.out, g8.out, f6.out, g5.out, e3.out, g6.out, (by repeat (first | (with_reducible first | exact HB.out | apply yaf | apply yac | apply yae | refine yag ?_ (Aside0.out ‹_›)) | exact HB.out))⟩)
    ·
     skip
     refine box_step ?hg (N := 9) ?hd (cs := #[.int .i64 0, .int .i64 0, .slice none 0 0]) (t := 25) ?hr ?_; (case hd => rfl); (case hg => rfl); (case hr => first | (go_simp; done) | (go_simp; rfl))
     intro b7 hg w45 hbox hb
     have n0_ := yaa (yaj (upR d1.out) hb)
     have n1_ := yaa (yaj (upR e7.out) hb)
     have n2_ := yaa (yaj (upR f5.out) hb)
     have n3_ := yaa (yad (g := b9) (o := .cells #[.int .i64 a0_0, .int .i64 a0_1, .slice A0_2 l0_2.length c0_2] 44 (0, 0)) (upB a9.out) hb)
     have n4_ := yaa (yad (g := b8) (o := .cells #[.int .i64 a1_0, .int .i64 a1_1, .int .i64 a1_2, .int .i64 a1_3, .int .i64 a1_4] 45 (0, 0)) (upB a8.out) hb)
     have n5_ := yaa (yad (g := b6) (o := .cells #[.int .i64 d8, .int .i64 e0, .slice e4 d0.length e2] 25 (0, 0)) (upB b3.out) hb)
     have n6_ := yaa (yad (g := c3) (o := .cells #[.int .i64 e9, .int .i64 f1, .slice d6 f0.length d7] 25 (0, 0)) (upB b4.out) hb)
     have n7_ := yaa (yas (by repeat (first | (with_reducible first | exact HB.out | apply yaf | apply yac | apply yae | refine yag ?_ (Aside0.out ‹_›)) | exact HB.out)) hb)
     have n8_ := yaa (hbox)
     have n9_ := yaa ((by rw [hg]; exact (yau (by repeat (first | (with_reducible first | exact HB.out | apply yaf | apply yac | apply yae | refine yag ?_ (Aside0.out ‹_›)) | exact HB.out))) : w.heap.size ≤ b7))
     have g0 := yaa ((by rw [hg]; exact (yau (by repeat (first | (with_reducible first | exact HB.out | apply yaf | apply yac | apply yae | refine yag ?_ (Aside0.out ‹_›)) | exact HB.out))) : w.heap.size ≤ b7))
     have h1 := yaa ((by rw [hg]; exact Nat.ne_of_lt (yay (g := b9) (o := .cells #[.int .i64 a0_0, .int .i64 a0_1, .slice A0_2 l0_2.length c0_2] 44 (0, 0)) (upB a9.out)) : b9 ≠ b7))
     have i9 := yaa ((by rw [hg]; exact Nat.ne_of_gt (yay (g := b9) (o := .cells #[.int .i64 a0_0, .int .i64 a0_1, .slice A0_2 l0_2.length c0_2] 44 (0, 0)) (upB a9.out)) : b7 ≠ b9))
     have j3 := yaa ((by rw [hg]; exact Nat.ne_of_lt (yay (g := b8) (o := .cells #[.int .i64 a1_0, .int .i64 a1_1, .int .i64 a1_2, .int .i64 a1_3, .int .i64 a1_4] 45 (0, 0)) (upB a8.out)) : b8 ≠ b7))
     have j4 := yaa ((by rw [hg]; exact Nat.ne_of_gt (yay (g := b8) (o := .cells #[.int .i64 a1_0, .int .i64 a1_1, .int .i64 a1_2, .int .i64 a1_3, .int .i64 a1_4] 45 (0, 0)) (upB a8.out)) : b7 ≠ b8))
     have j5 := yaa ((by rw [hg]; exact Nat.ne_of_lt (yay (g := b6) (o := .cells #[.int .i64 d8, .int .i64 e0, .slice e4 d0.length e2] 25 (0, 0)) (upB b3.out)) : b6 ≠ b7))
     have j6 := yaa ((by rw [hg]; exact Nat.ne_of_gt (yay (g := b6) (o := .cells #[.int .i64 d8, .int .i64 e0, .slice e4 d0.length e2] 25 (0, 0)) (upB b3.out)) : b7 ≠ b6))
     have j7 := yaa ((by rw [hg]; exact Nat.ne_of_lt (yay (g := c3) (o := .cells #[.int .i64 e9, .int .i64 f1, .slice d6 f0.length d7] 25 (0, 0)) (upB b4.out)) : c3 ≠ b7))
     have j8 := yaa ((by rw [hg]; exact Nat.ne_of_gt (yay (g := c3) (o := .cells #[.int .i64 e9, .int .i64 f1, .slice d6 f0.length d7] 25 (0, 0)) (upB b4.out)) : b7 ≠ c3))
     clear d1 e7 f5 a9 a8 b3 b4 HB
     have d1 := n0_
     have e7 := n1_
     have f5 := n2_
     have a9 := n3_
     have a8 := n4_
     have b3 := n5_
     have b4 := n6_
     have HB := n7_
     have b5 := n8_
     have p4 := n9_
     have p5 := g0
     have f8 := h1
     have g7 := i9
     have d3 := j3
     have g8 := j4
     have f6 := j5
     have g5 := j6
     have e3 := j7
     have g6 := j8
     clear n0_ n1_ n2_ n3_ n4_ n5_ n6_ n7_ n8_ n9_ g0 h1 i9 j3 j4 j5 j6 j7 j8 hb hbox hg
     refine hK.out _ _ ⟨(yab b4.out 0).trans rfl, (yab b4.out 1).trans rfl, (yab b4.out 2).trans rfl, (yab a8.out 0).trans rfl, (yab a8.out 1).trans rfl, (yab a8.out 2).trans rfl, (yab a8.out 3).trans rfl, (yab a8.out 4).trans rfl⟩ (fun hHeld => ?_)
     clear hK K
     refine ybh (a' := ?_) ?_ ?_
     rotate_left
     ·
      show Act.put _ (some 9) _ = _
      simp only [Act.put, List.setIfInBounds_toArray, List.set_cons_zero, List.set_cons_succ, i64_w, i32_w]
      rfl
     refine one_ (i := 3) (N := some 35) q7_29 rfl rfl (one_of HT_.out (by kernel_rfl)) (by decide) (fun K hK => ?_)
     refine goes_ Try.func11 (by kernel_rfl) rfl #[.agg #[.int .i64 e9, .int .i64 f1, .slice d6 f0.length d7], .agg #[.int .i64 p8, .int .i64 p9, .int .i64 q0, .int .i64 q1, .int .i64 q2]] (by rfl) rfl rfl (by (try simp only [List.map_toArray, List.map_cons, List.map_nil]); first | done | rfl | (simp only [List.length_drop, List.length_take]; rfl)) ?_
     with_reducible refine (impl_OpDo.calls e9 f1 _ _ f0 p8 p9 q0 q1 q2 d9 e1 d2 j9 _ ?side1 ?side2 A15.out).mono ?_
     (case side1 => repeat (first | exact (yar f5.out).2.2 | (with_reducible refine ybc ?_ _) | (with_reducible refine ybd ?_ _) | (with_reducible refine ybf ?_)))
     (case side2 => exact (yar f5.out).2.1)
     rintro e w46 ⟨o9, rfl, ho0, hb⟩
     refine ⟨_, rfl, ?_⟩
     have n0_ := yaa (yav (upR d1.out) (yaz ho0) hb)
     have n1_ := yaa (yav (upR e7.out) (yaz ho0) hb)
     have n2_ := yaa (yav (upR f5.out) (yaz ho0) hb)
     have n3_ := yaa (ybg (yba (yba (yba ho0 (ybe (upR d1.out))) (ybe (upR e7.out))) (ybe (upR f5.out))) (yau (by repeat (first | (with_reducible first | exact HB.out | apply yaf | apply yac | apply yae | refine yag ?_ (Aside0.out ‹_›)) | exact HB.out))))
     have n4_ := yaa (yad (g := b9) (o := .cells #[.int .i64 a0_0, .int .i64 a0_1, .slice A0_2 l0_2.length c0_2] 44 (0, 0)) (upB a9.out) hb)
     have n5_ := yaa (yad (g := b8) (o := .cells #[.int .i64 a1_0, .int .i64 a1_1, .int .i64 a1_2, .int .i64 a1_3, .int .i64 a1_4] 45 (0, 0)) (upB a8.out) hb)
     have n6_ := yaa (yad (g := b6) (o := .cells #[.int .i64 d8, .int .i64 e0, .slice e4 d0.length e2] 25 (0, 0)) (upB b3.out) hb)
     have n7_ := yaa (yad (g := c3) (o := .cells #[.int .i64 e9, .int .i64 f1, .slice d6 f0.length d7] 25 (0, 0)) (upB b4.out) hb)
     have n8_ := yaa (yad (g := b7) (o := .cells #[.int .i64 0, .int .i64 0, .slice none 0 0] 25 (0, 0)) (upB b5.out) hb)
     have n9_ := yaa (yas (by repeat (first | (with_reducible first | exact HB.out | apply yaf | apply yac | apply yae | refine yag ?_ (Aside0.out ‹_›)) | exact HB.out)) hb)
     clear d1 e7 f5 a9 a8 b3 b4 b5 HB
     have d1 := n0_
     have e7 := n1_
     have f5 := n2_
     have i5 := n3_
     have a9 := n4_
     have a8 := n5_
     have b3 := n6_
     have b4 := n7_
     have b5 := n8_
     have HB := n9_
     clear n0_ n1_ n2_ n3_ n4_ n5_ n6_ n7_ n8_ n9_
     (try clear hb)
     (try clear hb2)
     (try clear hk)
     (try clear hi)
     (try clear ho0)
     refine hK.out _ _ ⟨(yab b4.out 0).trans rfl, (yab b4.out 1).trans rfl, (yab b4.out 2).trans rfl, (yab a8.out 0).trans rfl, (yab a8.out 1).trans rfl, (yab a8.out 2).trans rfl, (yab a8.out 3).trans rfl, (yab a8.out 4).trans rfl⟩ (fun hHeld => ?_)
     clear hK K
     refine ybh (a' := ?_) ?_ ?_
     rotate_left
     ·
      show Act.put _ (some 35) _ = _
      simp only [Act.put, List.setIfInBounds_toArray, List.set_cons_zero, List.set_cons_succ, i64_w, i32_w]
      rfl
     refine pz_ 4 31 q7_30 HT_ (by kernel_rfl) ?_
     refine pz_ 5 36 q7_31 HT_ (by kernel_rfl) ?_
     refine pz_ 6 37 q7_21 HT_ (by kernel_rfl) ?_
     exact ybh (by simp only [putAll, Act.put, List.setIfInBounds_toArray, List.set_cons_zero, List.set_cons_succ]) (hCont (o9, b7) _ ⟨hHeld, (by (with_reducible repeat (first | apply yah | apply yai | apply yak)); exact yal d1.out (fun _ hk => ⟨hk.1.1, ⟨hk.1.2, hk.2⟩⟩)), (by (with_reducible repeat (first | apply yah | apply yai | apply yak)); exact yal e7.out (fun _ hk => ⟨hk.1.1, ⟨hk.1.2, hk.2⟩⟩)), (by (with_reducible repeat (first | apply yah | apply yai | apply yak)); exact yal f5.out (fun _ hk => ⟨hk.1.1, ⟨hk.1.2, hk.2⟩⟩)), (by (with_reducible repeat (first | apply yah | apply yai | apply yak)); exact yal i5.out (fun _ hk => ⟨hk.1.1.2, ⟨hk.1.2, hk.2⟩⟩)), (upB a9.out), (upB a8.out), (upB b3.out), (upB b4.out), (upB b5.out), p4.out, p5.out, f8.out, g7.out, d3.out, g8.out, f6.out, g5.out, e3.out, g6.out, (by repeat (first | (with_reducible first | exact HB.out | apply yaf | apply yac | apply yae | refine yag ?_ (Aside0.out ‹_›)) | exact HB.out))⟩)
   ·
    skip
    refine box_step ?hg (N := 9) ?hd (cs := #[.int .i64 0, .int .i64 0, .slice none 0 0]) (t := 25) ?hr ?_; (case hd => rfl); (case hg => rfl); (case hr => first | (go_simp; done) | (go_simp; rfl))
    intro b7 hg w44 hbox hb
    have n0_ := yaa (yaj (upR d1.out) hb)
    have n1_ := yaa (yaj (upR e7.out) hb)
    have n2_ := yaa (yaj (upR f5.out) hb)
    have n3_ := yaa (yad (g := b9) (o := .cells #[.int .i64 a0_0, .int .i64 a0_1, .slice A0_2 l0_2.length c0_2] 44 (0, 0)) (upB a9.out) hb)
    have n4_ := yaa (yad (g := b8) (o := .cells #[.int .i64 a1_0, .int .i64 a1_1, .int .i64 a1_2, .int .i64 a1_3, .int .i64 a1_4] 45 (0, 0)) (upB a8.out) hb)
    have n5_ := yaa (yad (g := b6) (o := .cells #[.int .i64 d8, .int .i64 e0, .slice e4 d0.length e2] 25 (0, 0)) (upB b3.out) hb)
    have n6_ := yaa (yad (g := c3) (o := .cells #[.int .i64 e9, .int .i64 f1, .slice d6 f0.length d7] 25 (0, 0)) (upB b4.out) hb)
    have n7_ := yaa (yas (by repeat (first | (with_reducible first | exact HB.out | apply yaf | apply yac | apply yae | refine yag ?_ (Aside0.out ‹_›)) | exact HB.out)) hb)
    have n8_ := yaa (hbox)
    have n9_ := yaa ((by rw [hg]; exact (yau (by repeat (first | (with_reducible first | exact HB.out | apply yaf | apply yac | apply yae | refine yag ?_ (Aside0.out ‹_›)) | exact HB.out))) : w.heap.size ≤ b7))
    have g0 := yaa ((by rw [hg]; exact (yau (by repeat (first | (with_reducible first | exact HB.out | apply yaf | apply yac | apply yae | refine yag ?_ (Aside0.out ‹_›)) | exact HB.out))) : w.heap.size ≤ b7))
    have h1 := yaa ((by rw [hg]; exact Nat.ne_of_lt (yay (g := b9) (o := .cells #[.int .i64 a0_0, .int .i64 a0_1, .slice A0_2 l0_2.length c0_2] 44 (0, 0)) (upB a9.out)) : b9 ≠ b7))
    have i9 := yaa ((by rw [hg]; exact Nat.ne_of_gt (yay (g := b9) (o := .cells #[.int .i64 a0_0, .int .i64 a0_1, .slice A0_2 l0_2.length c0_2] 44 (0, 0)) (upB a9.out)) : b7 ≠ b9))
    have j3 := yaa ((by rw [hg]; exact Nat.ne_of_lt (yay (g := b8) (o := .cells #[.int .i64 a1_0, .int .i64 a1_1, .int .i64 a1_2, .int .i64 a1_3, .int .i64 a1_4] 45 (0, 0)) (upB a8.out)) : b8 ≠ b7))
    have j4 := yaa ((by rw [hg]; exact Nat.ne_of_gt (yay (g := b8) (o := .cells #[.int .i64 a1_0, .int .i64 a1_1, .int .i64 a1_2, .int .i64 a1_3, .int .i64 a1_4] 45 (0, 0)) (upB a8.out)) : b7 ≠ b8))
    have j5 := yaa ((by rw [hg]; exact Nat.ne_of_lt (yay (g := b6) (o := .cells #[.int .i64 d8, .int .i64 e0, .slice e4 d0.length e2] 25 (0, 0)) (upB b3.out)) : b6 ≠ b7))
    have j6 := yaa ((by rw [hg]; exact Nat.ne_of_gt (yay (g := b6) (o := .cells #[.int .i64 d8, .int .i64 e0, .slice e4 d0.length e2] 25 (0, 0)) (upB b3.out)) : b7 ≠ b6))
    have j7 := yaa ((by rw [hg]; exact Nat.ne_of_lt (yay (g := c3) (o := .cells #[.int .i64 e9, .int .i64 f1, .slice d6 f0.length d7] 25 (0, 0)) (upB b4.out)) : c3 ≠ b7))
    have j8 := yaa ((by rw [hg]; exact Nat.ne_of_gt (yay (g := c3) (o := .cells #[.int .i64 e9, .int .i64 f1, .slice d6 f0.length d7] 25 (0, 0)) (upB b4.out)) : b7 ≠ c3))
    clear d1 e7 f5 a9 a8 b3 b4 HB
    have d1 := n0_
    have e7 := n1_
    have f5 := n2_
    have a9 := n3_
    have a8 := n4_
    have b3 := n5_
    have b4 := n6_
    have HB := n7_
    have b5 := n8_
    have p4 := n9_
    have p5 := g0
    have f8 := h1
    have g7 := i9
    have d3 := j3
    have g8 := j4
    have f6 := j5
    have g5 := j6
    have e3 := j7
    have g6 := j8
    clear n0_ n1_ n2_ n3_ n4_ n5_ n6_ n7_ n8_ n9_ g0 h1 i9 j3 j4 j5 j6 j7 j8 hb hbox hg
    refine hK.out _ _ ⟨(yab b4.out 0).trans rfl, (yab b4.out 1).trans rfl, (yab b4.out 2).trans rfl, (yab a8.out 0).trans rfl, (yab a8.out 1).trans rfl, (yab a8.out 2).trans rfl, (yab a8.out 3).trans rfl, (yab a8.out 4).trans rfl⟩ (fun hHeld => ?_)
    clear hK K
    refine ybh (a' := ?_) ?_ ?_
    rotate_left
    ·
     show Act.put _ (some 9) _ = _
     simp only [Act.put, List.setIfInBounds_toArray, List.set_cons_zero, List.set_cons_succ, i64_w, i32_w]
     rfl
    refine one_ (i := 2) (N := some 34) q7_25 rfl rfl (one_of HT_.out (by kernel_rfl)) (by decide) (fun K hK => ?_)
    refine goes_ Try.func22 (by kernel_rfl) rfl #[.agg #[.int .i64 a1_0, .int .i64 a1_1, .int .i64 a1_2, .int .i64 a1_3, .int .i64 a1_4]] (by rfl) rfl rfl (by (try simp only [List.map_toArray, List.map_cons, List.map_nil]); first | done | rfl | (simp only [List.length_drop, List.length_take]; rfl)) ?_
    with_reducible refine (laws_toOpOp.calls a1_0 a1_1 a1_2 a1_3 a1_4 p8 p9 q0 q1 q2 _ A14.out).mono ?_
    rintro e w45 ⟨rfl, hb⟩
    refine ⟨_, rfl, ?_⟩
    have n0_ := yaa (yaj (upR d1.out) hb)
    have n1_ := yaa (yaj (upR e7.out) hb)
    have n2_ := yaa (yaj (upR f5.out) hb)
    have n3_ := yaa (yad (g := b9) (o := .cells #[.int .i64 a0_0, .int .i64 a0_1, .slice A0_2 l0_2.length c0_2] 44 (0, 0)) (upB a9.out) hb)
    have n4_ := yaa (yad (g := b8) (o := .cells #[.int .i64 a1_0, .int .i64 a1_1, .int .i64 a1_2, .int .i64 a1_3, .int .i64 a1_4] 45 (0, 0)) (upB a8.out) hb)
    have n5_ := yaa (yad (g := b6) (o := .cells #[.int .i64 d8, .int .i64 e0, .slice e4 d0.length e2] 25 (0, 0)) (upB b3.out) hb)
    have n6_ := yaa (yad (g := c3) (o := .cells #[.int .i64 e9, .int .i64 f1, .slice d6 f0.length d7] 25 (0, 0)) (upB b4.out) hb)
    have n7_ := yaa (yad (g := b7) (o := .cells #[.int .i64 0, .int .i64 0, .slice none 0 0] 25 (0, 0)) (upB b5.out) hb)
    have n8_ := yaa (yas (by repeat (first | (with_reducible first | exact HB.out | apply yaf | apply yac | apply yae | refine yag ?_ (Aside0.out ‹_›)) | exact HB.out)) hb)
    clear d1 e7 f5 a9 a8 b3 b4 b5 HB
    have d1 := n0_
    have e7 := n1_
    have f5 := n2_
    have a9 := n3_
    have a8 := n4_
    have b3 := n5_
    have b4 := n6_
    have b5 := n7_
    have HB := n8_
    clear n0_ n1_ n2_ n3_ n4_ n5_ n6_ n7_ n8_
    (try clear hb)
    (try clear hb2)
    (try clear hk)
    (try clear hi)
    refine hK.out _ _ ⟨(yab b4.out 0).trans rfl, (yab b4.out 1).trans rfl, (yab b4.out 2).trans rfl, (yab a8.out 0).trans rfl, (yab a8.out 1).trans rfl, (yab a8.out 2).trans rfl, (yab a8.out 3).trans rfl, (yab a8.out 4).trans rfl⟩ (fun hHeld => ?_)
    clear hK K
    refine ybh (a' := ?_) ?_ ?_
    rotate_left
    ·
     show Act.put _ (some 34) _ = _
     simp only [Act.put, List.setIfInBounds_toArray, List.set_cons_zero, List.set_cons_succ, i64_w, i32_w]
     rfl
    refine one_ (i := 3) (N := some 35) q7_29 rfl rfl (one_of HT_.out (by kernel_rfl)) (by decide) (fun K hK => ?_)
    refine goes_ Try.func11 (by kernel_rfl) rfl #[.agg #[.int .i64 e9, .int .i64 f1, .slice d6 f0.length d7], .agg #[.int .i64 p8, .int .i64 p9, .int .i64 q0, .int .i64 q1, .int .i64 q2]] (by rfl) rfl rfl (by (try simp only [List.map_toArray, List.map_cons, List.map_nil]); first | done | rfl | (simp only [List.length_drop, List.length_take]; rfl)) ?_
    with_reducible refine (impl_OpDo.calls e9 f1 _ _ f0 p8 p9 q0 q1 q2 d9 e1 d2 j9 _ ?side1 ?side2 A15.out).mono ?_
    (case side1 => repeat (first | exact (yar f5.out).2.2 | (with_reducible refine ybc ?_ _) | (with_reducible refine ybd ?_ _) | (with_reducible refine ybf ?_)))
    (case side2 => exact (yar f5.out).2.1)
    rintro e w46 ⟨o9, rfl, ho0, hb⟩
    refine ⟨_, rfl, ?_⟩
    have n0_ := yaa (yav (upR d1.out) (yaz ho0) hb)
    have n1_ := yaa (yav (upR e7.out) (yaz ho0) hb)
    have n2_ := yaa (yav (upR f5.out) (yaz ho0) hb)
    have n3_ := yaa (ybg (yba (yba (yba ho0 (ybe (upR d1.out))) (ybe (upR e7.out))) (ybe (upR f5.out))) (yau (by repeat (first | (with_reducible first | exact HB.out | apply yaf | apply yac | apply yae | refine yag ?_ (Aside0.out ‹_›)) | exact HB.out))))
    have n4_ := yaa (yad (g := b9) (o := .cells #[.int .i64 a0_0, .int .i64 a0_1, .slice A0_2 l0_2.length c0_2] 44 (0, 0)) (upB a9.out) hb)
    have n5_ := yaa (yad (g := b8) (o := .cells #[.int .i64 a1_0, .int .i64 a1_1, .int .i64 a1_2, .int .i64 a1_3, .int .i64 a1_4] 45 (0, 0)) (upB a8.out) hb)
    have n6_ := yaa (yad (g := b6) (o := .cells #[.int .i64 d8, .int .i64 e0, .slice e4 d0.length e2] 25 (0, 0)) (upB b3.out) hb)
    have n7_ := yaa (yad (g := c3) (o := .cells #[.int .i64 e9, .int .i64 f1, .slice d6 f0.length d7] 25 (0, 0)) (upB b4.out) hb)
    have n8_ := yaa (yad (g := b7) (o := .cells #[.int .i64 0, .int .i64 0, .slice none 0 0] 25 (0, 0)) (upB b5.out) hb)
    have n9_ := yaa (yas (by repeat (first | (with_reducible first | exact HB.out | apply yaf | apply yac | apply yae | refine yag ?_ (Aside0.out ‹_›)) | exact HB.out)) hb)
    clear d1 e7 f5 a9 a8 b3 b4 b5 HB
    have d1 := n0_
    have e7 := n1_
    have f5 := n2_
    have i5 := n3_
    have a9 := n4_
    have a8 := n5_
    have b3 := n6_
    have b4 := n7_
    have b5 := n8_
    have HB := n9_
    clear n0_ n1_ n2_ n3_ n4_ n5_ n6_ n7_ n8_ n9_
    (try clear hb)
    (try clear hb2)
    (try clear hk)
    (try clear hi)
    (try clear ho0)
    refine hK.out _ _ ⟨(yab b4.out 0).trans rfl, (yab b4.out 1).trans rfl, (yab b4.out 2).trans rfl, (yab a8.out 0).trans rfl, (yab a8.out 1).trans rfl, (yab a8.out 2).trans rfl, (yab a8.out 3).trans rfl, (yab a8.out 4).trans rfl⟩ (fun hHeld => ?_)
    clear hK K
    refine ybh (a' := ?_) ?_ ?_
    rotate_left
    ·
     show Act.put _ (some 35) _ = _
     simp only [Act.put, List.setIfInBounds_toArray, List.set_cons_zero, List.set_cons_succ, i64_w, i32_w]
     rfl
    refine pz_ 4 31 q7_30 HT_ (by kernel_rfl) ?_
    refine pz_ 5 36 q7_31 HT_ (by kernel_rfl) ?_
    refine pz_ 6 37 q7_21 HT_ (by kernel_rfl) ?_
    exact ybh (by simp only [putAll, Act.put, List.setIfInBounds_toArray, List.set_cons_zero, List.set_cons_succ]) (hCont (o9, b7) _ ⟨hHeld, (by (with_reducible repeat (first | apply yah | apply yai | apply yak)); exact yal d1.out (fun _ hk => ⟨hk.1.1, ⟨hk.1.2, hk.2⟩⟩)), (by (with_reducible repeat (first | apply yah | apply yai | apply yak)); exact yal e7.out (fun _ hk => ⟨hk.1.1, ⟨hk.1.2, hk.2⟩⟩)), (by (with_reducible repeat (first | apply yah | apply yai | apply yak)); exact yal f5.out (fun _ hk => ⟨hk.1.1, ⟨hk.1.2, hk.2⟩⟩)), (by (with_reducible repeat (first | apply yah | apply yai | apply yak)); exact yal i5.out (fun _ hk => ⟨hk.1.1.2, ⟨hk.1.2, hk.2⟩⟩)), (upB a9.out), (upB a8.out), (upB b3.out), (upB b4.out), (upB b5.out), p4.out, p5.out, f8.out, g7.out, d3.out, g8.out, f6.out, g5.out, e3.out, g6.out, (by repeat (first | (with_reducible first | exact HB.out | apply yaf | apply yac | apply yae | refine yag ?_ (Aside0.out ‹_›)) | exact HB.out))⟩)
  rintro ⟨o9, b7⟩ w47 ⟨hS_, h0_, h1_, h2_, h3_, h4_, h5_, h6_, h7_, h8_, h9_, h10_, h11_, h12_, h13_, h14_, h15_, h16_, h17_, h18_, h19_⟩
  have n0_ : yaw (Kd.R k36 36 w47 w.heap.size (fun k_ => some k_ ≠ (.slice e4 d0.length e2 : Value).ownBlock ∧ some k_ ≠ (.slice d6 f0.length d7 : Value).ownBlock ∧ some k_ ≠ (o9 : Value).ownBlock) k7 k6) := ⟨h0_⟩
  have n1_ : yaw (Kd.R k36 36 w47 w.heap.size (fun k_ => some k_ ≠ (k7 : Value).ownBlock ∧ some k_ ≠ (.slice d6 f0.length d7 : Value).ownBlock ∧ some k_ ≠ (o9 : Value).ownBlock) (.slice e4 d0.length e2) d0) := ⟨h1_⟩
  have n2_ : yaw (Kd.R k36 36 w47 w.heap.size (fun k_ => some k_ ≠ (k7 : Value).ownBlock ∧ some k_ ≠ (.slice e4 d0.length e2 : Value).ownBlock ∧ some k_ ≠ (o9 : Value).ownBlock) (.slice d6 f0.length d7) f0) := ⟨h2_⟩
  have n3_ : yaw (Kd.R k36 36 w47 w.heap.size (fun k_ => some k_ ≠ (k7 : Value).ownBlock ∧ some k_ ≠ (.slice e4 d0.length e2 : Value).ownBlock ∧ some k_ ≠ (.slice d6 f0.length d7 : Value).ownBlock) o9 d2) := ⟨h3_⟩
  have n4_ : yaw (w47.heap[b9]? = some (.cells #[.int .i64 a0_0, .int .i64 a0_1, .slice A0_2 l0_2.length c0_2] 44 (0, 0))) := ⟨h4_⟩
  have n5_ : yaw (w47.heap[b8]? = some (.cells #[.int .i64 a1_0, .int .i64 a1_1, .int .i64 a1_2, .int .i64 a1_3, .int .i64 a1_4] 45 (0, 0))) := ⟨h5_⟩
  have n6_ : yaw (w47.heap[b6]? = some (.cells #[.int .i64 d8, .int .i64 e0, .slice e4 d0.length e2] 25 (0, 0))) := ⟨h6_⟩
  have n7_ : yaw (w47.heap[c3]? = some (.cells #[.int .i64 e9, .int .i64 f1, .slice d6 f0.length d7] 25 (0, 0))) := ⟨h7_⟩
  have n8_ : yaw (w47.heap[b7]? = some (.cells #[.int .i64 0, .int .i64 0, .slice none 0 0] 25 (0, 0))) := ⟨h8_⟩
  have n9_ : yaw (w.heap.size ≤ b7) := ⟨h9_⟩
  have g0 : yaw (w.heap.size ≤ b7) := ⟨h10_⟩
  have h1 : yaw (b9 ≠ b7) := ⟨h11_⟩
  have i9 : yaw (b7 ≠ b9) := ⟨h12_⟩
  have j3 : yaw (b8 ≠ b7) := ⟨h13_⟩
  have j4 : yaw (b7 ≠ b8) := ⟨h14_⟩
  have j5 : yaw (b6 ≠ b7) := ⟨h15_⟩
  have j6 : yaw (b7 ≠ b6) := ⟨h16_⟩
  have j7 : yaw (c3 ≠ b7) := ⟨h17_⟩
  have j8 : yaw (b7 ≠ c3) := ⟨h18_⟩
  have k5 : yaw (Below w.heap.size w w47) := ⟨h19_⟩
  clear d1 e7 f5 a9 a8 b3 b4 HB h0_ h1_ h2_ h3_ h4_ h5_ h6_ h7_ h8_ h9_ h10_ h11_ h12_ h13_ h14_ h15_ h16_ h17_ h18_ h19_
  have d1 := n0_
  have e7 := n1_
  have f5 := n2_
  have i5 := n3_
  have a9 := n4_
  have a8 := n5_
  have b3 := n6_
  have b4 := n7_
  have b5 := n8_
  have p4 := n9_
  have p5 := g0
  have f8 := h1
  have g7 := i9
  have d3 := j3
  have g8 := j4
  have f6 := j5
  have g5 := j6
  have e3 := j7
  have g6 := j8
  have HB := k5
  clear n0_ n1_ n2_ n3_ n4_ n5_ n6_ n7_ n8_ n9_ g0 h1 i9 j3 j4 j5 j6 j7 j8 k5
  have hHeld : w47.cell? ⟨c3, 0, none⟩ = some (.int .i64 e9) ∧ w47.cell? ⟨c3, 1, none⟩ = some (.int .i64 f1) ∧ w47.cell? ⟨c3, 2, none⟩ = some (.slice d6 f0.length d7) ∧ w47.cell? ⟨b8, 0, none⟩ = some (.int .i64 a1_0) ∧ w47.cell? ⟨b8, 1, none⟩ = some (.int .i64 a1_1) ∧ w47.cell? ⟨b8, 2, none⟩ = some (.int .i64 a1_2) ∧ w47.cell? ⟨b8, 3, none⟩ = some (.int .i64 a1_3) ∧ w47.cell? ⟨b8, 4, none⟩ = some (.int .i64 a1_4) := hS_
  obtain ⟨f3, f2, G2⟩ := Kd.R_slice i5.out
  (first | subst G2 | (injection G2 with f1_ f2_ f3_; have f4_ := f1_.symm; have f5_ := f3_.symm; clear f1_ f2_ f3_; subst f4_; subst f5_))
  refine ybh (a' := ?_) ?_ ?_
  rotate_left
  ·
   simp only [putAll, Act.put, List.setIfInBounds_toArray, List.set_cons_zero, List.set_cons_succ]
   rfl
  refine one_ (i := 8) (N := none) q7_32 rfl rfl (one_of HT_.out (by kernel_rfl)) (by decide) (fun K hK => ?_)
  have cY : w47.cell? ⟨b7, 0, none⟩ = some (.int .i64 0) := (yab b5.out 0).trans rfl
  have aQ := yaq b5.out 0
  have P0 := f8.out
  have P1 := d3.out
  have P2 := f6.out
  have P3 := e3.out
  have P4 := g7.out
  have P5 := g8.out
  have P6 := g5.out
  have P7 := g6.out
  have cZ : w47.cell? ⟨b7, 1, none⟩ = some (.int .i64 0) := (yab b5.out 1).trans rfl
  have aR := yaq b5.out 1
  have P8 := f8.out
  have P9 := d3.out
  have Q0 := f6.out
  have Q1 := e3.out
  have Q3 := g7.out
  have Q4 := g8.out
  have Q5 := g5.out
  have Q6 := g6.out
  have dA : w47.cell? ⟨b7, 2, none⟩ = some (.slice none 0 0) := (yab b5.out 2).trans rfl
  have aS := yaq b5.out 2
  have Q7 := f8.out
  have Q8 := d3.out
  have Q9 := f6.out
  have R0 := e3.out
  have R1 := g7.out
  have R2 := g8.out
  have R3 := g5.out
  have R4 := g6.out
  refine skip_ (w1 := ?_) (by rfl) rfl ?_ ?_
  rotate_left
  ·
   go_simp
   rfl
  refine hK.out _ _ ⟨((yat (p := ⟨b7, _, none⟩) e3.out _).trans (((yat (p := ⟨b7, _, none⟩) e3.out _).trans (((yat (p := ⟨b7, _, none⟩) e3.out _).trans (hHeld.1)))))), ((yat (p := ⟨b7, _, none⟩) e3.out _).trans (((yat (p := ⟨b7, _, none⟩) e3.out _).trans (((yat (p := ⟨b7, _, none⟩) e3.out _).trans (hHeld.2.1)))))), ((yat (p := ⟨b7, _, none⟩) e3.out _).trans (((yat (p := ⟨b7, _, none⟩) e3.out _).trans (((yat (p := ⟨b7, _, none⟩) e3.out _).trans (hHeld.2.2.1)))))), ((yat (p := ⟨b7, _, none⟩) d3.out _).trans (((yat (p := ⟨b7, _, none⟩) d3.out _).trans (((yat (p := ⟨b7, _, none⟩) d3.out _).trans (hHeld.2.2.2.1)))))), ((yat (p := ⟨b7, _, none⟩) d3.out _).trans (((yat (p := ⟨b7, _, none⟩) d3.out _).trans (((yat (p := ⟨b7, _, none⟩) d3.out _).trans (hHeld.2.2.2.2.1)))))), ((yat (p := ⟨b7, _, none⟩) d3.out _).trans (((yat (p := ⟨b7, _, none⟩) d3.out _).trans (((yat (p := ⟨b7, _, none⟩) d3.out _).trans (hHeld.2.2.2.2.2.1)))))), ((yat (p := ⟨b7, _, none⟩) d3.out _).trans (((yat (p := ⟨b7, _, none⟩) d3.out _).trans (((yat (p := ⟨b7, _, none⟩) d3.out _).trans (hHeld.2.2.2.2.2.2.1)))))), ((yat (p := ⟨b7, _, none⟩) d3.out _).trans (((yat (p := ⟨b7, _, none⟩) d3.out _).trans (((yat (p := ⟨b7, _, none⟩) d3.out _).trans (hHeld.2.2.2.2.2.2.2))))))⟩ (fun hHeld => ?_)
  clear hK K
  refine pz_ 9 10 q7_33 HT_ (by kernel_rfl) ?_
  refine done_ (done_of HT_.out (by kernel_rfl)) ?_
  go_upto_region 8 with (fail)
  go_cut [46] (fun v46 wc => ∃ (kq : Nat) (q3 : Bool), v46 = .bool q3 ∧ yaw (laws_FnExactOpDo.j0 kq h2 j9 q3 a0_0 a0_1 l0_2 a1_0 a1_1 a1_2 a1_3 a1_4 d8 e0 d0 e9 f1 f0 d9 e1 d2 = some r) ∧ yaw (kq ≤ k) ∧ yaw (Kd.R k36 36 wc w.heap.size (fun k_ => some k_ ≠ ((.slice d6 f0.length d7) : Value).ownBlock ∧ some k_ ≠ ((.slice f3 d2.length f2) : Value).ownBlock) (.slice e4 d0.length e2) d0) ∧ yaw (Kd.R k36 36 wc w.heap.size (fun k_ => some k_ ≠ ((.slice e4 d0.length e2) : Value).ownBlock ∧ some k_ ≠ ((.slice f3 d2.length f2) : Value).ownBlock) (.slice d6 f0.length d7) f0) ∧ yaw (Kd.R k36 36 wc w.heap.size (fun k_ => some k_ ≠ ((.slice e4 d0.length e2) : Value).ownBlock ∧ some k_ ≠ ((.slice d6 f0.length d7) : Value).ownBlock) (.slice f3 d2.length f2) d2) ∧ yaw (wc.heap[b9]? = some (.cells #[.int .i64 a0_0, .int .i64 a0_1, (.slice A0_2 l0_2.length c0_2)] 44 (0, 0))) ∧ yaw (wc.heap[b8]? = some (.cells #[.int .i64 a1_0, .int .i64 a1_1, .int .i64 a1_2, .int .i64 a1_3, .int .i64 a1_4] 45 (0, 0))) ∧ yaw (wc.heap[b6]? = some (.cells #[.int .i64 d8, .int .i64 e0, (.slice e4 d0.length e2)] 25 (0, 0))) ∧ yaw (wc.heap[c3]? = some (.cells #[.int .i64 e9, .int .i64 f1, (.slice d6 f0.length d7)] 25 (0, 0))) ∧ yaw (wc.heap[b7]? = some (.cells #[.int .i64 d9, .int .i64 e1, (.slice f3 d2.length f2)] 25 (0, 0))) ∧ yaw (Below w.heap.size w wc))
  case first =>
   have H := HC16.out
   clear HC16
   replace H := Option.bind_eq_some_iff.mp H
   obtain ⟨q6, G3, H⟩ := H
   replace H : (if q6 = true then (laws_FnExactOpDo.j0 k h2 j9 (j9 != h2) a0_0 a0_1 l0_2 a1_0 a1_1 a1_2 a1_3 a1_4 d8 e0 d0 e9 f1 f0 d9 e1 d2) else (laws_FnExactOpDo.j0 k h2 j9 true a0_0 a0_1 l0_2 a1_0 a1_1 a1_2 a1_3 a1_4 d8 e0 d0 e9 f1 f0 d9 e1 d2)) = some r := H
   have A52 := yaa G3
   clear G3
   by_cases c53 : q6 = true
   ·
    subst c53
    have H1 : (laws_FnExactOpDo.j0 k h2 j9 (j9 != h2) a0_0 a0_1 l0_2 a1_0 a1_1 a1_2 a1_3 a1_4 d8 e0 d0 e9 f1 f0 d9 e1 d2) = some r := by rw [if_pos rfl] at H; exact H
    clear H
    have H := H1
    clear H1
    have H' := yaa H
    clear H
    have aT := g7.out
    have aU := f8.out
    have aV := g8.out
    have aW := d3.out
    have aX := g5.out
    have aY := f6.out
    have aZ := g6.out
    have bA := e3.out
    have r5 : w47.cell? ⟨b7, 0, none⟩ = some (.int .i64 0) := (yab b5.out 0).trans rfl
    have r6 : w47.cell? ⟨b7, 1, none⟩ = some (.int .i64 0) := (yab b5.out 1).trans rfl
    have r7 : w47.cell? ⟨b7, 2, none⟩ = some (.slice none 0 0) := (yab b5.out 2).trans rfl
    have r8 := yaq b5.out 0
    have r9 := yaq b5.out 1
    have s6 := yaq b5.out 2
    have bB := g3.out
    have bC := e5.out
    have bD := g4.out
    have bE := d4.out
    have bF := h8.out
    have bG := i7.out
    have s7 : w47.cell? ⟨b6, 0, none⟩ = some (.int .i64 d8) := (yab b3.out 0).trans rfl
    have s8 : w47.cell? ⟨b6, 1, none⟩ = some (.int .i64 e0) := (yab b3.out 1).trans rfl
    have s9 : w47.cell? ⟨b6, 2, none⟩ = some (.slice e4 d0.length e2) := (yab b3.out 2).trans rfl
    have t0 := yaq b3.out 0
    have t1 := yaq b3.out 1
    have t2 := yaq b3.out 2
    go_wp2_with (first | ((with_reducible refine gate_callee (f := 23) rfl ?_); refine goesL_ (some 40) rfl rfl Try.func23 (by kernel_rfl) rfl #[.agg #[.int .i64 d9, .int .i64 e1, .slice f3 d2.length f2], .agg #[.int .i64 d8, .int .i64 e0, .slice e4 d0.length e2]] rfl (by (try simp only [List.map_toArray, List.map_cons, List.map_nil]); first | done | rfl | (simp only [List.length_drop, List.length_take]; rfl)) ?_; (with_reducible refine (laws_eqRasRaster.calls k d9 e1 _ _ d2 d8 e0 _ _ d0 true _ ?side1 ?side2 ?side3 ?side4 A52.out).mono ?_); (case side1 => refine (yar (e := 36) (base := w.heap.size) (ok := fun k_ => (some k_ ≠ (k7 : Value).ownBlock ∧ (some k_ ≠ (.slice e4 d0.length e2 : Value).ownBlock ∧ some k_ ≠ (.slice d6 f0.length d7 : Value).ownBlock))) (n := d2.length) (c := f2) ?_).2.2; exact (by (with_reducible repeat (first | apply yah | apply yai | apply yak)); exact (yal (yap (p := ⟨b7, 2, none⟩) (yap (p := ⟨b7, 1, none⟩) (yap (p := ⟨b7, 0, none⟩) (ybb i5.out b5.out (by decide)) (fun _ hk => hk.2) (.int .i64 d9)) (fun _ hk => hk.2) (.int .i64 e1)) (fun _ hk => hk.2) (.slice f3 d2.length f2)) (fun _ h_ => h_.1)))); (case side2 => exact (yar i5.out).2.1); (case side3 => refine (yar (e := 36) (base := w.heap.size) (ok := fun k_ => (some k_ ≠ (k7 : Value).ownBlock ∧ (some k_ ≠ (.slice d6 f0.length d7 : Value).ownBlock ∧ some k_ ≠ (.slice f3 d2.length f2 : Value).ownBlock))) (n := d0.length) (c := e2) ?_).2.2; exact (by (with_reducible repeat (first | apply yah | apply yai | apply yak)); exact (yal (yap (p := ⟨b7, 2, none⟩) (yap (p := ⟨b7, 1, none⟩) (yap (p := ⟨b7, 0, none⟩) (ybb e7.out b5.out (by decide)) (fun _ hk => hk.2) (.int .i64 d9)) (fun _ hk => hk.2) (.int .i64 e1)) (fun _ hk => hk.2) (.slice f3 d2.length f2)) (fun _ h_ => h_.1)))); (case side4 => exact (yar e7.out).2.1); rintro e w63 ⟨rfl, hb⟩; refine ⟨_, rfl, ?_⟩; have n0_ := yaa (yaj (by (with_reducible repeat (first | apply yah | apply yai | apply yak)); exact (yal (yap (p := ⟨b7, 2, none⟩) (yap (p := ⟨b7, 1, none⟩) (yap (p := ⟨b7, 0, none⟩) (ybb d1.out b5.out (by decide)) (fun _ hk => hk.2) (.int .i64 d9)) (fun _ hk => hk.2) (.int .i64 e1)) (fun _ hk => hk.2) (.slice f3 d2.length f2)) (fun _ h_ => h_.1))) hb); have n1_ := yaa (yaj (by (with_reducible repeat (first | apply yah | apply yai | apply yak)); exact (yal (yap (p := ⟨b7, 2, none⟩) (yap (p := ⟨b7, 1, none⟩) (yap (p := ⟨b7, 0, none⟩) (ybb e7.out b5.out (by decide)) (fun _ hk => hk.2) (.int .i64 d9)) (fun _ hk => hk.2) (.int .i64 e1)) (fun _ hk => hk.2) (.slice f3 d2.length f2)) (fun _ h_ => h_.1))) hb); have n2_ := yaa (yaj (by (with_reducible repeat (first | apply yah | apply yai | apply yak)); exact (yal (yap (p := ⟨b7, 2, none⟩) (yap (p := ⟨b7, 1, none⟩) (yap (p := ⟨b7, 0, none⟩) (ybb f5.out b5.out (by decide)) (fun _ hk => hk.2) (.int .i64 d9)) (fun _ hk => hk.2) (.int .i64 e1)) (fun _ hk => hk.2) (.slice f3 d2.length f2)) (fun _ h_ => h_.1))) hb); have n3_ := yaa (yaj (by (with_reducible repeat (first | apply yah | apply yai | apply yak)); exact (yal (yap (p := ⟨b7, 2, none⟩) (yap (p := ⟨b7, 1, none⟩) (yap (p := ⟨b7, 0, none⟩) (ybb i5.out b5.out (by decide)) (fun _ hk => hk.2) (.int .i64 d9)) (fun _ hk => hk.2) (.int .i64 e1)) (fun _ hk => hk.2) (.slice f3 d2.length f2)) (fun _ h_ => h_.1))) hb); have n4_ := yaa (yad (g := b9) (o := .cells #[.int .i64 a0_0, .int .i64 a0_1, .slice A0_2 l0_2.length c0_2] 44 (0, 0)) (by (with_reducible repeat (first | refine yam ?_ _ | refine yao ?_ | refine yan ?_ _)); refine yax ?_ f8.out _; (with_reducible repeat (first | refine yam ?_ _ | refine yao ?_ | refine yan ?_ _)); refine yax ?_ f8.out _; (with_reducible repeat (first | refine yam ?_ _ | refine yao ?_ | refine yan ?_ _)); refine yax ?_ f8.out _; exact upB a9.out) hb); have n5_ := yaa (yad (g := b8) (o := .cells #[.int .i64 a1_0, .int .i64 a1_1, .int .i64 a1_2, .int .i64 a1_3, .int .i64 a1_4] 45 (0, 0)) (by (with_reducible repeat (first | refine yam ?_ _ | refine yao ?_ | refine yan ?_ _)); refine yax ?_ d3.out _; (with_reducible repeat (first | refine yam ?_ _ | refine yao ?_ | refine yan ?_ _)); refine yax ?_ d3.out _; (with_reducible repeat (first | refine yam ?_ _ | refine yao ?_ | refine yan ?_ _)); refine yax ?_ d3.out _; exact upB a8.out) hb); have n6_ := yaa (yad (g := b6) (o := .cells #[.int .i64 d8, .int .i64 e0, .slice e4 d0.length e2] 25 (0, 0)) (by (with_reducible repeat (first | refine yam ?_ _ | refine yao ?_ | refine yan ?_ _)); refine yax ?_ f6.out _; (with_reducible repeat (first | refine yam ?_ _ | refine yao ?_ | refine yan ?_ _)); refine yax ?_ f6.out _; (with_reducible repeat (first | refine yam ?_ _ | refine yao ?_ | refine yan ?_ _)); refine yax ?_ f6.out _; exact upB b3.out) hb); have n7_ := yaa (yad (g := c3) (o := .cells #[.int .i64 e9, .int .i64 f1, .slice d6 f0.length d7] 25 (0, 0)) (by (with_reducible repeat (first | refine yam ?_ _ | refine yao ?_ | refine yan ?_ _)); refine yax ?_ e3.out _; (with_reducible repeat (first | refine yam ?_ _ | refine yao ?_ | refine yan ?_ _)); refine yax ?_ e3.out _; (with_reducible repeat (first | refine yam ?_ _ | refine yao ?_ | refine yan ?_ _)); refine yax ?_ e3.out _; exact upB b4.out) hb); have n8_ := yaa (yad (g := b7) (o := .cells #[.int .i64 d9, .int .i64 e1, .slice f3 d2.length f2] 25 (0, 0)) (by (with_reducible repeat (first | refine yam ?_ _ | refine yao ?_ | refine yan ?_ _)); refine blk_put (cs := #[.int .i64 d9, .int .i64 e1, .slice none 0 0]) ?_ 2 _ rfl; (with_reducible repeat (first | refine yam ?_ _ | refine yao ?_ | refine yan ?_ _)); refine blk_put (cs := #[.int .i64 d9, .int .i64 0, .slice none 0 0]) ?_ 1 _ rfl; (with_reducible repeat (first | refine yam ?_ _ | refine yao ?_ | refine yan ?_ _)); refine blk_put (cs := #[.int .i64 0, .int .i64 0, .slice none 0 0]) ?_ 0 _ rfl; exact upB b5.out) hb); have n9_ := yaa (yas (by repeat (first | (with_reducible first | exact HB.out | apply yaf | apply yac | apply yae | refine yag ?_ (Aside0.out ‹_›)) | exact HB.out)) hb); clear d1; clear e7; clear f5; clear i5; clear a9; clear a8; clear b3; clear b4; clear b5; clear HB; have d1 := n0_; have e7 := n1_; have f5 := n2_; have i5 := n3_; have a9 := n4_; have a8 := n5_; have b3 := n6_; have b4 := n7_; have b5 := n8_; have HB := n9_; clear n0_ n1_ n2_ n3_ n4_ n5_ n6_ n7_ n8_ n9_; (try clear hb); (try clear hb2); (try clear hk); (try clear hi)))
    go_meet
    case rel => exact ⟨_, ((j9 != h2)), (by first | rfl | (simp; done) | (simp [*]; done)), H', ⟨by first | omega | exact Nat.le_refl _⟩, ⟨by (with_reducible repeat (first | apply yah | apply yai | apply yak)); exact yal e7.out (fun _ hk => ⟨hk.2.1, hk.2.2⟩)⟩, ⟨by (with_reducible repeat (first | apply yah | apply yai | apply yak)); exact yal f5.out (fun _ hk => ⟨hk.2.1, hk.2.2⟩)⟩, ⟨by (with_reducible repeat (first | apply yah | apply yai | apply yak)); exact yal i5.out (fun _ hk => ⟨hk.2.1, hk.2.2⟩)⟩, ⟨by exact upB a9.out⟩, ⟨by exact upB a8.out⟩, ⟨by exact upB b3.out⟩, ⟨by exact upB b4.out⟩, ⟨by exact upB b5.out⟩, ⟨by repeat (first | (with_reducible first | exact HB.out | apply yaf | apply yac | apply yae | refine yag ?_ (Aside0.out ‹_›)) | exact HB.out)⟩⟩
   ·
    replace c53 := Bool.eq_false_iff.mpr c53
    subst c53
    have H1 : (laws_FnExactOpDo.j0 k h2 j9 true a0_0 a0_1 l0_2 a1_0 a1_1 a1_2 a1_3 a1_4 d8 e0 d0 e9 f1 f0 d9 e1 d2) = some r := by rw [if_neg (show ¬ (false = true) by decide)] at H; exact H
    clear H
    have H := H1
    clear H1
    have H' := yaa H
    clear H
    have bH := g7.out
    have bI := f8.out
    have bJ := g8.out
    have bK := d3.out
    have bL := g5.out
    have bM := f6.out
    have bN := g6.out
    have bO := e3.out
    have t3 : w47.cell? ⟨b7, 0, none⟩ = some (.int .i64 0) := (yab b5.out 0).trans rfl
    have t4 : w47.cell? ⟨b7, 1, none⟩ = some (.int .i64 0) := (yab b5.out 1).trans rfl
    have t5 : w47.cell? ⟨b7, 2, none⟩ = some (.slice none 0 0) := (yab b5.out 2).trans rfl
    have t6 := yaq b5.out 0
    have t7 := yaq b5.out 1
    have t8 := yaq b5.out 2
    have bP := g3.out
    have bQ := e5.out
    have bR := g4.out
    have bS := d4.out
    have bT := h8.out
    have bU := i7.out
    have t9 : w47.cell? ⟨b6, 0, none⟩ = some (.int .i64 d8) := (yab b3.out 0).trans rfl
    have u0 : w47.cell? ⟨b6, 1, none⟩ = some (.int .i64 e0) := (yab b3.out 1).trans rfl
    have u1 : w47.cell? ⟨b6, 2, none⟩ = some (.slice e4 d0.length e2) := (yab b3.out 2).trans rfl
    have u2 := yaq b3.out 0
    have u3 := yaq b3.out 1
    have u4 := yaq b3.out 2
    go_wp2_with (first | ((with_reducible refine gate_callee (f := 23) rfl ?_); refine goesL_ (some 40) rfl rfl Try.func23 (by kernel_rfl) rfl #[.agg #[.int .i64 d9, .int .i64 e1, .slice f3 d2.length f2], .agg #[.int .i64 d8, .int .i64 e0, .slice e4 d0.length e2]] rfl (by (try simp only [List.map_toArray, List.map_cons, List.map_nil]); first | done | rfl | (simp only [List.length_drop, List.length_take]; rfl)) ?_; (with_reducible refine (laws_eqRasRaster.calls k d9 e1 _ _ d2 d8 e0 _ _ d0 false _ ?side1 ?side2 ?side3 ?side4 A52.out).mono ?_); (case side1 => refine (yar (e := 36) (base := w.heap.size) (ok := fun k_ => (some k_ ≠ (k7 : Value).ownBlock ∧ (some k_ ≠ (.slice e4 d0.length e2 : Value).ownBlock ∧ some k_ ≠ (.slice d6 f0.length d7 : Value).ownBlock))) (n := d2.length) (c := f2) ?_).2.2; exact (by (with_reducible repeat (first | apply yah | apply yai | apply yak)); exact (yal (yap (p := ⟨b7, 2, none⟩) (yap (p := ⟨b7, 1, none⟩) (yap (p := ⟨b7, 0, none⟩) (ybb i5.out b5.out (by decide)) (fun _ hk => hk.2) (.int .i64 d9)) (fun _ hk => hk.2) (.int .i64 e1)) (fun _ hk => hk.2) (.slice f3 d2.length f2)) (fun _ h_ => h_.1)))); (case side2 => exact (yar i5.out).2.1); (case side3 => refine (yar (e := 36) (base := w.heap.size) (ok := fun k_ => (some k_ ≠ (k7 : Value).ownBlock ∧ (some k_ ≠ (.slice d6 f0.length d7 : Value).ownBlock ∧ some k_ ≠ (.slice f3 d2.length f2 : Value).ownBlock))) (n := d0.length) (c := e2) ?_).2.2; exact (by (with_reducible repeat (first | apply yah | apply yai | apply yak)); exact (yal (yap (p := ⟨b7, 2, none⟩) (yap (p := ⟨b7, 1, none⟩) (yap (p := ⟨b7, 0, none⟩) (ybb e7.out b5.out (by decide)) (fun _ hk => hk.2) (.int .i64 d9)) (fun _ hk => hk.2) (.int .i64 e1)) (fun _ hk => hk.2) (.slice f3 d2.length f2)) (fun _ h_ => h_.1)))); (case side4 => exact (yar e7.out).2.1); rintro e w73 ⟨rfl, hb⟩; refine ⟨_, rfl, ?_⟩; have n0_ := yaa (yaj (by (with_reducible repeat (first | apply yah | apply yai | apply yak)); exact (yal (yap (p := ⟨b7, 2, none⟩) (yap (p := ⟨b7, 1, none⟩) (yap (p := ⟨b7, 0, none⟩) (ybb d1.out b5.out (by decide)) (fun _ hk => hk.2) (.int .i64 d9)) (fun _ hk => hk.2) (.int .i64 e1)) (fun _ hk => hk.2) (.slice f3 d2.length f2)) (fun _ h_ => h_.1))) hb); have n1_ := yaa (yaj (by (with_reducible repeat (first | apply yah | apply yai | apply yak)); exact (yal (yap (p := ⟨b7, 2, none⟩) (yap (p := ⟨b7, 1, none⟩) (yap (p := ⟨b7, 0, none⟩) (ybb e7.out b5.out (by decide)) (fun _ hk => hk.2) (.int .i64 d9)) (fun _ hk => hk.2) (.int .i64 e1)) (fun _ hk => hk.2) (.slice f3 d2.length f2)) (fun _ h_ => h_.1))) hb); have n2_ := yaa (yaj (by (with_reducible repeat (first | apply yah | apply yai | apply yak)); exact (yal (yap (p := ⟨b7, 2, none⟩) (yap (p := ⟨b7, 1, none⟩) (yap (p := ⟨b7, 0, none⟩) (ybb f5.out b5.out (by decide)) (fun _ hk => hk.2) (.int .i64 d9)) (fun _ hk => hk.2) (.int .i64 e1)) (fun _ hk => hk.2) (.slice f3 d2.length f2)) (fun _ h_ => h_.1))) hb); have n3_ := yaa (yaj (by (with_reducible repeat (first | apply yah | apply yai | apply yak)); exact (yal (yap (p := ⟨b7, 2, none⟩) (yap (p := ⟨b7, 1, none⟩) (yap (p := ⟨b7, 0, none⟩) (ybb i5.out b5.out (by decide)) (fun _ hk => hk.2) (.int .i64 d9)) (fun _ hk => hk.2) (.int .i64 e1)) (fun _ hk => hk.2) (.slice f3 d2.length f2)) (fun _ h_ => h_.1))) hb); have n4_ := yaa (yad (g := b9) (o := .cells #[.int .i64 a0_0, .int .i64 a0_1, .slice A0_2 l0_2.length c0_2] 44 (0, 0)) (by (with_reducible repeat (first | refine yam ?_ _ | refine yao ?_ | refine yan ?_ _)); refine yax ?_ f8.out _; (with_reducible repeat (first | refine yam ?_ _ | refine yao ?_ | refine yan ?_ _)); refine yax ?_ f8.out _; (with_reducible repeat (first | refine yam ?_ _ | refine yao ?_ | refine yan ?_ _)); refine yax ?_ f8.out _; exact upB a9.out) hb); have n5_ := yaa (yad (g := b8) (o := .cells #[.int .i64 a1_0, .int .i64 a1_1, .int .i64 a1_2, .int .i64 a1_3, .int .i64 a1_4] 45 (0, 0)) (by (with_reducible repeat (first | refine yam ?_ _ | refine yao ?_ | refine yan ?_ _)); refine yax ?_ d3.out _; (with_reducible repeat (first | refine yam ?_ _ | refine yao ?_ | refine yan ?_ _)); refine yax ?_ d3.out _; (with_reducible repeat (first | refine yam ?_ _ | refine yao ?_ | refine yan ?_ _)); refine yax ?_ d3.out _; exact upB a8.out) hb); have n6_ := yaa (yad (g := b6) (o := .cells #[.int .i64 d8, .int .i64 e0, .slice e4 d0.length e2] 25 (0, 0)) (by (with_reducible repeat (first | refine yam ?_ _ | refine yao ?_ | refine yan ?_ _)); refine yax ?_ f6.out _; (with_reducible repeat (first | refine yam ?_ _ | refine yao ?_ | refine yan ?_ _)); refine yax ?_ f6.out _; (with_reducible repeat (first | refine yam ?_ _ | refine yao ?_ | refine yan ?_ _)); refine yax ?_ f6.out _; exact upB b3.out) hb); have n7_ := yaa (yad (g := c3) (o := .cells #[.int .i64 e9, .int .i64 f1, .slice d6 f0.length d7] 25 (0, 0)) (by (with_reducible repeat (first | refine yam ?_ _ | refine yao ?_ | refine yan ?_ _)); refine yax ?_ e3.out _; (with_reducible repeat (first | refine yam ?_ _ | refine yao ?_ | refine yan ?_ _)); refine yax ?_ e3.out _; (with_reducible repeat (first | refine yam ?_ _ | refine yao ?_ | refine yan ?_ _)); refine yax ?_ e3.out _; exact upB b4.out) hb); have n8_ := yaa (yad (g := b7) (o := .cells #[.int .i64 d9, .int .i64 e1, .slice f3 d2.length f2] 25 (0, 0)) (by (with_reducible repeat (first | refine yam ?_ _ | refine yao ?_ | refine yan ?_ _)); refine blk_put (cs := #[.int .i64 d9, .int .i64 e1, .slice none 0 0]) ?_ 2 _ rfl; (with_reducible repeat (first | refine yam ?_ _ | refine yao ?_ | refine yan ?_ _)); refine blk_put (cs := #[.int .i64 d9, .int .i64 0, .slice none 0 0]) ?_ 1 _ rfl; (with_reducible repeat (first | refine yam ?_ _ | refine yao ?_ | refine yan ?_ _)); refine blk_put (cs := #[.int .i64 0, .int .i64 0, .slice none 0 0]) ?_ 0 _ rfl; exact upB b5.out) hb); have n9_ := yaa (yas (by repeat (first | (with_reducible first | exact HB.out | apply yaf | apply yac | apply yae | refine yag ?_ (Aside0.out ‹_›)) | exact HB.out)) hb); clear d1; clear e7; clear f5; clear i5; clear a9; clear a8; clear b3; clear b4; clear b5; clear HB; have d1 := n0_; have e7 := n1_; have f5 := n2_; have i5 := n3_; have a9 := n4_; have a8 := n5_; have b3 := n6_; have b4 := n7_; have b5 := n8_; have HB := n9_; clear n0_ n1_ n2_ n3_ n4_ n5_ n6_ n7_ n8_ n9_; (try clear hb); (try clear hb2); (try clear hk); (try clear hi)))
    go_meet
    case rel => exact ⟨_, (true), (by first | rfl | (simp; done) | (simp [*]; done)), H', ⟨by first | omega | exact Nat.le_refl _⟩, ⟨by (with_reducible repeat (first | apply yah | apply yai | apply yak)); exact yal e7.out (fun _ hk => ⟨hk.2.1, hk.2.2⟩)⟩, ⟨by (with_reducible repeat (first | apply yah | apply yai | apply yak)); exact yal f5.out (fun _ hk => ⟨hk.2.1, hk.2.2⟩)⟩, ⟨by (with_reducible repeat (first | apply yah | apply yai | apply yak)); exact yal i5.out (fun _ hk => ⟨hk.2.1, hk.2.2⟩)⟩, ⟨by exact upB a9.out⟩, ⟨by exact upB a8.out⟩, ⟨by exact upB b3.out⟩, ⟨by exact upB b4.out⟩, ⟨by exact upB b5.out⟩, ⟨by repeat (first | (with_reducible first | exact HB.out | apply yaf | apply yac | apply yae | refine yag ?_ (Aside0.out ‹_›)) | exact HB.out)⟩⟩
  case rest =>
   clear HC16
   try clear c1
   try clear c2
   try clear p2
   try clear c5
   try clear c6
   try clear c7
   try clear c11
   try clear c22
   try clear c23
   try clear c53
   try clear c54
   try clear c55
   try clear c56
   try clear c57
   try clear c59
   try clear c60
   try clear c61
   try clear c64
   try clear c65
   try clear c66
   try clear c67
   try clear c69
   try clear c70
   try clear c71
   try clear r5
   try clear r6
   try clear r7
   try clear s7
   try clear s8
   try clear s9
   try clear t3
   try clear t4
   try clear t5
   try clear t9
   try clear u0
   try clear u1
   try clear r8
   try clear r9
   try clear s6
   try clear t0
   try clear t1
   try clear t2
   try clear t6
   try clear t7
   try clear t8
   try clear u2
   try clear u3
   try clear u4
   obtain ⟨kq, q3, rfl, HA, HJ15, b2, b1, b0, a9, a8, b3, b4, b5, HB⟩ := hcut
   cases kq with
   | zero => exact absurd HA.out (by simp [laws_FnExactOpDo.j0])
   | succ kj15 =>
    have H := HA.out
    clear HA
    simp only [laws_FnExactOpDo.j0] at H
    by_cases c74 : q3 = true
    ·
     subst c74
     have H1 : (some false) = some r := by rw [if_pos rfl] at H; exact H
     clear H
     have H := H1
     clear H1
     rw [hrt] at H
     exact absurd H (by simp)
    ·
     replace c74 := Bool.eq_false_iff.mpr c74
     subst c74
     have H1 : ((laws_toRasRaster.f kj15 a0_0 a0_1 l0_2).bind fun u7 => ((laws_eqRasRaster.f kj15 e9 f1 f0 u7.1 u7.2.1 u7.2.2).bind fun B0 => (if B0 = true then ((laws_markRasRaster.f kj15 e9 f1 f0 1).bind fun r0 => (if r0.1 < 0 then (laws_FnExactOpDo.j1 kj15 h2 true a0_0 a0_1 l0_2 a1_0 a1_1 a1_2 a1_3 a1_4 d8 e0 d0 d9 e1 d2) else ((laws_eqRasRaster.f kj15 d9 e1 d2 d8 e0 d0).bind fun p0 => (if p0 = true then (laws_FnExactOpDo.j1 kj15 h2 (j9 != h2) a0_0 a0_1 l0_2 a1_0 a1_1 a1_2 a1_3 a1_4 d8 e0 d0 d9 e1 d2) else (laws_FnExactOpDo.j1 kj15 h2 true a0_0 a0_1 l0_2 a1_0 a1_1 a1_2 a1_3 a1_4 d8 e0 d0 d9 e1 d2))))) else (some false)))) = some r := by rw [if_neg (show ¬ (false = true) by decide)] at H; exact H
     clear H
     have H := H1
     clear H1
     replace H := Option.bind_eq_some_iff.mp H
     obtain ⟨⟨D8, D9, u8⟩, G4, H⟩ := H
     have A75 := yaa G4
     clear G4
     replace H := Option.bind_eq_some_iff.mp H
     obtain ⟨B0, G5, H⟩ := H
     replace H : (if B0 = true then ((laws_markRasRaster.f kj15 e9 f1 f0 1).bind fun r0 => (if r0.1 < 0 then (laws_FnExactOpDo.j1 kj15 h2 true a0_0 a0_1 l0_2 a1_0 a1_1 a1_2 a1_3 a1_4 d8 e0 d0 d9 e1 d2) else ((laws_eqRasRaster.f kj15 d9 e1 d2 d8 e0 d0).bind fun p0 => (if p0 = true then (laws_FnExactOpDo.j1 kj15 h2 (j9 != h2) a0_0 a0_1 l0_2 a1_0 a1_1 a1_2 a1_3 a1_4 d8 e0 d0 d9 e1 d2) else (laws_FnExactOpDo.j1 kj15 h2 true a0_0 a0_1 l0_2 a1_0 a1_1 a1_2 a1_3 a1_4 d8 e0 d0 d9 e1 d2))))) else (some false)) = some r := H
     have A76 := yaa G5
     clear G5
     by_cases c77 : B0 = true
     ·
      subst c77
      have H1 : ((laws_markRasRaster.f kj15 e9 f1 f0 1).bind fun r0 => (if r0.1 < 0 then (laws_FnExactOpDo.j1 kj15 h2 true a0_0 a0_1 l0_2 a1_0 a1_1 a1_2 a1_3 a1_4 d8 e0 d0 d9 e1 d2) else ((laws_eqRasRaster.f kj15 d9 e1 d2 d8 e0 d0).bind fun p0 => (if p0 = true then (laws_FnExactOpDo.j1 kj15 h2 (j9 != h2) a0_0 a0_1 l0_2 a1_0 a1_1 a1_2 a1_3 a1_4 d8 e0 d0 d9 e1 d2) else (laws_FnExactOpDo.j1 kj15 h2 true a0_0 a0_1 l0_2 a1_0 a1_1 a1_2 a1_3 a1_4 d8 e0 d0 d9 e1 d2))))) = some r := by rw [if_pos rfl] at H; exact H
      clear H
      have H := H1
      clear H1
      replace H := Option.bind_eq_some_iff.mp H
      obtain ⟨⟨u9, g9⟩, G6, H⟩ := H
      replace H : (if u9 < 0 then (laws_FnExactOpDo.j1 kj15 h2 true a0_0 a0_1 l0_2 a1_0 a1_1 a1_2 a1_3 a1_4 d8 e0 d0 d9 e1 d2) else ((laws_eqRasRaster.f kj15 d9 e1 d2 d8 e0 d0).bind fun p0 => (if p0 = true then (laws_FnExactOpDo.j1 kj15 h2 (j9 != h2) a0_0 a0_1 l0_2 a1_0 a1_1 a1_2 a1_3 a1_4 d8 e0 d0 d9 e1 d2) else (laws_FnExactOpDo.j1 kj15 h2 true a0_0 a0_1 l0_2 a1_0 a1_1 a1_2 a1_3 a1_4 d8 e0 d0 d9 e1 d2)))) = some r := H
      have A78 := yaa G6
      clear G6
      have HC79 := yaa H
      clear H
      try go_wp2
      have n0_ := yaa (yak b2.out)
      have n1_ := yaa (yak b1.out)
      have n2_ := yaa (yak b0.out)
      have n3_ := yaa (yao a9.out)
      have n4_ := yaa (yao a8.out)
      have n5_ := yaa (yao b3.out)
      have n6_ := yaa (yao b4.out)
      have n7_ := yaa (yao b5.out)
      have n8_ := yaa (yae HB.out)
      clear b2 b1 b0 a9 a8 b3 b4 b5 HB
      have b2 := n0_
      have b1 := n1_
      have b0 := n2_
      have a9 := n3_
      have a8 := n4_
      have b3 := n5_
      have b4 := n6_
      have b5 := n7_
      have HB := n8_
      clear n0_ n1_ n2_ n3_ n4_ n5_ n6_ n7_ n8_
      refine start_ (n := 5) (S := fun w' => w'.cell? ⟨c3, 0, none⟩ = some (.int .i64 e9) ∧ w'.cell? ⟨c3, 1, none⟩ = some (.int .i64 f1) ∧ w'.cell? ⟨c3, 2, none⟩ = some (.slice d6 f0.length d7) ∧ w'.cell? ⟨b9, 0, none⟩ = some (.int .i64 a0_0) ∧ w'.cell? ⟨b9, 1, none⟩ = some (.int .i64 a0_1) ∧ w'.cell? ⟨b9, 2, none⟩ = some (.slice A0_2 l0_2.length c0_2)) (ds := []) #[false, false, false, false, false] (by kernel_rfl) rfl rfl ⟨(yab b4.out 0).trans rfl, (yab b4.out 1).trans rfl, (yab b4.out 2).trans rfl, (yab a9.out 0).trans rfl, (yab a9.out 1).trans rfl, (yab a9.out 2).trans rfl⟩ (fun hHeld => ?_)
      generalize wc.drew = w80 at b2 b1 b0 a9 a8 b3 b4 b5 HB hHeld ⊢
      refine take_ (i := 0) (N := some 47) (v := ?_) (a' := ?_) #[true, false, false, false, false] rfl rfl (by kernel_rfl) (fun _ _ _ h => h) (Or.inl ⟨by rfl, ?_⟩) hHeld ?_ ?_
      rotate_left
      ·
       rintro w' ⟨s0, s1, s2, s3, s4, s5⟩
       go_simp
       with_reducible rfl
      rotate_left
      ·
       simp only [Act.put, List.setIfInBounds_toArray, List.set_cons_zero, List.set_cons_succ, i64_w, i32_w]
       rfl
      refine take_ (i := 1) (N := some 48) (v := ?_) (a' := ?_) #[true, true, false, false, false] rfl rfl (by kernel_rfl) (fun _ _ _ h => h) (Or.inl ⟨by rfl, ?_⟩) hHeld ?_ ?_
      rotate_left
      ·
       rintro w' ⟨s0, s1, s2, s3, s4, s5⟩
       go_simp
       with_reducible rfl
      rotate_left
      ·
       simp only [Act.put, List.setIfInBounds_toArray, List.set_cons_zero, List.set_cons_succ, i64_w, i32_w]
       rfl
      refine one_ (i := 2) (N := some 49) #[true, true, true, false, false] rfl rfl (by kernel_rfl) (by decide) (fun K hK => ?_)
      refine goes_ Try.func21 (by kernel_rfl) rfl #[.agg #[.int .i64 a0_0, .int .i64 a0_1, .slice A0_2 l0_2.length c0_2]] (by rfl) rfl rfl (by (try simp only [List.map_toArray, List.map_cons, List.map_nil]); first | done | rfl | (simp only [List.length_drop, List.length_take]; rfl)) ?_
      with_reducible refine (laws_toRasRaster.calls kj15 a0_0 a0_1 _ _ l0_2 D8 D9 u8 _ ?side1 ?side2 A75.out).mono ?_
      (case side1 => repeat (first | exact (Kd.C_below HR0_2.out HB.out) | (with_reducible refine ybc ?_ _) | (with_reducible refine ybd ?_ _) | (with_reducible refine ybf ?_)))
      (case side2 => exact HC0_2.out)
      rintro e w81 ⟨dB, rfl, ho0, hb⟩
      refine ⟨_, rfl, ?_⟩
      have n0_ := yaa (yav (upR b2.out) (yaz ho0) hb)
      have n1_ := yaa (yav (upR b1.out) (yaz ho0) hb)
      have n2_ := yaa (yav (upR b0.out) (yaz ho0) hb)
      have n3_ := yaa (ybg (yba (yba (yba ho0 (ybe (upR b2.out))) (ybe (upR b1.out))) (ybe (upR b0.out))) (yau (by repeat (first | (with_reducible first | exact HB.out | apply yaf | apply yac | apply yae | refine yag ?_ (Aside0.out ‹_›)) | exact HB.out))))
      have n4_ := yaa (yad (g := b9) (o := .cells #[.int .i64 a0_0, .int .i64 a0_1, .slice A0_2 l0_2.length c0_2] 44 (0, 0)) (upB a9.out) hb)
      have n5_ := yaa (yad (g := b8) (o := .cells #[.int .i64 a1_0, .int .i64 a1_1, .int .i64 a1_2, .int .i64 a1_3, .int .i64 a1_4] 45 (0, 0)) (upB a8.out) hb)
      have n6_ := yaa (yad (g := b6) (o := .cells #[.int .i64 d8, .int .i64 e0, .slice e4 d0.length e2] 25 (0, 0)) (upB b3.out) hb)
      have n7_ := yaa (yad (g := c3) (o := .cells #[.int .i64 e9, .int .i64 f1, .slice d6 f0.length d7] 25 (0, 0)) (upB b4.out) hb)
      have n8_ := yaa (yad (g := b7) (o := .cells #[.int .i64 d9, .int .i64 e1, .slice f3 d2.length f2] 25 (0, 0)) (upB b5.out) hb)
      have n9_ := yaa (yas (by repeat (first | (with_reducible first | exact HB.out | apply yaf | apply yac | apply yae | refine yag ?_ (Aside0.out ‹_›)) | exact HB.out)) hb)
      clear b2 b1 b0 a9 a8 b3 b4 b5 HB
      have b2 := n0_
      have b1 := n1_
      have b0 := n2_
      have k0 := n3_
      have a9 := n4_
      have a8 := n5_
      have b3 := n6_
      have b4 := n7_
      have b5 := n8_
      have HB := n9_
      clear n0_ n1_ n2_ n3_ n4_ n5_ n6_ n7_ n8_ n9_
      (try clear hb)
      (try clear hb2)
      (try clear hk)
      (try clear hi)
      (try clear ho0)
      obtain ⟨E0, E1, G7⟩ := Kd.R_slice k0.out
      (first | subst G7 | (injection G7 with f1_ f2_ f3_; have f4_ := f1_.symm; have f5_ := f3_.symm; clear f1_ f2_ f3_; subst f4_; subst f5_))
      refine hK.out _ _ ⟨(yab b4.out 0).trans rfl, (yab b4.out 1).trans rfl, (yab b4.out 2).trans rfl, (yab a9.out 0).trans rfl, (yab a9.out 1).trans rfl, (yab a9.out 2).trans rfl⟩ (fun hHeld => ?_)
      clear hK K
      refine ybh (a' := ?_) ?_ ?_
      rotate_left
      ·
       show Act.put _ (some 49) _ = _
       simp only [Act.put, List.setIfInBounds_toArray, List.set_cons_zero, List.set_cons_succ, i64_w, i32_w]
       rfl
      refine one_ (i := 3) (N := some 50) #[true, true, true, true, false] rfl rfl (by kernel_rfl) (by decide) (fun K hK => ?_)
      refine goes_ Try.func23 (by kernel_rfl) rfl #[.agg #[.int .i64 e9, .int .i64 f1, .slice d6 f0.length d7], .agg #[.int .i64 D8, .int .i64 D9, .slice E0 u8.length E1]] (by rfl) rfl rfl (by (try simp only [List.map_toArray, List.map_cons, List.map_nil]); first | done | rfl | (simp only [List.length_drop, List.length_take]; rfl)) ?_
      with_reducible refine (laws_eqRasRaster.calls kj15 e9 f1 _ _ f0 D8 D9 _ _ u8 true _ ?side1 ?side2 ?side3 ?side4 A76.out).mono ?_
      (case side1 => repeat (first | exact (yar b1.out).2.2 | (with_reducible refine ybc ?_ _) | (with_reducible refine ybd ?_ _) | (with_reducible refine ybf ?_)))
      (case side2 => exact (yar b1.out).2.1)
      (case side3 => repeat (first | exact (yar k0.out).2.2 | (with_reducible refine ybc ?_ _) | (with_reducible refine ybd ?_ _) | (with_reducible refine ybf ?_)))
      (case side4 => exact (yar k0.out).2.1)
      rintro e w83 ⟨rfl, hb⟩
      refine ⟨_, rfl, ?_⟩
      have n0_ := yaa (yaj (upR b2.out) hb)
      have n1_ := yaa (yaj (upR b1.out) hb)
      have n2_ := yaa (yaj (upR b0.out) hb)
      have n3_ := yaa (yaj (upR k0.out) hb)
      have n4_ := yaa (yad (g := b9) (o := .cells #[.int .i64 a0_0, .int .i64 a0_1, .slice A0_2 l0_2.length c0_2] 44 (0, 0)) (upB a9.out) hb)
      have n5_ := yaa (yad (g := b8) (o := .cells #[.int .i64 a1_0, .int .i64 a1_1, .int .i64 a1_2, .int .i64 a1_3, .int .i64 a1_4] 45 (0, 0)) (upB a8.out) hb)
      have n6_ := yaa (yad (g := b6) (o := .cells #[.int .i64 d8, .int .i64 e0, .slice e4 d0.length e2] 25 (0, 0)) (upB b3.out) hb)
      have n7_ := yaa (yad (g := c3) (o := .cells #[.int .i64 e9, .int .i64 f1, .slice d6 f0.length d7] 25 (0, 0)) (upB b4.out) hb)
      have n8_ := yaa (yad (g := b7) (o := .cells #[.int .i64 d9, .int .i64 e1, .slice f3 d2.length f2] 25 (0, 0)) (upB b5.out) hb)
      have n9_ := yaa (yas (by repeat (first | (with_reducible first | exact HB.out | apply yaf | apply yac | apply yae | refine yag ?_ (Aside0.out ‹_›)) | exact HB.out)) hb)
      clear b2 b1 b0 k0 a9 a8 b3 b4 b5 HB
      have b2 := n0_
      have b1 := n1_
      have b0 := n2_
      have k0 := n3_
      have a9 := n4_
      have a8 := n5_
      have b3 := n6_
      have b4 := n7_
      have b5 := n8_
      have HB := n9_
      clear n0_ n1_ n2_ n3_ n4_ n5_ n6_ n7_ n8_ n9_
      (try clear hb)
      (try clear hb2)
      (try clear hk)
      (try clear hi)
      refine hK.out _ _ ⟨(yab b4.out 0).trans rfl, (yab b4.out 1).trans rfl, (yab b4.out 2).trans rfl, (yab a9.out 0).trans rfl, (yab a9.out 1).trans rfl, (yab a9.out 2).trans rfl⟩ (fun hHeld => ?_)
      clear hK K
      refine ybh (a' := ?_) ?_ ?_
      rotate_left
      ·
       show Act.put _ (some 50) _ = _
       simp only [Act.put, List.setIfInBounds_toArray, List.set_cons_zero, List.set_cons_succ, i64_w, i32_w]
       rfl
      refine pure_ (i := 4) (N := some 51) (v := ?_) (a' := ?_) #[true, true, true, true, true] rfl rfl (by kernel_rfl) (fun _ _ _ h => h) (Or.inl ⟨by rfl, ?_⟩) ?_ ?_
      rotate_left
      ·
       intro w'
       go_simp
       with_reducible rfl
      rotate_left
      ·
       simp only [Act.put, List.setIfInBounds_toArray, List.set_cons_zero, List.set_cons_succ, i64_w, i32_w]
       rfl
      refine done_ (by kernel_rfl) ?_
      have bV := p1.out
      have bW := k3.out
      have bX := p3.out
      have bY := k4.out
      have bZ := i7.out
      have cA := h8.out
      have cB := e3.out
      have cC := g6.out
      have B1 : w83.cell? ⟨c3, 0, none⟩ = some (.int .i64 e9) := (yab b4.out 0).trans rfl
      have B2 : w83.cell? ⟨c3, 1, none⟩ = some (.int .i64 f1) := (yab b4.out 1).trans rfl
      have B3 : w83.cell? ⟨c3, 2, none⟩ = some (.slice d6 f0.length d7) := (yab b4.out 2).trans rfl
      have B4 := yaq b4.out 0
      have B6 := yaq b4.out 1
      have B8 := yaq b4.out 2
      go_upto_region 14 with (first | ((with_reducible refine gate_callee (f := 24) rfl ?_); refine goesL_ (some 54) rfl rfl Try.func24 (by kernel_rfl) rfl #[.agg #[.int .i64 e9, .int .i64 f1, .slice d6 f0.length d7], .int .i64 1] rfl (by (try simp only [List.map_toArray, List.map_cons, List.map_nil]); first | done | rfl | (simp only [List.length_drop, List.length_take]; rfl)) ?_; (with_reducible refine (laws_markRasRaster.calls kj15 e9 f1 (fun k_ => some k_ = (.slice d6 f0.length d7 : Value).ownBlock) (.slice d6 f0.length d7) f0 1 u9 g9 w _ ?side1 ?side2 A78.out).mono ?_); (case side1 => repeat (first | (with_reducible first | exact HB.out | apply yaf | apply yac | apply yae | refine yag ?_ (Aside0.out ‹_›)) | exact HB.out)); (case side2 => exact Kd.R_tight rfl b1.out); rintro e w89 ⟨rfl, hy0, hb, hkp⟩; refine ⟨_, rfl, ?_⟩; have n0_ := yaa (yal (ok' := fun k_ => some k_ ≠ (.slice d6 f0.length d7 : Value).ownBlock ∧ some k_ ≠ (.slice f3 d2.length f2 : Value).ownBlock ∧ some k_ ≠ (.slice E0 u8.length E1 : Value).ownBlock) (Kd.R_keptB (b2.out) hkp (fun k_ hk_ hs_ => (hk_.1.1) hs_)) (fun k_ hk_ => ⟨hk_.1.1.1, hk_.1.1.2, hk_.1.2⟩)); have n1_ := yaa (Kd.R_reok rfl hy0 (fun k_ e_ => b1.out.1 k_ e_)); have n2_ := yaa (yal (ok' := fun k_ => some k_ ≠ (.slice e4 d0.length e2 : Value).ownBlock ∧ some k_ ≠ (.slice d6 f0.length d7 : Value).ownBlock ∧ some k_ ≠ (.slice E0 u8.length E1 : Value).ownBlock) (Kd.R_keptB (b0.out) hkp (fun k_ hk_ hs_ => (hk_.1.2) hs_)) (fun k_ hk_ => ⟨hk_.1.1.1, hk_.1.1.2, hk_.1.2⟩)); have n3_ := yaa (blk_kept (upB a9.out) hkp (fun hs_ => (fun e_ => (Kd.R_ne b1.out a9.out (by decide)) e_) hs_)); have n4_ := yaa (blk_kept (upB a8.out) hkp (fun hs_ => (fun e_ => (Kd.R_ne b1.out a8.out (by decide)) e_) hs_)); have n5_ := yaa (blk_kept (upB b3.out) hkp (fun hs_ => (fun e_ => (Kd.R_ne b1.out b3.out (by decide)) e_) hs_)); have n6_ := yaa (blk_kept (upB b4.out) hkp (fun hs_ => (fun e_ => (Kd.R_ne b1.out b4.out (by decide)) e_) hs_)); have n7_ := yaa (blk_kept (upB b5.out) hkp (fun hs_ => (fun e_ => (Kd.R_ne b1.out b5.out (by decide)) e_) hs_)); have n8_ := yaa (yal (ok' := fun k_ => some k_ ≠ (.slice e4 d0.length e2 : Value).ownBlock ∧ some k_ ≠ (.slice d6 f0.length d7 : Value).ownBlock ∧ some k_ ≠ (.slice f3 d2.length f2 : Value).ownBlock) (Kd.R_keptB (k0.out) hkp (fun k_ hk_ hs_ => (hk_.1.2) hs_)) (fun k_ hk_ => ⟨hk_.1.1.1.2, hk_.1.1.2, hk_.1.2⟩)); have n9_ := yaa (hb); clear b2; clear b1; clear b0; clear a9; clear a8; clear b3; clear b4; clear b5; clear k0; clear HB; have b2 := n0_; have b1 := n1_; have b0 := n2_; have a9 := n3_; have a8 := n4_; have b3 := n5_; have b4 := n6_; have b5 := n7_; have k0 := n8_; have HB := n9_; clear n0_ n1_ n2_ n3_ n4_ n5_ n6_ n7_ n8_ n9_; (try clear hb); (try clear hkp); (try clear hy0)))
      (try simp only [Act.put, List.setIfInBounds_toArray, List.set_cons_zero, List.set_cons_succ])
      go_cut [67] (fun v67 wc => ∃ (kq : Nat) (q4 : Bool), v67 = .bool q4 ∧ yaw (laws_FnExactOpDo.j1 kq h2 q4 a0_0 a0_1 l0_2 a1_0 a1_1 a1_2 a1_3 a1_4 d8 e0 d0 d9 e1 d2 = some r) ∧ yaw (kq ≤ kj15) ∧ yaw (Kd.R k36 36 wc w.heap.size (fun k_ => some k_ ≠ ((.slice d6 f0.length d7) : Value).ownBlock ∧ some k_ ≠ ((.slice f3 d2.length f2) : Value).ownBlock) (.slice e4 d0.length e2) d0) ∧ yaw (Kd.R k36 36 wc w.heap.size (fun k_ => some k_ ≠ ((.slice e4 d0.length e2) : Value).ownBlock ∧ some k_ ≠ ((.slice f3 d2.length f2) : Value).ownBlock) (.slice d6 f0.length d7) g9) ∧ yaw (Kd.R k36 36 wc w.heap.size (fun k_ => some k_ ≠ ((.slice e4 d0.length e2) : Value).ownBlock ∧ some k_ ≠ ((.slice d6 f0.length d7) : Value).ownBlock) (.slice f3 d2.length f2) d2) ∧ yaw (wc.heap[b9]? = some (.cells #[.int .i64 a0_0, .int .i64 a0_1, (.slice A0_2 l0_2.length c0_2)] 44 (0, 0))) ∧ yaw (wc.heap[b8]? = some (.cells #[.int .i64 a1_0, .int .i64 a1_1, .int .i64 a1_2, .int .i64 a1_3, .int .i64 a1_4] 45 (0, 0))) ∧ yaw (wc.heap[b6]? = some (.cells #[.int .i64 d8, .int .i64 e0, (.slice e4 d0.length e2)] 25 (0, 0))) ∧ yaw (wc.heap[c3]? = some (.cells #[.int .i64 e9, .int .i64 f1, (.slice d6 f0.length d7)] 25 (0, 0))) ∧ yaw (wc.heap[b7]? = some (.cells #[.int .i64 d9, .int .i64 e1, (.slice f3 d2.length f2)] 25 (0, 0))) ∧ yaw (Below w.heap.size w wc))
      case first =>
       have H := HC79.out
       clear HC79
       by_cases c90 : u9 < 0
       ·
        rw [if_pos c90] at H
        have p6 : decide (u9 < 0) = true := decide_eq_true c90
        clear c90
        (first | rw [p6] | (simp only [i64_w, i32_w]; rw [p6]) | skip)
        have H' := yaa H
        clear H
        go_wp2
        go_meet
        case rel => exact ⟨_, (true), (by first | rfl | (simp; done) | (simp [*]; done)), H', ⟨by have := HJ15.out; first | omega | exact Nat.le_refl _⟩, ⟨by (with_reducible repeat (first | apply yah | apply yai | apply yak)); exact yal b2.out (fun _ hk => ⟨hk.1, hk.2.1⟩)⟩, ⟨by (with_reducible repeat (first | apply yah | apply yai | apply yak)); exact yal b1.out (fun _ hk => ⟨hk.1.1, hk.1.2⟩)⟩, ⟨by (with_reducible repeat (first | apply yah | apply yai | apply yak)); exact yal b0.out (fun _ hk => ⟨hk.1, hk.2.1⟩)⟩, ⟨by exact upB a9.out⟩, ⟨by exact upB a8.out⟩, ⟨by exact upB b3.out⟩, ⟨by exact upB b4.out⟩, ⟨by exact upB b5.out⟩, ⟨by repeat (first | (with_reducible first | exact HB.out | apply yaf | apply yac | apply yae | refine yag ?_ (Aside0.out ‹_›)) | exact HB.out)⟩⟩
       ·
        rw [if_neg c90] at H
        have p6 : decide (u9 < 0) = false := decide_eq_false c90
        clear c90
        (first | rw [p6] | (simp only [i64_w, i32_w]; rw [p6]) | skip)
        replace H := Option.bind_eq_some_iff.mp H
        obtain ⟨p0, G8, H⟩ := H
        replace H : (if p0 = true then (laws_FnExactOpDo.j1 kj15 h2 (j9 != h2) a0_0 a0_1 l0_2 a1_0 a1_1 a1_2 a1_3 a1_4 d8 e0 d0 d9 e1 d2) else (laws_FnExactOpDo.j1 kj15 h2 true a0_0 a0_1 l0_2 a1_0 a1_1 a1_2 a1_3 a1_4 d8 e0 d0 d9 e1 d2)) = some r := H
        have A91 := yaa G8
        clear G8
        by_cases c92 : p0 = true
        ·
         subst c92
         have H1 : (laws_FnExactOpDo.j1 kj15 h2 (j9 != h2) a0_0 a0_1 l0_2 a1_0 a1_1 a1_2 a1_3 a1_4 d8 e0 d0 d9 e1 d2) = some r := by rw [if_pos rfl] at H; exact H
         clear H
         have H := H1
         clear H1
         have H' := yaa H
         clear H
         have cD := g7.out
         have cE := f8.out
         have cF := g8.out
         have cG := d3.out
         have cH := g5.out
         have cI := f6.out
         have cJ := g6.out
         have cK := e3.out
         have B9 : w89.cell? ⟨b7, 0, none⟩ = some (.int .i64 d9) := (yab b5.out 0).trans rfl
         have C0 : w89.cell? ⟨b7, 1, none⟩ = some (.int .i64 e1) := (yab b5.out 1).trans rfl
         have C1 : w89.cell? ⟨b7, 2, none⟩ = some (.slice f3 d2.length f2) := (yab b5.out 2).trans rfl
         have C2 := yaq b5.out 0
         have C3 := yaq b5.out 1
         have C4 := yaq b5.out 2
         have cL := g3.out
         have cM := e5.out
         have cN := g4.out
         have cO := d4.out
         have S3 := h8.out
         have S4 := i7.out
         have v0 : w89.cell? ⟨b6, 0, none⟩ = some (.int .i64 d8) := (yab b3.out 0).trans rfl
         have v1 : w89.cell? ⟨b6, 1, none⟩ = some (.int .i64 e0) := (yab b3.out 1).trans rfl
         have v2 : w89.cell? ⟨b6, 2, none⟩ = some (.slice e4 d0.length e2) := (yab b3.out 2).trans rfl
         have v3 := yaq b3.out 0
         have v4 := yaq b3.out 1
         have v5 := yaq b3.out 2
         go_wp2_with (first | (go_at_call 23; (with_reducible refine (laws_eqRasRaster.calls kj15 d9 e1 _ _ d2 d8 e0 _ _ d0 true _ ?side1 ?side2 ?side3 ?side4 A91.out).mono ?_); (case side1 => repeat (first | exact (yar b0.out).2.2 | (with_reducible refine ybc ?_ _) | (with_reducible refine ybd ?_ _) | (with_reducible refine ybf ?_))); (case side2 => exact (yar b0.out).2.1); (case side3 => repeat (first | exact (yar b2.out).2.2 | (with_reducible refine ybc ?_ _) | (with_reducible refine ybd ?_ _) | (with_reducible refine ybf ?_))); (case side4 => exact (yar b2.out).2.1); rintro e w102 ⟨rfl, hb⟩; have n0_ := yaa (yaj (upR b2.out) hb); have n1_ := yaa (yaj (upR b1.out) hb); have n2_ := yaa (yaj (upR b0.out) hb); have n3_ := yaa (yaj (upR k0.out) hb); have n4_ := yaa (yad (g := b9) (o := .cells #[.int .i64 a0_0, .int .i64 a0_1, .slice A0_2 l0_2.length c0_2] 44 (0, 0)) (upB a9.out) hb); have n5_ := yaa (yad (g := b8) (o := .cells #[.int .i64 a1_0, .int .i64 a1_1, .int .i64 a1_2, .int .i64 a1_3, .int .i64 a1_4] 45 (0, 0)) (upB a8.out) hb); have n6_ := yaa (yad (g := b6) (o := .cells #[.int .i64 d8, .int .i64 e0, .slice e4 d0.length e2] 25 (0, 0)) (upB b3.out) hb); have n7_ := yaa (yad (g := c3) (o := .cells #[.int .i64 e9, .int .i64 f1, .slice d6 f0.length d7] 25 (0, 0)) (upB b4.out) hb); have n8_ := yaa (yad (g := b7) (o := .cells #[.int .i64 d9, .int .i64 e1, .slice f3 d2.length f2] 25 (0, 0)) (upB b5.out) hb); have n9_ := yaa (yas (by repeat (first | (with_reducible first | exact HB.out | apply yaf | apply yac | apply yae | refine yag ?_ (Aside0.out ‹_›)) | exact HB.out)) hb); clear b2; clear b1; clear b0; clear k0; clear a9; clear a8; clear b3; clear b4; clear b5; clear HB; have b2 := n0_; have b1 := n1_; have b0 := n2_; have k0 := n3_; have a9 := n4_; have a8 := n5_; have b3 := n6_; have b4 := n7_; have b5 := n8_; have HB := n9_; clear n0_ n1_ n2_ n3_ n4_ n5_ n6_ n7_ n8_ n9_; (try clear hb); (try clear hb2); (try clear hk); (try clear hi)))
         go_meet
         case rel => exact ⟨_, ((j9 != h2)), (by first | rfl | (simp; done) | (simp [*]; done)), H', ⟨by have := HJ15.out; first | omega | exact Nat.le_refl _⟩, ⟨by (with_reducible repeat (first | apply yah | apply yai | apply yak)); exact yal b2.out (fun _ hk => ⟨hk.1, hk.2.1⟩)⟩, ⟨by (with_reducible repeat (first | apply yah | apply yai | apply yak)); exact yal b1.out (fun _ hk => ⟨hk.1.1, hk.1.2⟩)⟩, ⟨by (with_reducible repeat (first | apply yah | apply yai | apply yak)); exact yal b0.out (fun _ hk => ⟨hk.1, hk.2.1⟩)⟩, ⟨by exact upB a9.out⟩, ⟨by exact upB a8.out⟩, ⟨by exact upB b3.out⟩, ⟨by exact upB b4.out⟩, ⟨by exact upB b5.out⟩, ⟨by repeat (first | (with_reducible first | exact HB.out | apply yaf | apply yac | apply yae | refine yag ?_ (Aside0.out ‹_›)) | exact HB.out)⟩⟩
        ·
         replace c92 := Bool.eq_false_iff.mpr c92
         subst c92
         have H1 : (laws_FnExactOpDo.j1 kj15 h2 true a0_0 a0_1 l0_2 a1_0 a1_1 a1_2 a1_3 a1_4 d8 e0 d0 d9 e1 d2) = some r := by rw [if_neg (show ¬ (false = true) by decide)] at H; exact H
         clear H
         have H := H1
         clear H1
         have H' := yaa H
         clear H
         have S5 := g7.out
         have S6 := f8.out
         have S7 := g8.out
         have S8 := d3.out
         have S9 := g5.out
         have T0 := f6.out
         have T1 := g6.out
         have T2 := e3.out
         have v6 : w89.cell? ⟨b7, 0, none⟩ = some (.int .i64 d9) := (yab b5.out 0).trans rfl
         have v7 : w89.cell? ⟨b7, 1, none⟩ = some (.int .i64 e1) := (yab b5.out 1).trans rfl
         have v8 : w89.cell? ⟨b7, 2, none⟩ = some (.slice f3 d2.length f2) := (yab b5.out 2).trans rfl
         have v9 := yaq b5.out 0
         have w0 := yaq b5.out 1
         have w2 := yaq b5.out 2
         have T3 := g3.out
         have T4 := e5.out
         have T6 := g4.out
         have T8 := d4.out
         have T9 := h8.out
         have U0 := i7.out
         have w3 : w89.cell? ⟨b6, 0, none⟩ = some (.int .i64 d8) := (yab b3.out 0).trans rfl
         have w4 : w89.cell? ⟨b6, 1, none⟩ = some (.int .i64 e0) := (yab b3.out 1).trans rfl
         have w7 : w89.cell? ⟨b6, 2, none⟩ = some (.slice e4 d0.length e2) := (yab b3.out 2).trans rfl
         have w8 := yaq b3.out 0
         have x0 := yaq b3.out 1
         have x1 := yaq b3.out 2
         go_wp2_with (first | (go_at_call 23; (with_reducible refine (laws_eqRasRaster.calls kj15 d9 e1 _ _ d2 d8 e0 _ _ d0 false _ ?side1 ?side2 ?side3 ?side4 A91.out).mono ?_); (case side1 => repeat (first | exact (yar b0.out).2.2 | (with_reducible refine ybc ?_ _) | (with_reducible refine ybd ?_ _) | (with_reducible refine ybf ?_))); (case side2 => exact (yar b0.out).2.1); (case side3 => repeat (first | exact (yar b2.out).2.2 | (with_reducible refine ybc ?_ _) | (with_reducible refine ybd ?_ _) | (with_reducible refine ybf ?_))); (case side4 => exact (yar b2.out).2.1); rintro e w112 ⟨rfl, hb⟩; have n0_ := yaa (yaj (upR b2.out) hb); have n1_ := yaa (yaj (upR b1.out) hb); have n2_ := yaa (yaj (upR b0.out) hb); have n3_ := yaa (yaj (upR k0.out) hb); have n4_ := yaa (yad (g := b9) (o := .cells #[.int .i64 a0_0, .int .i64 a0_1, .slice A0_2 l0_2.length c0_2] 44 (0, 0)) (upB a9.out) hb); have n5_ := yaa (yad (g := b8) (o := .cells #[.int .i64 a1_0, .int .i64 a1_1, .int .i64 a1_2, .int .i64 a1_3, .int .i64 a1_4] 45 (0, 0)) (upB a8.out) hb); have n6_ := yaa (yad (g := b6) (o := .cells #[.int .i64 d8, .int .i64 e0, .slice e4 d0.length e2] 25 (0, 0)) (upB b3.out) hb); have n7_ := yaa (yad (g := c3) (o := .cells #[.int .i64 e9, .int .i64 f1, .slice d6 f0.length d7] 25 (0, 0)) (upB b4.out) hb); have n8_ := yaa (yad (g := b7) (o := .cells #[.int .i64 d9, .int .i64 e1, .slice f3 d2.length f2] 25 (0, 0)) (upB b5.out) hb); have n9_ := yaa (yas (by repeat (first | (with_reducible first | exact HB.out | apply yaf | apply yac | apply yae | refine yag ?_ (Aside0.out ‹_›)) | exact HB.out)) hb); clear b2; clear b1; clear b0; clear k0; clear a9; clear a8; clear b3; clear b4; clear b5; clear HB; have b2 := n0_; have b1 := n1_; have b0 := n2_; have k0 := n3_; have a9 := n4_; have a8 := n5_; have b3 := n6_; have b4 := n7_; have b5 := n8_; have HB := n9_; clear n0_ n1_ n2_ n3_ n4_ n5_ n6_ n7_ n8_ n9_; (try clear hb); (try clear hb2); (try clear hk); (try clear hi)))
         go_meet
         case rel => exact ⟨_, (true), (by first | rfl | (simp; done) | (simp [*]; done)), H', ⟨by have := HJ15.out; first | omega | exact Nat.le_refl _⟩, ⟨by (with_reducible repeat (first | apply yah | apply yai | apply yak)); exact yal b2.out (fun _ hk => ⟨hk.1, hk.2.1⟩)⟩, ⟨by (with_reducible repeat (first | apply yah | apply yai | apply yak)); exact yal b1.out (fun _ hk => ⟨hk.1.1, hk.1.2⟩)⟩, ⟨by (with_reducible repeat (first | apply yah | apply yai | apply yak)); exact yal b0.out (fun _ hk => ⟨hk.1, hk.2.1⟩)⟩, ⟨by exact upB a9.out⟩, ⟨by exact upB a8.out⟩, ⟨by exact upB b3.out⟩, ⟨by exact upB b4.out⟩, ⟨by exact upB b5.out⟩, ⟨by repeat (first | (with_reducible first | exact HB.out | apply yaf | apply yac | apply yae | refine yag ?_ (Aside0.out ‹_›)) | exact HB.out)⟩⟩
      case rest =>
       clear HC79
       try clear c1
       try clear c2
       try clear p2
       try clear c5
       try clear c6
       try clear c7
       try clear c8
       try clear c9
       try clear c10
       try clear c11
       try clear c21
       try clear c22
       try clear c23
       try clear c24
       try clear c53
       try clear c54
       try clear c55
       try clear c56
       try clear c57
       try clear c59
       try clear c60
       try clear c61
       try clear c64
       try clear c65
       try clear c66
       try clear c67
       try clear c69
       try clear c70
       try clear c71
       try clear c74
       try clear c77
       try clear c84
       try clear c85
       try clear c86
       try clear c87
       try clear c90
       try clear p6
       try clear c92
       try clear c93
       try clear c94
       try clear c95
       try clear c96
       try clear c98
       try clear c99
       try clear c100
       try clear c103
       try clear c104
       try clear c105
       try clear c106
       try clear c108
       try clear c109
       try clear c110
       try clear v0
       try clear v1
       try clear v2
       try clear v6
       try clear v7
       try clear v8
       try clear w3
       try clear w4
       try clear w7
       try clear r5
       try clear r6
       try clear r7
       try clear s7
       try clear s8
       try clear s9
       try clear t3
       try clear t4
       try clear t5
       try clear t9
       try clear u0
       try clear u1
       try clear B1
       try clear B2
       try clear B3
       try clear B9
       try clear C0
       try clear C1
       try clear v3
       try clear v4
       try clear v5
       try clear v9
       try clear w0
       try clear w2
       try clear w8
       try clear x0
       try clear x1
       try clear r8
       try clear r9
       try clear s6
       try clear t0
       try clear t1
       try clear t2
       try clear t6
       try clear t7
       try clear t8
       try clear u2
       try clear u3
       try clear u4
       try clear B4
       try clear B6
       try clear B8
       try clear C2
       try clear C3
       try clear C4
       try clear p2
       obtain ⟨kq, q4, rfl, HA, HJ78, b2, b1, b0, a9, a8, b3, b4, b5, HB⟩ := hcut
       have hl127002_78 := (yar b1.out).1
       rw [hl127002_78] at b1
       (try simp only [hl127002_78])
       (try simp only [hl127002_78] at a9)
       (try simp only [hl127002_78] at a8)
       (try simp only [hl127002_78] at b3)
       (try simp only [hl127002_78] at b4)
       (try simp only [hl127002_78] at b5)
       (try simp only [hl127002_78] at b2)
       (try simp only [hl127002_78] at b0)
       cases kq with
       | zero => exact absurd HA.out (by simp [laws_FnExactOpDo.j1])
       | succ kj78 =>
        have H := HA.out
        clear HA
        simp only [laws_FnExactOpDo.j1] at H
        by_cases C5 : q4 = true
        ·
         subst C5
         have H1 : (some false) = some r := by rw [if_pos rfl] at H; exact H
         clear H
         have H := H1
         clear H1
         rw [hrt] at H
         exact absurd H (by simp)
        ·
         replace C5 := Bool.eq_false_iff.mpr C5
         subst C5
         have H1 : ((laws_markRasRaster.f kj78 d9 e1 d2 1).bind fun p7 => ((laws_heldRasRaster.f kj78 d9 e1 p7.2 1).bind fun l3 => (if l3 < 0 then (some false) else (if l3 = p7.1 then ((laws_toRasRaster.f kj78 a0_0 a0_1 l0_2).bind fun o2 => ((laws_toOpOp.f a1_0 a1_1 a1_2 a1_3 a1_4).bind fun l0 => ((impl_OpDo.f o2.1 o2.2.1 o2.2.2 l0.1 l0.2.1 l0.2.2.1 l0.2.2.2.1 l0.2.2.2.2).bind fun l4 => ((laws_eqRasRaster.f kj78 l4.1 l4.2.1 l4.2.2.1 d8 e0 d0).bind fun r1 => (if r1 = true then (laws_FnExactOpDo.j2 kj78 p7.1 (l4.2.2.2 != h2) d9 e1 p7.2) else (laws_FnExactOpDo.j2 kj78 p7.1 true d9 e1 p7.2)))))) else (some false))))) = some r := by rw [if_neg (show ¬ (false = true) by decide)] at H; exact H
         clear H
         have H := H1
         clear H1
         replace H := Option.bind_eq_some_iff.mp H
         obtain ⟨⟨k1, k2⟩, C7, H⟩ := H
         have U1 := yaa C7
         clear C7
         replace H := Option.bind_eq_some_iff.mp H
         obtain ⟨l3, C8, H⟩ := H
         replace H : (if l3 < 0 then (some false) else (if l3 = k1 then ((laws_toRasRaster.f kj78 a0_0 a0_1 l0_2).bind fun o2 => ((laws_toOpOp.f a1_0 a1_1 a1_2 a1_3 a1_4).bind fun l0 => ((impl_OpDo.f o2.1 o2.2.1 o2.2.2 l0.1 l0.2.1 l0.2.2.1 l0.2.2.2.1 l0.2.2.2.2).bind fun l4 => ((laws_eqRasRaster.f kj78 l4.1 l4.2.1 l4.2.2.1 d8 e0 d0).bind fun r1 => (if r1 = true then (laws_FnExactOpDo.j2 kj78 k1 (l4.2.2.2 != h2) d9 e1 k2) else (laws_FnExactOpDo.j2 kj78 k1 true d9 e1 k2)))))) else (some false))) = some r := H
         have U2 := yaa C8
         clear C8
         by_cases u5 : l3 < 0
         ·
          rw [if_pos u5] at H
          have E2 : decide (l3 < 0) = true := decide_eq_true u5
          clear u5
          rw [hrt] at H
          exact absurd H (by simp)
         ·
          rw [if_neg u5] at H
          have E2 : decide (l3 < 0) = false := decide_eq_false u5
          clear u5
          by_cases r3 : l3 = k1
          ·
           rw [if_pos r3] at H
           have E3 : (l3 == k1) = true := beq_iff_eq.mpr r3
           have E4 : (l3 != k1) = false := bne_eq_false_iff_eq.mpr r3
           clear r3
           replace H := Option.bind_eq_some_iff.mp H
           obtain ⟨⟨o3, o4, l2⟩, C9, H⟩ := H
           have G9 := yaa C9
           clear C9
           replace H := Option.bind_eq_some_iff.mp H
           obtain ⟨⟨n3, n4, n5, n6, n7⟩, D0, H⟩ := H
           have E5 := yaa D0
           clear D0
           replace H := Option.bind_eq_some_iff.mp H
           obtain ⟨⟨i4, i6, i2, o5⟩, D1, H⟩ := H
           replace H : ((laws_eqRasRaster.f kj78 i4 i6 i2 d8 e0 d0).bind fun r1 => (if r1 = true then (laws_FnExactOpDo.j2 kj78 k1 (o5 != h2) d9 e1 k2) else (laws_FnExactOpDo.j2 kj78 k1 true d9 e1 k2))) = some r := H
           have r2 := yaa D1
           clear D1
           have HC121 := yaa H
           clear H
           have U3 := g7.out
           have U4 := f8.out
           have U5 := g8.out
           have U6 := d3.out
           have U7 := g5.out
           have U8 := f6.out
           have U9 := g6.out
           have V0 := e3.out
           have H0 : wc.cell? ⟨b7, 0, none⟩ = some (.int .i64 d9) := (yab b5.out 0).trans rfl
           have H2 : wc.cell? ⟨b7, 1, none⟩ = some (.int .i64 e1) := (yab b5.out 1).trans rfl
           have H3 : wc.cell? ⟨b7, 2, none⟩ = some (.slice f3 d2.length f2) := (yab b5.out 2).trans rfl
           have H4 := yaq b5.out 0
           have H5 := yaq b5.out 1
           have H6 := yaq b5.out 2
           try go_wp2_with (first | ((with_reducible refine gate_callee (f := 24) rfl ?_); refine goesL_ (some 70) rfl rfl Try.func24 (by kernel_rfl) rfl #[.agg #[.int .i64 d9, .int .i64 e1, .slice f3 d2.length f2], .int .i64 1] rfl (by (try simp only [List.map_toArray, List.map_cons, List.map_nil]); first | done | rfl | (simp only [List.length_drop, List.length_take]; rfl)) ?_; (with_reducible refine (laws_markRasRaster.calls kj78 d9 e1 (fun k_ => some k_ = (.slice f3 d2.length f2 : Value).ownBlock) (.slice f3 d2.length f2) d2 1 k1 k2 w _ ?side1 ?side2 U1.out).mono ?_); (case side1 => repeat (first | (with_reducible first | exact HB.out | apply yaf | apply yac | apply yae | refine yag ?_ (Aside0.out ‹_›)) | exact HB.out)); (case side2 => exact Kd.R_tight rfl b0.out); rintro e w127 ⟨rfl, hy0, hb, hkp⟩; refine ⟨_, rfl, ?_⟩; have n0_ := yaa (yal (ok' := fun k_ => some k_ ≠ (.slice d6 g9.length d7 : Value).ownBlock ∧ some k_ ≠ (.slice f3 d2.length f2 : Value).ownBlock) (Kd.R_keptB (b2.out) hkp (fun k_ hk_ hs_ => (hk_.2) hs_)) (fun k_ hk_ => ⟨hk_.1.1, hk_.1.2⟩)); have n1_ := yaa (yal (ok' := fun k_ => some k_ ≠ (.slice e4 d0.length e2 : Value).ownBlock ∧ some k_ ≠ (.slice f3 d2.length f2 : Value).ownBlock) (Kd.R_keptB (b1.out) hkp (fun k_ hk_ hs_ => (hk_.2) hs_)) (fun k_ hk_ => ⟨hk_.1.1, hk_.1.2⟩)); have n2_ := yaa (Kd.R_reok rfl hy0 (fun k_ e_ => b0.out.1 k_ e_)); have n3_ := yaa (blk_kept (upB a9.out) hkp (fun hs_ => (fun e_ => (Kd.R_ne b0.out a9.out (by decide)) e_) hs_)); have n4_ := yaa (blk_kept (upB a8.out) hkp (fun hs_ => (fun e_ => (Kd.R_ne b0.out a8.out (by decide)) e_) hs_)); have n5_ := yaa (blk_kept (upB b3.out) hkp (fun hs_ => (fun e_ => (Kd.R_ne b0.out b3.out (by decide)) e_) hs_)); have n6_ := yaa (blk_kept (upB b4.out) hkp (fun hs_ => (fun e_ => (Kd.R_ne b0.out b4.out (by decide)) e_) hs_)); have n7_ := yaa (blk_kept (upB b5.out) hkp (fun hs_ => (fun e_ => (Kd.R_ne b0.out b5.out (by decide)) e_) hs_)); have n8_ := yaa (hb); clear b2; clear b1; clear b0; clear a9; clear a8; clear b3; clear b4; clear b5; clear HB; have b2 := n0_; have b1 := n1_; have b0 := n2_; have a9 := n3_; have a8 := n4_; have b3 := n5_; have b4 := n6_; have b5 := n7_; have HB := n8_; clear n0_ n1_ n2_ n3_ n4_ n5_ n6_ n7_ n8_; (try clear hb); (try clear hkp); (try clear hy0); have H7 : w127.cell? ⟨b7, 0, none⟩ = some (.int .i64 d9) := (yab b5.out 0).trans rfl; have H8 : w127.cell? ⟨b7, 1, none⟩ = some (.int .i64 e1) := (yab b5.out 1).trans rfl; have H9 : w127.cell? ⟨b7, 2, none⟩ = some (.slice f3 d2.length f2) := (yab b5.out 2).trans rfl; have I0 := yaq b5.out 0; have I1 := yaq b5.out 1; have I2 := yaq b5.out 2) | ((with_reducible refine gate_callee (f := 25) rfl ?_); refine goesL_ (some 73) rfl rfl Try.func25 (by kernel_rfl) rfl #[.agg #[.int .i64 d9, .int .i64 e1, .slice f3 k2.length f2], .int .i64 1] rfl (by (try simp only [List.map_toArray, List.map_cons, List.map_nil]); first | done | (rw [show k2.length = d2.length from (yar b0.out).1.symm] <;> rfl) | rfl | (simp only [List.length_drop, List.length_take]; rfl)) ?_; (with_reducible refine (laws_heldRasRaster.calls kj78 d9 e1 _ _ k2 1 l3 _ ?side1 ?side2 U2.out).mono ?_); (case side1 => repeat (first | exact (yar b0.out).2.2 | (with_reducible refine ybc ?_ _) | (with_reducible refine ybd ?_ _) | (with_reducible refine ybf ?_))); (case side2 => rw [show k2.length = d2.length from (yar b0.out).1.symm]; exact (yar b0.out).2.1); rintro e w129 ⟨rfl, hb⟩; refine ⟨_, rfl, ?_⟩; have n0_ := yaa (yaj (upR b2.out) hb); have n1_ := yaa (yaj (upR b1.out) hb); have n2_ := yaa (yaj (upR b0.out) hb); have n3_ := yaa (yad (g := b9) (o := .cells #[.int .i64 a0_0, .int .i64 a0_1, .slice A0_2 l0_2.length c0_2] 44 (0, 0)) (upB a9.out) hb); have n4_ := yaa (yad (g := b8) (o := .cells #[.int .i64 a1_0, .int .i64 a1_1, .int .i64 a1_2, .int .i64 a1_3, .int .i64 a1_4] 45 (0, 0)) (upB a8.out) hb); have n5_ := yaa (yad (g := b6) (o := .cells #[.int .i64 d8, .int .i64 e0, .slice e4 d0.length e2] 25 (0, 0)) (upB b3.out) hb); have n6_ := yaa (yad (g := c3) (o := .cells #[.int .i64 e9, .int .i64 f1, .slice d6 g9.length d7] 25 (0, 0)) (upB b4.out) hb); have n7_ := yaa (yad (g := b7) (o := .cells #[.int .i64 d9, .int .i64 e1, .slice f3 d2.length f2] 25 (0, 0)) (upB b5.out) hb); have n8_ := yaa (yas (by repeat (first | (with_reducible first | exact HB.out | apply yaf | apply yac | apply yae | refine yag ?_ (Aside0.out ‹_›)) | exact HB.out)) hb); clear b2; clear b1; clear b0; clear a9; clear a8; clear b3; clear b4; clear b5; clear HB; have b2 := n0_; have b1 := n1_; have b0 := n2_; have a9 := n3_; have a8 := n4_; have b3 := n5_; have b4 := n6_; have b5 := n7_; have HB := n8_; clear n0_ n1_ n2_ n3_ n4_ n5_ n6_ n7_ n8_; (try clear hb); (try clear hb2); (try clear hk); (try clear hi)))
           have n0_ := yaa (yak b2.out)
           have n1_ := yaa (yak b1.out)
           have n2_ := yaa (yak b0.out)
           have n3_ := yaa (yao a9.out)
           have n4_ := yaa (yao a8.out)
           have n5_ := yaa (yao b3.out)
           have n6_ := yaa (yao b4.out)
           have n7_ := yaa (yao b5.out)
           have n8_ := yaa (yae HB.out)
           clear b2 b1 b0 a9 a8 b3 b4 b5 HB
           have b2 := n0_
           have b1 := n1_
           have b0 := n2_
           have a9 := n3_
           have a8 := n4_
           have b3 := n5_
           have b4 := n6_
           have b5 := n7_
           have HB := n8_
           clear n0_ n1_ n2_ n3_ n4_ n5_ n6_ n7_ n8_
           refine start_ (n := 11) (S := fun w' => w'.cell? ⟨b9, 0, none⟩ = some (.int .i64 a0_0) ∧ w'.cell? ⟨b9, 1, none⟩ = some (.int .i64 a0_1) ∧ w'.cell? ⟨b9, 2, none⟩ = some (.slice A0_2 l0_2.length c0_2) ∧ w'.cell? ⟨b8, 0, none⟩ = some (.int .i64 a1_0) ∧ w'.cell? ⟨b8, 1, none⟩ = some (.int .i64 a1_1) ∧ w'.cell? ⟨b8, 2, none⟩ = some (.int .i64 a1_2) ∧ w'.cell? ⟨b8, 3, none⟩ = some (.int .i64 a1_3) ∧ w'.cell? ⟨b8, 4, none⟩ = some (.int .i64 a1_4)) (ds := []) q7_0 (by kernel_rfl) rfl rfl ⟨(yab a9.out 0).trans rfl, (yab a9.out 1).trans rfl, (yab a9.out 2).trans rfl, (yab a8.out 0).trans rfl, (yab a8.out 1).trans rfl, (yab a8.out 2).trans rfl, (yab a8.out 3).trans rfl, (yab a8.out 4).trans rfl⟩ (fun hHeld => ?_); refine with_tabW laws_FnExactOpDo.tab24 laws_FnExactOpDo.bits24 (fun HT_ HW_ => ?_)
           generalize w129.drew = w130 at b2 b1 b0 a9 a8 b3 b4 b5 HB hHeld ⊢
           refine tz_ 0 80 q7_1 HT_ HW_ (by kernel_rfl) hHeld ?_
           refine tz_ 2 82 q7_2 HT_ HW_ (by kernel_rfl) hHeld ?_
           refine join_ (σ := Value × Value × Nat) 2 q7_3 (fun s_ => [(81, .agg #[.int .i64 o3, .int .i64 o4, s_.1]), (83, .agg #[.int .i64 n3, .int .i64 n4, .int .i64 n5, .int .i64 n6, .int .i64 n7]), (84, .tuple #[.agg #[.int .i64 i4, .int .i64 i6, s_.2.1], .bool o5]), (14, .pointer (some ⟨s_.2.2, 0, none⟩)), (79, .tuple #[.agg #[.int .i64 i4, .int .i64 i6, s_.2.1], .bool o5]), (85, .agg #[.int .i64 i4, .int .i64 i6, s_.2.1]), (86, .bool o5)]) (fun s_ w' => (w'.cell? ⟨b9, 0, none⟩ = some (.int .i64 a0_0) ∧ w'.cell? ⟨b9, 1, none⟩ = some (.int .i64 a0_1) ∧ w'.cell? ⟨b9, 2, none⟩ = some (.slice A0_2 l0_2.length c0_2) ∧ w'.cell? ⟨b8, 0, none⟩ = some (.int .i64 a1_0) ∧ w'.cell? ⟨b8, 1, none⟩ = some (.int .i64 a1_1) ∧ w'.cell? ⟨b8, 2, none⟩ = some (.int .i64 a1_2) ∧ w'.cell? ⟨b8, 3, none⟩ = some (.int .i64 a1_3) ∧ w'.cell? ⟨b8, 4, none⟩ = some (.int .i64 a1_4)) ∧ (Kd.R k36 36 w' w.heap.size (fun k_ => some k_ ≠ (s_.2.1 : Value).ownBlock ∧ some k_ ≠ (.slice e4 d0.length e2 : Value).ownBlock ∧ some k_ ≠ (.slice d6 g9.length d7 : Value).ownBlock ∧ some k_ ≠ (.slice f3 d2.length f2 : Value).ownBlock) s_.1 l2) ∧ (Kd.R k36 36 w' w.heap.size (fun k_ => some k_ ≠ (s_.1 : Value).ownBlock ∧ some k_ ≠ (.slice e4 d0.length e2 : Value).ownBlock ∧ some k_ ≠ (.slice d6 g9.length d7 : Value).ownBlock ∧ some k_ ≠ (.slice f3 d2.length f2 : Value).ownBlock) s_.2.1 i2) ∧ (Kd.R k36 36 w' w.heap.size (fun k_ => some k_ ≠ (s_.1 : Value).ownBlock ∧ some k_ ≠ (s_.2.1 : Value).ownBlock ∧ some k_ ≠ (.slice d6 g9.length d7 : Value).ownBlock ∧ some k_ ≠ (.slice f3 d2.length f2 : Value).ownBlock) (.slice e4 d0.length e2) d0) ∧ (Kd.R k36 36 w' w.heap.size (fun k_ => some k_ ≠ (s_.1 : Value).ownBlock ∧ some k_ ≠ (s_.2.1 : Value).ownBlock ∧ some k_ ≠ (.slice e4 d0.length e2 : Value).ownBlock ∧ some k_ ≠ (.slice f3 d2.length f2 : Value).ownBlock) (.slice d6 g9.length d7) g9) ∧ (Kd.R k36 36 w' w.heap.size (fun k_ => some k_ ≠ (s_.1 : Value).ownBlock ∧ some k_ ≠ (s_.2.1 : Value).ownBlock ∧ some k_ ≠ (.slice e4 d0.length e2 : Value).ownBlock ∧ some k_ ≠ (.slice d6 g9.length d7 : Value).ownBlock) (.slice f3 d2.length f2) k2) ∧ (w'.heap[b9]? = some (.cells #[.int .i64 a0_0, .int .i64 a0_1, .slice A0_2 l0_2.length c0_2] 44 (0, 0))) ∧ (w'.heap[b8]? = some (.cells #[.int .i64 a1_0, .int .i64 a1_1, .int .i64 a1_2, .int .i64 a1_3, .int .i64 a1_4] 45 (0, 0))) ∧ (w'.heap[b6]? = some (.cells #[.int .i64 d8, .int .i64 e0, .slice e4 d0.length e2] 25 (0, 0))) ∧ (w'.heap[c3]? = some (.cells #[.int .i64 e9, .int .i64 f1, .slice d6 g9.length d7] 25 (0, 0))) ∧ (w'.heap[b7]? = some (.cells #[.int .i64 d9, .int .i64 e1, .slice f3 d2.length f2] 25 (0, 0))) ∧ (w'.heap[s_.2.2]? = some (.cells #[.int .i64 0, .int .i64 0, .slice none 0 0] 25 (0, 0))) ∧ (w.heap.size ≤ s_.2.2) ∧ (w.heap.size ≤ s_.2.2) ∧ (b9 ≠ s_.2.2) ∧ (s_.2.2 ≠ b9) ∧ (b8 ≠ s_.2.2) ∧ (s_.2.2 ≠ b8) ∧ (b6 ≠ s_.2.2) ∧ (s_.2.2 ≠ b6) ∧ (c3 ≠ s_.2.2) ∧ (s_.2.2 ≠ c3) ∧ (b7 ≠ s_.2.2) ∧ (s_.2.2 ≠ b7) ∧ (Below w.heap.size w w')) ?_ ?_
           rotate_left
           ·
            intro hCont
            refine two_ (i := 1) (j := 8) (Ni := some 81) (Nj := some 14) q7_4 q7_5 rfl rfl rfl rfl (two_of HT_.out (by kernel_rfl)) (by decide) (by decide) (fun K hK => ?_) (fun K hK => ?_)
            ·
             skip
             refine goes_ Try.func21 (by kernel_rfl) rfl #[.agg #[.int .i64 a0_0, .int .i64 a0_1, .slice A0_2 l0_2.length c0_2]] (by rfl) rfl rfl (by (try simp only [List.map_toArray, List.map_cons, List.map_nil]); first | done | rfl | (simp only [List.length_drop, List.length_take]; rfl)) ?_
             with_reducible refine (laws_toRasRaster.calls kj78 a0_0 a0_1 _ _ l0_2 o3 o4 l2 _ ?side1 ?side2 G9.out).mono ?_
             (case side1 => repeat (first | exact (Kd.C_below HR0_2.out HB.out) | (with_reducible refine ybc ?_ _) | (with_reducible refine ybd ?_ _) | (with_reducible refine ybf ?_)))
             (case side2 => exact HC0_2.out)
             rintro e w131 ⟨o6, rfl, ho0, hb⟩
             refine ⟨_, rfl, ?_⟩
             have n0_ := yaa (yav (upR b2.out) (yaz ho0) hb)
             have n1_ := yaa (yav (upR b1.out) (yaz ho0) hb)
             have n2_ := yaa (yav (upR b0.out) (yaz ho0) hb)
             have n3_ := yaa (ybg (yba (yba (yba ho0 (ybe (upR b2.out))) (ybe (upR b1.out))) (ybe (upR b0.out))) (yau (by repeat (first | (with_reducible first | exact HB.out | apply yaf | apply yac | apply yae | refine yag ?_ (Aside0.out ‹_›)) | exact HB.out))))
             have n4_ := yaa (yad (g := b9) (o := .cells #[.int .i64 a0_0, .int .i64 a0_1, .slice A0_2 l0_2.length c0_2] 44 (0, 0)) (upB a9.out) hb)
             have n5_ := yaa (yad (g := b8) (o := .cells #[.int .i64 a1_0, .int .i64 a1_1, .int .i64 a1_2, .int .i64 a1_3, .int .i64 a1_4] 45 (0, 0)) (upB a8.out) hb)
             have n6_ := yaa (yad (g := b6) (o := .cells #[.int .i64 d8, .int .i64 e0, .slice e4 d0.length e2] 25 (0, 0)) (upB b3.out) hb)
             have n7_ := yaa (yad (g := c3) (o := .cells #[.int .i64 e9, .int .i64 f1, .slice d6 g9.length d7] 25 (0, 0)) (upB b4.out) hb)
             have n8_ := yaa (yad (g := b7) (o := .cells #[.int .i64 d9, .int .i64 e1, .slice f3 d2.length f2] 25 (0, 0)) (upB b5.out) hb)
             have n9_ := yaa (yas (by repeat (first | (with_reducible first | exact HB.out | apply yaf | apply yac | apply yae | refine yag ?_ (Aside0.out ‹_›)) | exact HB.out)) hb)
             clear b2 b1 b0 a9 a8 b3 b4 b5 HB
             have b2 := n0_
             have b1 := n1_
             have b0 := n2_
             have f4 := n3_
             have a9 := n4_
             have a8 := n5_
             have b3 := n6_
             have b4 := n7_
             have b5 := n8_
             have HB := n9_
             clear n0_ n1_ n2_ n3_ n4_ n5_ n6_ n7_ n8_ n9_
             (try clear hb)
             (try clear hb2)
             (try clear hk)
             (try clear hi)
             (try clear ho0)
             refine hK.out _ _ ⟨(yab a9.out 0).trans rfl, (yab a9.out 1).trans rfl, (yab a9.out 2).trans rfl, (yab a8.out 0).trans rfl, (yab a8.out 1).trans rfl, (yab a8.out 2).trans rfl, (yab a8.out 3).trans rfl, (yab a8.out 4).trans rfl⟩ (fun hHeld => ?_)
             clear hK K
             refine ybh (a' := ?_) ?_ ?_
             rotate_left
             ·
              show Act.put _ (some 81) _ = _
              simp only [Act.put, List.setIfInBounds_toArray, List.set_cons_zero, List.set_cons_succ, i64_w, i32_w]
              rfl
             refine two_ (i := 3) (j := 8) (Ni := some 83) (Nj := some 14) q7_6 q7_7 rfl rfl rfl rfl (two_of HT_.out (by kernel_rfl)) (by decide) (by decide) (fun K hK => ?_) (fun K hK => ?_)
             ·
              skip
              refine goes_ Try.func22 (by kernel_rfl) rfl #[.agg #[.int .i64 a1_0, .int .i64 a1_1, .int .i64 a1_2, .int .i64 a1_3, .int .i64 a1_4]] (by rfl) rfl rfl (by (try simp only [List.map_toArray, List.map_cons, List.map_nil]); first | done | rfl | (simp only [List.length_drop, List.length_take]; rfl)) ?_
              with_reducible refine (laws_toOpOp.calls a1_0 a1_1 a1_2 a1_3 a1_4 n3 n4 n5 n6 n7 _ E5.out).mono ?_
              rintro e w132 ⟨rfl, hb⟩
              refine ⟨_, rfl, ?_⟩
              have n0_ := yaa (yaj (upR b2.out) hb)
              have n1_ := yaa (yaj (upR b1.out) hb)
              have n2_ := yaa (yaj (upR b0.out) hb)
              have n3_ := yaa (yaj (upR f4.out) hb)
              have n4_ := yaa (yad (g := b9) (o := .cells #[.int .i64 a0_0, .int .i64 a0_1, .slice A0_2 l0_2.length c0_2] 44 (0, 0)) (upB a9.out) hb)
              have n5_ := yaa (yad (g := b8) (o := .cells #[.int .i64 a1_0, .int .i64 a1_1, .int .i64 a1_2, .int .i64 a1_3, .int .i64 a1_4] 45 (0, 0)) (upB a8.out) hb)
              have n6_ := yaa (yad (g := b6) (o := .cells #[.int .i64 d8, .int .i64 e0, .slice e4 d0.length e2] 25 (0, 0)) (upB b3.out) hb)
              have n7_ := yaa (yad (g := c3) (o := .cells #[.int .i64 e9, .int .i64 f1, .slice d6 g9.length d7] 25 (0, 0)) (upB b4.out) hb)
              have n8_ := yaa (yad (g := b7) (o := .cells #[.int .i64 d9, .int .i64 e1, .slice f3 d2.length f2] 25 (0, 0)) (upB b5.out) hb)
              have n9_ := yaa (yas (by repeat (first | (with_reducible first | exact HB.out | apply yaf | apply yac | apply yae | refine yag ?_ (Aside0.out ‹_›)) | exact HB.out)) hb)
              clear b2 b1 b0 f4 a9 a8 b3 b4 b5 HB
              have b2 := n0_
              have b1 := n1_
              have b0 := n2_
              have f4 := n3_
              have a9 := n4_
              have a8 := n5_
              have b3 := n6_
              have b4 := n7_
              have b5 := n8_
              have HB := n9_
              clear n0_ n1_ n2_ n3_ n4_ n5_ n6_ n7_ n8_ n9_
              (try clear hb)
              (try clear hb2)
              (try clear hk)
              (try clear hi)
              obtain ⟨D2, D3, D4⟩ := Kd.R_slice f4.out
              (first | subst D4 | (injection D4 with f1_ f2_ f3_; have f4_ := f1_.symm; have f5_ := f3_.symm; clear f1_ f2_ f3_; subst f4_; subst f5_))
              refine hK.out _ _ ⟨(yab a9.out 0).trans rfl, (yab a9.out 1).trans rfl, (yab a9.out 2).trans rfl, (yab a8.out 0).trans rfl, (yab a8.out 1).trans rfl, (yab a8.out 2).trans rfl, (yab a8.out 3).trans rfl, (yab a8.out 4).trans rfl⟩ (fun hHeld => ?_)
              clear hK K
              refine ybh (a' := ?_) ?_ ?_
              rotate_left
              ·
               show Act.put _ (some 83) _ = _
               simp only [Act.put, List.setIfInBounds_toArray, List.set_cons_zero, List.set_cons_succ, i64_w, i32_w]
               rfl
              refine two_ (i := 4) (j := 8) (Ni := some 84) (Nj := some 14) q7_8 q7_9 rfl rfl rfl rfl (two_of HT_.out (by kernel_rfl)) (by decide) (by decide) (fun K hK => ?_) (fun K hK => ?_)
              ·
               skip
               refine goes_ Try.func11 (by kernel_rfl) rfl #[.agg #[.int .i64 o3, .int .i64 o4, .slice D2 l2.length D3], .agg #[.int .i64 n3, .int .i64 n4, .int .i64 n5, .int .i64 n6, .int .i64 n7]] (by rfl) rfl rfl (by (try simp only [List.map_toArray, List.map_cons, List.map_nil]); first | done | rfl | (simp only [List.length_drop, List.length_take]; rfl)) ?_
               with_reducible refine (impl_OpDo.calls o3 o4 _ _ l2 n3 n4 n5 n6 n7 i4 i6 i2 o5 _ ?side1 ?side2 r2.out).mono ?_
               (case side1 => repeat (first | exact (yar f4.out).2.2 | (with_reducible refine ybc ?_ _) | (with_reducible refine ybd ?_ _) | (with_reducible refine ybf ?_)))
               (case side2 => exact (yar f4.out).2.1)
               rintro e w134 ⟨m0, rfl, ho0, hb⟩
               refine ⟨_, rfl, ?_⟩
               have n0_ := yaa (yav (upR b2.out) (yaz ho0) hb)
               have n1_ := yaa (yav (upR b1.out) (yaz ho0) hb)
               have n2_ := yaa (yav (upR b0.out) (yaz ho0) hb)
               have n3_ := yaa (yav (upR f4.out) (yaz ho0) hb)
               have n4_ := yaa (ybg (yba (yba (yba (yba ho0 (ybe (upR b2.out))) (ybe (upR b1.out))) (ybe (upR b0.out))) (ybe (upR f4.out))) (yau (by repeat (first | (with_reducible first | exact HB.out | apply yaf | apply yac | apply yae | refine yag ?_ (Aside0.out ‹_›)) | exact HB.out))))
               have n5_ := yaa (yad (g := b9) (o := .cells #[.int .i64 a0_0, .int .i64 a0_1, .slice A0_2 l0_2.length c0_2] 44 (0, 0)) (upB a9.out) hb)
               have n6_ := yaa (yad (g := b8) (o := .cells #[.int .i64 a1_0, .int .i64 a1_1, .int .i64 a1_2, .int .i64 a1_3, .int .i64 a1_4] 45 (0, 0)) (upB a8.out) hb)
               have n7_ := yaa (yad (g := b6) (o := .cells #[.int .i64 d8, .int .i64 e0, .slice e4 d0.length e2] 25 (0, 0)) (upB b3.out) hb)
               have n8_ := yaa (yad (g := c3) (o := .cells #[.int .i64 e9, .int .i64 f1, .slice d6 g9.length d7] 25 (0, 0)) (upB b4.out) hb)
               have n9_ := yaa (yad (g := b7) (o := .cells #[.int .i64 d9, .int .i64 e1, .slice f3 d2.length f2] 25 (0, 0)) (upB b5.out) hb)
               have g0 := yaa (yas (by repeat (first | (with_reducible first | exact HB.out | apply yaf | apply yac | apply yae | refine yag ?_ (Aside0.out ‹_›)) | exact HB.out)) hb)
               clear b2 b1 b0 f4 a9 a8 b3 b4 b5 HB
               have b2 := n0_
               have b1 := n1_
               have b0 := n2_
               have f4 := n3_
               have i3 := n4_
               have a9 := n5_
               have a8 := n6_
               have b3 := n7_
               have b4 := n8_
               have b5 := n9_
               have HB := g0
               clear n0_ n1_ n2_ n3_ n4_ n5_ n6_ n7_ n8_ n9_ g0
               (try clear hb)
               (try clear hb2)
               (try clear hk)
               (try clear hi)
               (try clear ho0)
               refine hK.out _ _ ⟨(yab a9.out 0).trans rfl, (yab a9.out 1).trans rfl, (yab a9.out 2).trans rfl, (yab a8.out 0).trans rfl, (yab a8.out 1).trans rfl, (yab a8.out 2).trans rfl, (yab a8.out 3).trans rfl, (yab a8.out 4).trans rfl⟩ (fun hHeld => ?_)
               clear hK K
               refine ybh (a' := ?_) ?_ ?_
               rotate_left
               ·
                show Act.put _ (some 84) _ = _
                simp only [Act.put, List.setIfInBounds_toArray, List.set_cons_zero, List.set_cons_succ, i64_w, i32_w]
                rfl
               refine pz_ 5 79 q7_10 HT_ (by kernel_rfl) ?_
               refine pz_ 6 85 q7_11 HT_ (by kernel_rfl) ?_
               refine pz_ 7 86 q7_12 HT_ (by kernel_rfl) ?_
               refine one_ (i := 8) (N := some 14) q7_3 rfl rfl (one_of HT_.out (by kernel_rfl)) (by decide) (fun K hK => ?_)
               refine box_step ?hg (N := 14) ?hd (cs := #[.int .i64 0, .int .i64 0, .slice none 0 0]) (t := 25) ?hr ?_; (case hd => rfl); (case hg => rfl); (case hr => first | (go_simp; done) | (go_simp; rfl))
               intro c0 hg w135 hbox hb
               have n0_ := yaa (yaj (upR b2.out) hb)
               have n1_ := yaa (yaj (upR b1.out) hb)
               have n2_ := yaa (yaj (upR b0.out) hb)
               have n3_ := yaa (yaj (upR f4.out) hb)
               have n4_ := yaa (yaj (upR i3.out) hb)
               have n5_ := yaa (yad (g := b9) (o := .cells #[.int .i64 a0_0, .int .i64 a0_1, .slice A0_2 l0_2.length c0_2] 44 (0, 0)) (upB a9.out) hb)
               have n6_ := yaa (yad (g := b8) (o := .cells #[.int .i64 a1_0, .int .i64 a1_1, .int .i64 a1_2, .int .i64 a1_3, .int .i64 a1_4] 45 (0, 0)) (upB a8.out) hb)
               have n7_ := yaa (yad (g := b6) (o := .cells #[.int .i64 d8, .int .i64 e0, .slice e4 d0.length e2] 25 (0, 0)) (upB b3.out) hb)
               have n8_ := yaa (yad (g := c3) (o := .cells #[.int .i64 e9, .int .i64 f1, .slice d6 g9.length d7] 25 (0, 0)) (upB b4.out) hb)
               have n9_ := yaa (yad (g := b7) (o := .cells #[.int .i64 d9, .int .i64 e1, .slice f3 d2.length f2] 25 (0, 0)) (upB b5.out) hb)
               have g0 := yaa (yas (by repeat (first | (with_reducible first | exact HB.out | apply yaf | apply yac | apply yae | refine yag ?_ (Aside0.out ‹_›)) | exact HB.out)) hb)
               have h1 := yaa (hbox)
               have i9 := yaa ((by rw [hg]; exact (yau (by repeat (first | (with_reducible first | exact HB.out | apply yaf | apply yac | apply yae | refine yag ?_ (Aside0.out ‹_›)) | exact HB.out))) : w.heap.size ≤ c0))
               have j3 := yaa ((by rw [hg]; exact (yau (by repeat (first | (with_reducible first | exact HB.out | apply yaf | apply yac | apply yae | refine yag ?_ (Aside0.out ‹_›)) | exact HB.out))) : w.heap.size ≤ c0))
               have j4 := yaa ((by rw [hg]; exact Nat.ne_of_lt (yay (g := b9) (o := .cells #[.int .i64 a0_0, .int .i64 a0_1, .slice A0_2 l0_2.length c0_2] 44 (0, 0)) (upB a9.out)) : b9 ≠ c0))
               have j5 := yaa ((by rw [hg]; exact Nat.ne_of_gt (yay (g := b9) (o := .cells #[.int .i64 a0_0, .int .i64 a0_1, .slice A0_2 l0_2.length c0_2] 44 (0, 0)) (upB a9.out)) : c0 ≠ b9))
               have j6 := yaa ((by rw [hg]; exact Nat.ne_of_lt (yay (g := b8) (o := .cells #[.int .i64 a1_0, .int .i64 a1_1, .int .i64 a1_2, .int .i64 a1_3, .int .i64 a1_4] 45 (0, 0)) (upB a8.out)) : b8 ≠ c0))
               have j7 := yaa ((by rw [hg]; exact Nat.ne_of_gt (yay (g := b8) (o := .cells #[.int .i64 a1_0, .int .i64 a1_1, .int .i64 a1_2, .int .i64 a1_3, .int .i64 a1_4] 45 (0, 0)) (upB a8.out)) : c0 ≠ b8))
               have j8 := yaa ((by rw [hg]; exact Nat.ne_of_lt (yay (g := b6) (o := .cells #[.int .i64 d8, .int .i64 e0, .slice e4 d0.length e2] 25 (0, 0)) (upB b3.out)) : b6 ≠ c0))
               have k5 := yaa ((by rw [hg]; exact Nat.ne_of_gt (yay (g := b6) (o := .cells #[.int .i64 d8, .int .i64 e0, .slice e4 d0.length e2] 25 (0, 0)) (upB b3.out)) : c0 ≠ b6))
               have l5 := yaa ((by rw [hg]; exact Nat.ne_of_lt (yay (g := c3) (o := .cells #[.int .i64 e9, .int .i64 f1, .slice d6 g9.length d7] 25 (0, 0)) (upB b4.out)) : c3 ≠ c0))
               have l6 := yaa ((by rw [hg]; exact Nat.ne_of_gt (yay (g := c3) (o := .cells #[.int .i64 e9, .int .i64 f1, .slice d6 g9.length d7] 25 (0, 0)) (upB b4.out)) : c0 ≠ c3))
               have o7 := yaa ((by rw [hg]; exact Nat.ne_of_lt (yay (g := b7) (o := .cells #[.int .i64 d9, .int .i64 e1, .slice f3 d2.length f2] 25 (0, 0)) (upB b5.out)) : b7 ≠ c0))
               have x2 := yaa ((by rw [hg]; exact Nat.ne_of_gt (yay (g := b7) (o := .cells #[.int .i64 d9, .int .i64 e1, .slice f3 d2.length f2] 25 (0, 0)) (upB b5.out)) : c0 ≠ b7))
               clear b2 b1 b0 f4 i3 a9 a8 b3 b4 b5 HB
               have b2 := n0_
               have b1 := n1_
               have b0 := n2_
               have f4 := n3_
               have i3 := n4_
               have a9 := n5_
               have a8 := n6_
               have b3 := n7_
               have b4 := n8_
               have b5 := n9_
               have HB := g0
               have e6 := h1
               have m3 := i9
               have m4 := j3
               have e8 := j4
               have h3 := j5
               have d5 := j6
               have h4 := j7
               have g1 := j8
               have h5 := k5
               have g2 := l5
               have h6 := l6
               have f9 := o7
               have h0 := x2
               clear n0_ n1_ n2_ n3_ n4_ n5_ n6_ n7_ n8_ n9_ g0 h1 i9 j3 j4 j5 j6 j7 j8 k5 l5 l6 o7 x2 hb hbox hg
               refine hK.out _ _ ⟨(yab a9.out 0).trans rfl, (yab a9.out 1).trans rfl, (yab a9.out 2).trans rfl, (yab a8.out 0).trans rfl, (yab a8.out 1).trans rfl, (yab a8.out 2).trans rfl, (yab a8.out 3).trans rfl, (yab a8.out 4).trans rfl⟩ (fun hHeld => ?_)
               clear hK K
               refine ybh (a' := ?_) ?_ ?_
               rotate_left
               ·
                show Act.put _ (some 14) _ = _
                simp only [Act.put, List.setIfInBounds_toArray, List.set_cons_zero, List.set_cons_succ, i64_w, i32_w]
                rfl
               exact ybh (by simp only [putAll, Act.put, List.setIfInBounds_toArray, List.set_cons_zero, List.set_cons_succ]) (hCont (.slice D2 l2.length D3, m0, c0) _ ⟨hHeld, (by (with_reducible repeat (first | apply yah | apply yai | apply yak)); exact yal f4.out (fun _ hk => ⟨hk.2, ⟨hk.1.1.1.2, ⟨hk.1.1.2, hk.1.2⟩⟩⟩)), (by (with_reducible repeat (first | apply yah | apply yai | apply yak)); exact yal i3.out (fun _ hk => ⟨hk.2, ⟨hk.1.1.1.2, ⟨hk.1.1.2, hk.1.2⟩⟩⟩)), (by (with_reducible repeat (first | apply yah | apply yai | apply yak)); exact yal b2.out (fun _ hk => ⟨hk.1.2, ⟨hk.2, ⟨hk.1.1.1, hk.1.1.2⟩⟩⟩)), (by (with_reducible repeat (first | apply yah | apply yai | apply yak)); exact yal b1.out (fun _ hk => ⟨hk.1.2, ⟨hk.2, ⟨hk.1.1.1, hk.1.1.2⟩⟩⟩)), (by (with_reducible repeat (first | apply yah | apply yai | apply yak)); exact yal b0.out (fun _ hk => ⟨hk.1.2, ⟨hk.2, ⟨hk.1.1.1, hk.1.1.2⟩⟩⟩)), (upB a9.out), (upB a8.out), (upB b3.out), (upB b4.out), (upB b5.out), (upB e6.out), m3.out, m4.out, e8.out, h3.out, d5.out, h4.out, g1.out, h5.out, g2.out, h6.out, f9.out, h0.out, (by repeat (first | (with_reducible first | exact HB.out | apply yaf | apply yac | apply yae | refine yag ?_ (Aside0.out ‹_›)) | exact HB.out))⟩)
              ·
               skip
               refine box_step ?hg (N := 14) ?hd (cs := #[.int .i64 0, .int .i64 0, .slice none 0 0]) (t := 25) ?hr ?_; (case hd => rfl); (case hg => rfl); (case hr => first | (go_simp; done) | (go_simp; rfl))
               intro c0 hg w133 hbox hb
               have n0_ := yaa (yaj (upR b2.out) hb)
               have n1_ := yaa (yaj (upR b1.out) hb)
               have n2_ := yaa (yaj (upR b0.out) hb)
               have n3_ := yaa (yaj (upR f4.out) hb)
               have n4_ := yaa (yad (g := b9) (o := .cells #[.int .i64 a0_0, .int .i64 a0_1, .slice A0_2 l0_2.length c0_2] 44 (0, 0)) (upB a9.out) hb)
               have n5_ := yaa (yad (g := b8) (o := .cells #[.int .i64 a1_0, .int .i64 a1_1, .int .i64 a1_2, .int .i64 a1_3, .int .i64 a1_4] 45 (0, 0)) (upB a8.out) hb)
               have n6_ := yaa (yad (g := b6) (o := .cells #[.int .i64 d8, .int .i64 e0, .slice e4 d0.length e2] 25 (0, 0)) (upB b3.out) hb)
               have n7_ := yaa (yad (g := c3) (o := .cells #[.int .i64 e9, .int .i64 f1, .slice d6 g9.length d7] 25 (0, 0)) (upB b4.out) hb)
               have n8_ := yaa (yad (g := b7) (o := .cells #[.int .i64 d9, .int .i64 e1, .slice f3 d2.length f2] 25 (0, 0)) (upB b5.out) hb)
               have n9_ := yaa (yas (by repeat (first | (with_reducible first | exact HB.out | apply yaf | apply yac | apply yae | refine yag ?_ (Aside0.out ‹_›)) | exact HB.out)) hb)
               have g0 := yaa (hbox)
               have h1 := yaa ((by rw [hg]; exact (yau (by repeat (first | (with_reducible first | exact HB.out | apply yaf | apply yac | apply yae | refine yag ?_ (Aside0.out ‹_›)) | exact HB.out))) : w.heap.size ≤ c0))
               have i9 := yaa ((by rw [hg]; exact (yau (by repeat (first | (with_reducible first | exact HB.out | apply yaf | apply yac | apply yae | refine yag ?_ (Aside0.out ‹_›)) | exact HB.out))) : w.heap.size ≤ c0))
               have j3 := yaa ((by rw [hg]; exact Nat.ne_of_lt (yay (g := b9) (o := .cells #[.int .i64 a0_0, .int .i64 a0_1, .slice A0_2 l0_2.length c0_2] 44 (0, 0)) (upB a9.out)) : b9 ≠ c0))
               have j4 := yaa ((by rw [hg]; exact Nat.ne_of_gt (yay (g := b9) (o := .cells #[.int .i64 a0_0, .int .i64 a0_1, .slice A0_2 l0_2.length c0_2] 44 (0, 0)) (upB a9.out)) : c0 ≠ b9))
               have j5 := yaa ((by rw [hg]; exact Nat.ne_of_lt (yay (g := b8) (o := .cells #[.int .i64 a1_0, .int .i64 a1_1, .int .i64 a1_2, .int .i64 a1_3, .int .i64 a1_4] 45 (0, 0)) (upB a8.out)) : b8 ≠ c0))
               have j6 := yaa ((by rw [hg]; exact Nat.ne_of_gt (yay (g := b8) (o := .cells #[.int .i64 a1_0, .int .i64 a1_1, .int .i64 a1_2, .int .i64 a1_3, .int .i64 a1_4] 45 (0, 0)) (upB a8.out)) : c0 ≠ b8))
               have j7 := yaa ((by rw [hg]; exact Nat.ne_of_lt (yay (g := b6) (o := .cells #[.int .i64 d8, .int .i64 e0, .slice e4 d0.length e2] 25 (0, 0)) (upB b3.out)) : b6 ≠ c0))
               have j8 := yaa ((by rw [hg]; exact Nat.ne_of_gt (yay (g := b6) (o := .cells #[.int .i64 d8, .int .i64 e0, .slice e4 d0.length e2] 25 (0, 0)) (upB b3.out)) : c0 ≠ b6))
               have k5 := yaa ((by rw [hg]; exact Nat.ne_of_lt (yay (g := c3) (o := .cells #[.int .i64 e9, .int .i64 f1, .slice d6 g9.length d7] 25 (0, 0)) (upB b4.out)) : c3 ≠ c0))
               have l5 := yaa ((by rw [hg]; exact Nat.ne_of_gt (yay (g := c3) (o := .cells #[.int .i64 e9, .int .i64 f1, .slice d6 g9.length d7] 25 (0, 0)) (upB b4.out)) : c0 ≠ c3))
               have l6 := yaa ((by rw [hg]; exact Nat.ne_of_lt (yay (g := b7) (o := .cells #[.int .i64 d9, .int .i64 e1, .slice f3 d2.length f2] 25 (0, 0)) (upB b5.out)) : b7 ≠ c0))
               have o7 := yaa ((by rw [hg]; exact Nat.ne_of_gt (yay (g := b7) (o := .cells #[.int .i64 d9, .int .i64 e1, .slice f3 d2.length f2] 25 (0, 0)) (upB b5.out)) : c0 ≠ b7))
               clear b2 b1 b0 f4 a9 a8 b3 b4 b5 HB
               have b2 := n0_
               have b1 := n1_
               have b0 := n2_
               have f4 := n3_
               have a9 := n4_
               have a8 := n5_
               have b3 := n6_
               have b4 := n7_
               have b5 := n8_
               have HB := n9_
               have e6 := g0
               have m3 := h1
               have m4 := i9
               have e8 := j3
               have h3 := j4
               have d5 := j5
               have h4 := j6
               have g1 := j7
               have h5 := j8
               have g2 := k5
               have h6 := l5
               have f9 := l6
               have h0 := o7
               clear n0_ n1_ n2_ n3_ n4_ n5_ n6_ n7_ n8_ n9_ g0 h1 i9 j3 j4 j5 j6 j7 j8 k5 l5 l6 o7 hb hbox hg
               obtain ⟨m5, m6, m7⟩ := Kd.R_slice f4.out
               (first | subst m7 | (injection m7 with f1_ f2_ f3_; have f4_ := f1_.symm; have f5_ := f3_.symm; clear f1_ f2_ f3_; subst f4_; subst f5_))
               refine hK.out _ _ ⟨(yab a9.out 0).trans rfl, (yab a9.out 1).trans rfl, (yab a9.out 2).trans rfl, (yab a8.out 0).trans rfl, (yab a8.out 1).trans rfl, (yab a8.out 2).trans rfl, (yab a8.out 3).trans rfl, (yab a8.out 4).trans rfl⟩ (fun hHeld => ?_)
               clear hK K
               refine ybh (a' := ?_) ?_ ?_
               rotate_left
               ·
                show Act.put _ (some 14) _ = _
                simp only [Act.put, List.setIfInBounds_toArray, List.set_cons_zero, List.set_cons_succ, i64_w, i32_w]
                rfl
               refine one_ (i := 4) (N := some 84) q7_13 rfl rfl (one_of HT_.out (by kernel_rfl)) (by decide) (fun K hK => ?_)
               refine goes_ Try.func11 (by kernel_rfl) rfl #[.agg #[.int .i64 o3, .int .i64 o4, .slice m5 l2.length m6], .agg #[.int .i64 n3, .int .i64 n4, .int .i64 n5, .int .i64 n6, .int .i64 n7]] (by rfl) rfl rfl (by (try simp only [List.map_toArray, List.map_cons, List.map_nil]); first | done | rfl | (simp only [List.length_drop, List.length_take]; rfl)) ?_
               with_reducible refine (impl_OpDo.calls o3 o4 _ _ l2 n3 n4 n5 n6 n7 i4 i6 i2 o5 _ ?side1 ?side2 r2.out).mono ?_
               (case side1 => repeat (first | exact (yar f4.out).2.2 | (with_reducible refine ybc ?_ _) | (with_reducible refine ybd ?_ _) | (with_reducible refine ybf ?_)))
               (case side2 => exact (yar f4.out).2.1)
               rintro e w135 ⟨m0, rfl, ho0, hb⟩
               refine ⟨_, rfl, ?_⟩
               have n0_ := yaa (yav (upR b2.out) (yaz ho0) hb)
               have n1_ := yaa (yav (upR b1.out) (yaz ho0) hb)
               have n2_ := yaa (yav (upR b0.out) (yaz ho0) hb)
               have n3_ := yaa (yav (upR f4.out) (yaz ho0) hb)
               have n4_ := yaa (ybg (yba (yba (yba (yba ho0 (ybe (upR b2.out))) (ybe (upR b1.out))) (ybe (upR b0.out))) (ybe (upR f4.out))) (yau (by repeat (first | (with_reducible first | exact HB.out | apply yaf | apply yac | apply yae | refine yag ?_ (Aside0.out ‹_›)) | exact HB.out))))
               have n5_ := yaa (yad (g := b9) (o := .cells #[.int .i64 a0_0, .int .i64 a0_1, .slice A0_2 l0_2.length c0_2] 44 (0, 0)) (upB a9.out) hb)
               have n6_ := yaa (yad (g := b8) (o := .cells #[.int .i64 a1_0, .int .i64 a1_1, .int .i64 a1_2, .int .i64 a1_3, .int .i64 a1_4] 45 (0, 0)) (upB a8.out) hb)
               have n7_ := yaa (yad (g := b6) (o := .cells #[.int .i64 d8, .int .i64 e0, .slice e4 d0.length e2] 25 (0, 0)) (upB b3.out) hb)
               have n8_ := yaa (yad (g := c3) (o := .cells #[.int .i64 e9, .int .i64 f1, .slice d6 g9.length d7] 25 (0, 0)) (upB b4.out) hb)
               have n9_ := yaa (yad (g := b7) (o := .cells #[.int .i64 d9, .int .i64 e1, .slice f3 d2.length f2] 25 (0, 0)) (upB b5.out) hb)
               have g0 := yaa (yad (g := c0) (o := .cells #[.int .i64 0, .int .i64 0, .slice none 0 0] 25 (0, 0)) (upB e6.out) hb)
               have h1 := yaa (yas (by repeat (first | (with_reducible first | exact HB.out | apply yaf | apply yac | apply yae | refine yag ?_ (Aside0.out ‹_›)) | exact HB.out)) hb)
               clear b2 b1 b0 f4 a9 a8 b3 b4 b5 e6 HB
               have b2 := n0_
               have b1 := n1_
               have b0 := n2_
               have f4 := n3_
               have i3 := n4_
               have a9 := n5_
               have a8 := n6_
               have b3 := n7_
               have b4 := n8_
               have b5 := n9_
               have e6 := g0
               have HB := h1
               clear n0_ n1_ n2_ n3_ n4_ n5_ n6_ n7_ n8_ n9_ g0 h1
               (try clear hb)
               (try clear hb2)
               (try clear hk)
               (try clear hi)
               (try clear ho0)
               refine hK.out _ _ ⟨(yab a9.out 0).trans rfl, (yab a9.out 1).trans rfl, (yab a9.out 2).trans rfl, (yab a8.out 0).trans rfl, (yab a8.out 1).trans rfl, (yab a8.out 2).trans rfl, (yab a8.out 3).trans rfl, (yab a8.out 4).trans rfl⟩ (fun hHeld => ?_)
               clear hK K
               refine ybh (a' := ?_) ?_ ?_
               rotate_left
               ·
                show Act.put _ (some 84) _ = _
                simp only [Act.put, List.setIfInBounds_toArray, List.set_cons_zero, List.set_cons_succ, i64_w, i32_w]
                rfl
               refine pz_ 5 79 q7_14 HT_ (by kernel_rfl) ?_
               refine pz_ 6 85 q7_15 HT_ (by kernel_rfl) ?_
               refine pz_ 7 86 q7_3 HT_ (by kernel_rfl) ?_
               exact ybh (by simp only [putAll, Act.put, List.setIfInBounds_toArray, List.set_cons_zero, List.set_cons_succ]) (hCont (.slice m5 l2.length m6, m0, c0) _ ⟨hHeld, (by (with_reducible repeat (first | apply yah | apply yai | apply yak)); exact yal f4.out (fun _ hk => ⟨hk.2, ⟨hk.1.1.1.2, ⟨hk.1.1.2, hk.1.2⟩⟩⟩)), (by (with_reducible repeat (first | apply yah | apply yai | apply yak)); exact yal i3.out (fun _ hk => ⟨hk.2, ⟨hk.1.1.1.2, ⟨hk.1.1.2, hk.1.2⟩⟩⟩)), (by (with_reducible repeat (first | apply yah | apply yai | apply yak)); exact yal b2.out (fun _ hk => ⟨hk.1.2, ⟨hk.2, ⟨hk.1.1.1, hk.1.1.2⟩⟩⟩)), (by (with_reducible repeat (first | apply yah | apply yai | apply yak)); exact yal b1.out (fun _ hk => ⟨hk.1.2, ⟨hk.2, ⟨hk.1.1.1, hk.1.1.2⟩⟩⟩)), (by (with_reducible repeat (first | apply yah | apply yai | apply yak)); exact yal b0.out (fun _ hk => ⟨hk.1.2, ⟨hk.2, ⟨hk.1.1.1, hk.1.1.2⟩⟩⟩)), (upB a9.out), (upB a8.out), (upB b3.out), (upB b4.out), (upB b5.out), (upB e6.out), m3.out, m4.out, e8.out, h3.out, d5.out, h4.out, g1.out, h5.out, g2.out, h6.out, f9.out, h0.out, (by repeat (first | (with_reducible first | exact HB.out | apply yaf | apply yac | apply yae | refine yag ?_ (Aside0.out ‹_›)) | exact HB.out))⟩)
             ·
              skip
              refine box_step ?hg (N := 14) ?hd (cs := #[.int .i64 0, .int .i64 0, .slice none 0 0]) (t := 25) ?hr ?_; (case hd => rfl); (case hg => rfl); (case hr => first | (go_simp; done) | (go_simp; rfl))
              intro c0 hg w132 hbox hb
              have n0_ := yaa (yaj (upR b2.out) hb)
              have n1_ := yaa (yaj (upR b1.out) hb)
              have n2_ := yaa (yaj (upR b0.out) hb)
              have n3_ := yaa (yaj (upR f4.out) hb)
              have n4_ := yaa (yad (g := b9) (o := .cells #[.int .i64 a0_0, .int .i64 a0_1, .slice A0_2 l0_2.length c0_2] 44 (0, 0)) (upB a9.out) hb)
              have n5_ := yaa (yad (g := b8) (o := .cells #[.int .i64 a1_0, .int .i64 a1_1, .int .i64 a1_2, .int .i64 a1_3, .int .i64 a1_4] 45 (0, 0)) (upB a8.out) hb)
              have n6_ := yaa (yad (g := b6) (o := .cells #[.int .i64 d8, .int .i64 e0, .slice e4 d0.length e2] 25 (0, 0)) (upB b3.out) hb)
              have n7_ := yaa (yad (g := c3) (o := .cells #[.int .i64 e9, .int .i64 f1, .slice d6 g9.length d7] 25 (0, 0)) (upB b4.out) hb)
              have n8_ := yaa (yad (g := b7) (o := .cells #[.int .i64 d9, .int .i64 e1, .slice f3 d2.length f2] 25 (0, 0)) (upB b5.out) hb)
              have n9_ := yaa (yas (by repeat (first | (with_reducible first | exact HB.out | apply yaf | apply yac | apply yae | refine yag ?_ (Aside0.out ‹_›)) | exact HB.out)) hb)
              have g0 := yaa (hbox)
              have h1 := yaa ((by rw [hg]; exact (yau (by repeat (first | (with_reducible first | exact HB.out | apply yaf | apply yac | apply yae | refine yag ?_ (Aside0.out ‹_›)) | exact HB.out))) : w.heap.size ≤ c0))
              have i9 := yaa ((by rw [hg]; exact (yau (by repeat (first | (with_reducible first | exact HB.out | apply yaf | apply yac | apply yae | refine yag ?_ (Aside0.out ‹_›)) | exact HB.out))) : w.heap.size ≤ c0))
              have j3 := yaa ((by rw [hg]; exact Nat.ne_of_lt (yay (g := b9) (o := .cells #[.int .i64 a0_0, .int .i64 a0_1, .slice A0_2 l0_2.length c0_2] 44 (0, 0)) (upB a9.out)) : b9 ≠ c0))
              have j4 := yaa ((by rw [hg]; exact Nat.ne_of_gt (yay (g := b9) (o := .cells #[.int .i64 a0_0, .int .i64 a0_1, .slice A0_2 l0_2.length c0_2] 44 (0, 0)) (upB a9.out)) : c0 ≠ b9))
              have j5 := yaa ((by rw [hg]; exact Nat.ne_of_lt (yay (g := b8) (o := .cells #[.int .i64 a1_0, .int .i64 a1_1, .int .i64 a1_2, .int .i64 a1_3, .int .i64 a1_4] 45 (0, 0)) (upB a8.out)) : b8 ≠ c0))
              have j6 := yaa ((by rw [hg]; exact Nat.ne_of_gt (yay (g := b8) (o := .cells #[.int .i64 a1_0, .int .i64 a1_1, .int .i64 a1_2, .int .i64 a1_3, .int .i64 a1_4] 45 (0, 0)) (upB a8.out)) : c0 ≠ b8))
              have j7 := yaa ((by rw [hg]; exact Nat.ne_of_lt (yay (g := b6) (o := .cells #[.int .i64 d8, .int .i64 e0, .slice e4 d0.length e2] 25 (0, 0)) (upB b3.out)) : b6 ≠ c0))
              have j8 := yaa ((by rw [hg]; exact Nat.ne_of_gt (yay (g := b6) (o := .cells #[.int .i64 d8, .int .i64 e0, .slice e4 d0.length e2] 25 (0, 0)) (upB b3.out)) : c0 ≠ b6))
              have k5 := yaa ((by rw [hg]; exact Nat.ne_of_lt (yay (g := c3) (o := .cells #[.int .i64 e9, .int .i64 f1, .slice d6 g9.length d7] 25 (0, 0)) (upB b4.out)) : c3 ≠ c0))
              have l5 := yaa ((by rw [hg]; exact Nat.ne_of_gt (yay (g := c3) (o := .cells #[.int .i64 e9, .int .i64 f1, .slice d6 g9.length d7] 25 (0, 0)) (upB b4.out)) : c0 ≠ c3))
              have l6 := yaa ((by rw [hg]; exact Nat.ne_of_lt (yay (g := b7) (o := .cells #[.int .i64 d9, .int .i64 e1, .slice f3 d2.length f2] 25 (0, 0)) (upB b5.out)) : b7 ≠ c0))
              have o7 := yaa ((by rw [hg]; exact Nat.ne_of_gt (yay (g := b7) (o := .cells #[.int .i64 d9, .int .i64 e1, .slice f3 d2.length f2] 25 (0, 0)) (upB b5.out)) : c0 ≠ b7))
              clear b2 b1 b0 f4 a9 a8 b3 b4 b5 HB
              have b2 := n0_
              have b1 := n1_
              have b0 := n2_
              have f4 := n3_
              have a9 := n4_
              have a8 := n5_
              have b3 := n6_
              have b4 := n7_
              have b5 := n8_
              have HB := n9_
              have e6 := g0
              have m3 := h1
              have m4 := i9
              have e8 := j3
              have h3 := j4
              have d5 := j5
              have h4 := j6
              have g1 := j7
              have h5 := j8
              have g2 := k5
              have h6 := l5
              have f9 := l6
              have h0 := o7
              clear n0_ n1_ n2_ n3_ n4_ n5_ n6_ n7_ n8_ n9_ g0 h1 i9 j3 j4 j5 j6 j7 j8 k5 l5 l6 o7 hb hbox hg
              refine hK.out _ _ ⟨(yab a9.out 0).trans rfl, (yab a9.out 1).trans rfl, (yab a9.out 2).trans rfl, (yab a8.out 0).trans rfl, (yab a8.out 1).trans rfl, (yab a8.out 2).trans rfl, (yab a8.out 3).trans rfl, (yab a8.out 4).trans rfl⟩ (fun hHeld => ?_)
              clear hK K
              refine ybh (a' := ?_) ?_ ?_
              rotate_left
              ·
               show Act.put _ (some 14) _ = _
               simp only [Act.put, List.setIfInBounds_toArray, List.set_cons_zero, List.set_cons_succ, i64_w, i32_w]
               rfl
              refine one_ (i := 3) (N := some 83) q7_9 rfl rfl (one_of HT_.out (by kernel_rfl)) (by decide) (fun K hK => ?_)
              refine goes_ Try.func22 (by kernel_rfl) rfl #[.agg #[.int .i64 a1_0, .int .i64 a1_1, .int .i64 a1_2, .int .i64 a1_3, .int .i64 a1_4]] (by rfl) rfl rfl (by (try simp only [List.map_toArray, List.map_cons, List.map_nil]); first | done | rfl | (simp only [List.length_drop, List.length_take]; rfl)) ?_
              with_reducible refine (laws_toOpOp.calls a1_0 a1_1 a1_2 a1_3 a1_4 n3 n4 n5 n6 n7 _ E5.out).mono ?_
              rintro e w133 ⟨rfl, hb⟩
              refine ⟨_, rfl, ?_⟩
              have n0_ := yaa (yaj (upR b2.out) hb)
              have n1_ := yaa (yaj (upR b1.out) hb)
              have n2_ := yaa (yaj (upR b0.out) hb)
              have n3_ := yaa (yaj (upR f4.out) hb)
              have n4_ := yaa (yad (g := b9) (o := .cells #[.int .i64 a0_0, .int .i64 a0_1, .slice A0_2 l0_2.length c0_2] 44 (0, 0)) (upB a9.out) hb)
              have n5_ := yaa (yad (g := b8) (o := .cells #[.int .i64 a1_0, .int .i64 a1_1, .int .i64 a1_2, .int .i64 a1_3, .int .i64 a1_4] 45 (0, 0)) (upB a8.out) hb)
              have n6_ := yaa (yad (g := b6) (o := .cells #[.int .i64 d8, .int .i64 e0, .slice e4 d0.length e2] 25 (0, 0)) (upB b3.out) hb)
              have n7_ := yaa (yad (g := c3) (o := .cells #[.int .i64 e9, .int .i64 f1, .slice d6 g9.length d7] 25 (0, 0)) (upB b4.out) hb)
              have n8_ := yaa (yad (g := b7) (o := .cells #[.int .i64 d9, .int .i64 e1, .slice f3 d2.length f2] 25 (0, 0)) (upB b5.out) hb)
              have n9_ := yaa (yad (g := c0) (o := .cells #[.int .i64 0, .int .i64 0, .slice none 0 0] 25 (0, 0)) (upB e6.out) hb)
              have g0 := yaa (yas (by repeat (first | (with_reducible first | exact HB.out | apply yaf | apply yac | apply yae | refine yag ?_ (Aside0.out ‹_›)) | exact HB.out)) hb)
              clear b2 b1 b0 f4 a9 a8 b3 b4 b5 e6 HB
              have b2 := n0_
              have b1 := n1_
              have b0 := n2_
              have f4 := n3_
              have a9 := n4_
              have a8 := n5_
              have b3 := n6_
              have b4 := n7_
              have b5 := n8_
              have e6 := n9_
              have HB := g0
              clear n0_ n1_ n2_ n3_ n4_ n5_ n6_ n7_ n8_ n9_ g0
              (try clear hb)
              (try clear hb2)
              (try clear hk)
              (try clear hi)
              obtain ⟨m5, m6, m7⟩ := Kd.R_slice f4.out
              (first | subst m7 | (injection m7 with f1_ f2_ f3_; have f4_ := f1_.symm; have f5_ := f3_.symm; clear f1_ f2_ f3_; subst f4_; subst f5_))
              refine hK.out _ _ ⟨(yab a9.out 0).trans rfl, (yab a9.out 1).trans rfl, (yab a9.out 2).trans rfl, (yab a8.out 0).trans rfl, (yab a8.out 1).trans rfl, (yab a8.out 2).trans rfl, (yab a8.out 3).trans rfl, (yab a8.out 4).trans rfl⟩ (fun hHeld => ?_)
              clear hK K
              refine ybh (a' := ?_) ?_ ?_
              rotate_left
              ·
               show Act.put _ (some 83) _ = _
               simp only [Act.put, List.setIfInBounds_toArray, List.set_cons_zero, List.set_cons_succ, i64_w, i32_w]
               rfl
              refine one_ (i := 4) (N := some 84) q7_13 rfl rfl (one_of HT_.out (by kernel_rfl)) (by decide) (fun K hK => ?_)
              refine goes_ Try.func11 (by kernel_rfl) rfl #[.agg #[.int .i64 o3, .int .i64 o4, .slice m5 l2.length m6], .agg #[.int .i64 n3, .int .i64 n4, .int .i64 n5, .int .i64 n6, .int .i64 n7]] (by rfl) rfl rfl (by (try simp only [List.map_toArray, List.map_cons, List.map_nil]); first | done | rfl | (simp only [List.length_drop, List.length_take]; rfl)) ?_
              with_reducible refine (impl_OpDo.calls o3 o4 _ _ l2 n3 n4 n5 n6 n7 i4 i6 i2 o5 _ ?side1 ?side2 r2.out).mono ?_
              (case side1 => repeat (first | exact (yar f4.out).2.2 | (with_reducible refine ybc ?_ _) | (with_reducible refine ybd ?_ _) | (with_reducible refine ybf ?_)))
              (case side2 => exact (yar f4.out).2.1)
              rintro e w135 ⟨m0, rfl, ho0, hb⟩
              refine ⟨_, rfl, ?_⟩
              have n0_ := yaa (yav (upR b2.out) (yaz ho0) hb)
              have n1_ := yaa (yav (upR b1.out) (yaz ho0) hb)
              have n2_ := yaa (yav (upR b0.out) (yaz ho0) hb)
              have n3_ := yaa (yav (upR f4.out) (yaz ho0) hb)
              have n4_ := yaa (ybg (yba (yba (yba (yba ho0 (ybe (upR b2.out))) (ybe (upR b1.out))) (ybe (upR b0.out))) (ybe (upR f4.out))) (yau (by repeat (first | (with_reducible first | exact HB.out | apply yaf | apply yac | apply yae | refine yag ?_ (Aside0.out ‹_›)) | exact HB.out))))
              have n5_ := yaa (yad (g := b9) (o := .cells #[.int .i64 a0_0, .int .i64 a0_1, .slice A0_2 l0_2.length c0_2] 44 (0, 0)) (upB a9.out) hb)
              have n6_ := yaa (yad (g := b8) (o := .cells #[.int .i64 a1_0, .int .i64 a1_1, .int .i64 a1_2, .int .i64 a1_3, .int .i64 a1_4] 45 (0, 0)) (upB a8.out) hb)
              have n7_ := yaa (yad (g := b6) (o := .cells #[.int .i64 d8, .int .i64 e0, .slice e4 d0.length e2] 25 (0, 0)) (upB b3.out) hb)
              have n8_ := yaa (yad (g := c3) (o := .cells #[.int .i64 e9, .int .i64 f1, .slice d6 g9.length d7] 25 (0, 0)) (upB b4.out) hb)
              have n9_ := yaa (yad (g := b7) (o := .cells #[.int .i64 d9, .int .i64 e1, .slice f3 d2.length f2] 25 (0, 0)) (upB b5.out) hb)
              have g0 := yaa (yad (g := c0) (o := .cells #[.int .i64 0, .int .i64 0, .slice none 0 0] 25 (0, 0)) (upB e6.out) hb)
              have h1 := yaa (yas (by repeat (first | (with_reducible first | exact HB.out | apply yaf | apply yac | apply yae | refine yag ?_ (Aside0.out ‹_›)) | exact HB.out)) hb)
              clear b2 b1 b0 f4 a9 a8 b3 b4 b5 e6 HB
              have b2 := n0_
              have b1 := n1_
              have b0 := n2_
              have f4 := n3_
              have i3 := n4_
              have a9 := n5_
              have a8 := n6_
              have b3 := n7_
              have b4 := n8_
              have b5 := n9_
              have e6 := g0
              have HB := h1
              clear n0_ n1_ n2_ n3_ n4_ n5_ n6_ n7_ n8_ n9_ g0 h1
              (try clear hb)
              (try clear hb2)
              (try clear hk)
              (try clear hi)
              (try clear ho0)
              refine hK.out _ _ ⟨(yab a9.out 0).trans rfl, (yab a9.out 1).trans rfl, (yab a9.out 2).trans rfl, (yab a8.out 0).trans rfl, (yab a8.out 1).trans rfl, (yab a8.out 2).trans rfl, (yab a8.out 3).trans rfl, (yab a8.out 4).trans rfl⟩ (fun hHeld => ?_)
              clear hK K
              refine ybh (a' := ?_) ?_ ?_
              rotate_left
              ·
               show Act.put _ (some 84) _ = _
               simp only [Act.put, List.setIfInBounds_toArray, List.set_cons_zero, List.set_cons_succ, i64_w, i32_w]
               rfl
              refine pz_ 5 79 q7_14 HT_ (by kernel_rfl) ?_
              refine pz_ 6 85 q7_15 HT_ (by kernel_rfl) ?_
              refine pz_ 7 86 q7_3 HT_ (by kernel_rfl) ?_
              exact ybh (by simp only [putAll, Act.put, List.setIfInBounds_toArray, List.set_cons_zero, List.set_cons_succ]) (hCont (.slice m5 l2.length m6, m0, c0) _ ⟨hHeld, (by (with_reducible repeat (first | apply yah | apply yai | apply yak)); exact yal f4.out (fun _ hk => ⟨hk.2, ⟨hk.1.1.1.2, ⟨hk.1.1.2, hk.1.2⟩⟩⟩)), (by (with_reducible repeat (first | apply yah | apply yai | apply yak)); exact yal i3.out (fun _ hk => ⟨hk.2, ⟨hk.1.1.1.2, ⟨hk.1.1.2, hk.1.2⟩⟩⟩)), (by (with_reducible repeat (first | apply yah | apply yai | apply yak)); exact yal b2.out (fun _ hk => ⟨hk.1.2, ⟨hk.2, ⟨hk.1.1.1, hk.1.1.2⟩⟩⟩)), (by (with_reducible repeat (first | apply yah | apply yai | apply yak)); exact yal b1.out (fun _ hk => ⟨hk.1.2, ⟨hk.2, ⟨hk.1.1.1, hk.1.1.2⟩⟩⟩)), (by (with_reducible repeat (first | apply yah | apply yai | apply yak)); exact yal b0.out (fun _ hk => ⟨hk.1.2, ⟨hk.2, ⟨hk.1.1.1, hk.1.1.2⟩⟩⟩)), (upB a9.out), (upB a8.out), (upB b3.out), (upB b4.out), (upB b5.out), (upB e6.out), m3.out, m4.out, e8.out, h3.out, d5.out, h4.out, g1.out, h5.out, g2.out, h6.out, f9.out, h0.out, (by repeat (first | (with_reducible first | exact HB.out | apply yaf | apply yac | apply yae | refine yag ?_ (Aside0.out ‹_›)) | exact HB.out))⟩)
            ·
             skip
             refine box_step ?hg (N := 14) ?hd (cs := #[.int .i64 0, .int .i64 0, .slice none 0 0]) (t := 25) ?hr ?_; (case hd => rfl); (case hg => rfl); (case hr => first | (go_simp; done) | (go_simp; rfl))
             intro c0 hg w131 hbox hb
             have n0_ := yaa (yaj (upR b2.out) hb)
             have n1_ := yaa (yaj (upR b1.out) hb)
             have n2_ := yaa (yaj (upR b0.out) hb)
             have n3_ := yaa (yad (g := b9) (o := .cells #[.int .i64 a0_0, .int .i64 a0_1, .slice A0_2 l0_2.length c0_2] 44 (0, 0)) (upB a9.out) hb)
             have n4_ := yaa (yad (g := b8) (o := .cells #[.int .i64 a1_0, .int .i64 a1_1, .int .i64 a1_2, .int .i64 a1_3, .int .i64 a1_4] 45 (0, 0)) (upB a8.out) hb)
             have n5_ := yaa (yad (g := b6) (o := .cells #[.int .i64 d8, .int .i64 e0, .slice e4 d0.length e2] 25 (0, 0)) (upB b3.out) hb)
             have n6_ := yaa (yad (g := c3) (o := .cells #[.int .i64 e9, .int .i64 f1, .slice d6 g9.length d7] 25 (0, 0)) (upB b4.out) hb)
             have n7_ := yaa (yad (g := b7) (o := .cells #[.int .i64 d9, .int .i64 e1, .slice f3 d2.length f2] 25 (0, 0)) (upB b5.out) hb)
             have n8_ := yaa (yas (by repeat (first | (with_reducible first | exact HB.out | apply yaf | apply yac | apply yae | refine yag ?_ (Aside0.out ‹_›)) | exact HB.out)) hb)
             have n9_ := yaa (hbox)
             have g0 := yaa ((by rw [hg]; exact (yau (by repeat (first | (with_reducible first | exact HB.out | apply yaf | apply yac | apply yae | refine yag ?_ (Aside0.out ‹_›)) | exact HB.out))) : w.heap.size ≤ c0))
             have h1 := yaa ((by rw [hg]; exact (yau (by repeat (first | (with_reducible first | exact HB.out | apply yaf | apply yac | apply yae | refine yag ?_ (Aside0.out ‹_›)) | exact HB.out))) : w.heap.size ≤ c0))
             have i9 := yaa ((by rw [hg]; exact Nat.ne_of_lt (yay (g := b9) (o := .cells #[.int .i64 a0_0, .int .i64 a0_1, .slice A0_2 l0_2.length c0_2] 44 (0, 0)) (upB a9.out)) : b9 ≠ c0))
             have j3 := yaa ((by rw [hg]; exact Nat.ne_of_gt (yay (g := b9) (o := .cells #[.int .i64 a0_0, .int .i64 a0_1, .slice A0_2 l0_2.length c0_2] 44 (0, 0)) (upB a9.out)) : c0 ≠ b9))
             have j4 := yaa ((by rw [hg]; exact Nat.ne_of_lt (yay (g := b8) (o := .cells #[.int .i64 a1_0, .int .i64 a1_1, .int .i64 a1_2, .int .i64 a1_3, .int .i64 a1_4] 45 (0, 0)) (upB a8.out)) : b8 ≠ c0))
             have j5 := yaa ((by rw [hg]; exact Nat.ne_of_gt (yay (g := b8) (o := .cells #[.int .i64 a1_0, .int .i64 a1_1, .int .i64 a1_2, .int .i64 a1_3, .int .i64 a1_4] 45 (0, 0)) (upB a8.out)) : c0 ≠ b8))
             have j6 := yaa ((by rw [hg]; exact Nat.ne_of_lt (yay (g := b6) (o := .cells #[.int .i64 d8, .int .i64 e0, .slice e4 d0.length e2] 25 (0, 0)) (upB b3.out)) : b6 ≠ c0))
             have j7 := yaa ((by rw [hg]; exact Nat.ne_of_gt (yay (g := b6) (o := .cells #[.int .i64 d8, .int .i64 e0, .slice e4 d0.length e2] 25 (0, 0)) (upB b3.out)) : c0 ≠ b6))
             have j8 := yaa ((by rw [hg]; exact Nat.ne_of_lt (yay (g := c3) (o := .cells #[.int .i64 e9, .int .i64 f1, .slice d6 g9.length d7] 25 (0, 0)) (upB b4.out)) : c3 ≠ c0))
             have k5 := yaa ((by rw [hg]; exact Nat.ne_of_gt (yay (g := c3) (o := .cells #[.int .i64 e9, .int .i64 f1, .slice d6 g9.length d7] 25 (0, 0)) (upB b4.out)) : c0 ≠ c3))
             have l5 := yaa ((by rw [hg]; exact Nat.ne_of_lt (yay (g := b7) (o := .cells #[.int .i64 d9, .int .i64 e1, .slice f3 d2.length f2] 25 (0, 0)) (upB b5.out)) : b7 ≠ c0))
             have l6 := yaa ((by rw [hg]; exact Nat.ne_of_gt (yay (g := b7) (o := .cells #[.int .i64 d9, .int .i64 e1, .slice f3 d2.length f2] 25 (0, 0)) (upB b5.out)) : c0 ≠ b7))
             clear b2 b1 b0 a9 a8 b3 b4 b5 HB
             have b2 := n0_
             have b1 := n1_
             have b0 := n2_
             have a9 := n3_
             have a8 := n4_
             have b3 := n5_
             have b4 := n6_
             have b5 := n7_
             have HB := n8_
             have e6 := n9_
             have m3 := g0
             have m4 := h1
             have e8 := i9
             have h3 := j3
             have d5 := j4
             have h4 := j5
             have g1 := j6
             have h5 := j7
             have g2 := j8
             have h6 := k5
             have f9 := l5
             have h0 := l6
             clear n0_ n1_ n2_ n3_ n4_ n5_ n6_ n7_ n8_ n9_ g0 h1 i9 j3 j4 j5 j6 j7 j8 k5 l5 l6 hb hbox hg
             refine hK.out _ _ ⟨(yab a9.out 0).trans rfl, (yab a9.out 1).trans rfl, (yab a9.out 2).trans rfl, (yab a8.out 0).trans rfl, (yab a8.out 1).trans rfl, (yab a8.out 2).trans rfl, (yab a8.out 3).trans rfl, (yab a8.out 4).trans rfl⟩ (fun hHeld => ?_)
             clear hK K
             refine ybh (a' := ?_) ?_ ?_
             rotate_left
             ·
              show Act.put _ (some 14) _ = _
              simp only [Act.put, List.setIfInBounds_toArray, List.set_cons_zero, List.set_cons_succ, i64_w, i32_w]
              rfl
             refine one_ (i := 1) (N := some 81) q7_7 rfl rfl (one_of HT_.out (by kernel_rfl)) (by decide) (fun K hK => ?_)
             refine goes_ Try.func21 (by kernel_rfl) rfl #[.agg #[.int .i64 a0_0, .int .i64 a0_1, .slice A0_2 l0_2.length c0_2]] (by rfl) rfl rfl (by (try simp only [List.map_toArray, List.map_cons, List.map_nil]); first | done | rfl | (simp only [List.length_drop, List.length_take]; rfl)) ?_
             with_reducible refine (laws_toRasRaster.calls kj78 a0_0 a0_1 _ _ l0_2 o3 o4 l2 _ ?side1 ?side2 G9.out).mono ?_
             (case side1 => repeat (first | exact (Kd.C_below HR0_2.out HB.out) | (with_reducible refine ybc ?_ _) | (with_reducible refine ybd ?_ _) | (with_reducible refine ybf ?_)))
             (case side2 => exact HC0_2.out)
             rintro e w132 ⟨o6, rfl, ho0, hb⟩
             refine ⟨_, rfl, ?_⟩
             have n0_ := yaa (yav (upR b2.out) (yaz ho0) hb)
             have n1_ := yaa (yav (upR b1.out) (yaz ho0) hb)
             have n2_ := yaa (yav (upR b0.out) (yaz ho0) hb)
             have n3_ := yaa (ybg (yba (yba (yba ho0 (ybe (upR b2.out))) (ybe (upR b1.out))) (ybe (upR b0.out))) (yau (by repeat (first | (with_reducible first | exact HB.out | apply yaf | apply yac | apply yae | refine yag ?_ (Aside0.out ‹_›)) | exact HB.out))))
             have n4_ := yaa (yad (g := b9) (o := .cells #[.int .i64 a0_0, .int .i64 a0_1, .slice A0_2 l0_2.length c0_2] 44 (0, 0)) (upB a9.out) hb)
             have n5_ := yaa (yad (g := b8) (o := .cells #[.int .i64 a1_0, .int .i64 a1_1, .int .i64 a1_2, .int .i64 a1_3, .int .i64 a1_4] 45 (0, 0)) (upB a8.out) hb)
             have n6_ := yaa (yad (g := b6) (o := .cells #[.int .i64 d8, .int .i64 e0, .slice e4 d0.length e2] 25 (0, 0)) (upB b3.out) hb)
             have n7_ := yaa (yad (g := c3) (o := .cells #[.int .i64 e9, .int .i64 f1, .slice d6 g9.length d7] 25 (0, 0)) (upB b4.out) hb)
             have n8_ := yaa (yad (g := b7) (o := .cells #[.int .i64 d9, .int .i64 e1, .slice f3 d2.length f2] 25 (0, 0)) (upB b5.out) hb)
             have n9_ := yaa (yad (g := c0) (o := .cells #[.int .i64 0, .int .i64 0, .slice none 0 0] 25 (0, 0)) (upB e6.out) hb)
             have g0 := yaa (yas (by repeat (first | (with_reducible first | exact HB.out | apply yaf | apply yac | apply yae | refine yag ?_ (Aside0.out ‹_›)) | exact HB.out)) hb)
             clear b2 b1 b0 a9 a8 b3 b4 b5 e6 HB
             have b2 := n0_
             have b1 := n1_
             have b0 := n2_
             have f4 := n3_
             have a9 := n4_
             have a8 := n5_
             have b3 := n6_
             have b4 := n7_
             have b5 := n8_
             have e6 := n9_
             have HB := g0
             clear n0_ n1_ n2_ n3_ n4_ n5_ n6_ n7_ n8_ n9_ g0
             (try clear hb)
             (try clear hb2)
             (try clear hk)
             (try clear hi)
             (try clear ho0)
             refine hK.out _ _ ⟨(yab a9.out 0).trans rfl, (yab a9.out 1).trans rfl, (yab a9.out 2).trans rfl, (yab a8.out 0).trans rfl, (yab a8.out 1).trans rfl, (yab a8.out 2).trans rfl, (yab a8.out 3).trans rfl, (yab a8.out 4).trans rfl⟩ (fun hHeld => ?_)
             clear hK K
             refine ybh (a' := ?_) ?_ ?_
             rotate_left
             ·
              show Act.put _ (some 81) _ = _
              simp only [Act.put, List.setIfInBounds_toArray, List.set_cons_zero, List.set_cons_succ, i64_w, i32_w]
              rfl
             refine one_ (i := 3) (N := some 83) q7_9 rfl rfl (one_of HT_.out (by kernel_rfl)) (by decide) (fun K hK => ?_)
             refine goes_ Try.func22 (by kernel_rfl) rfl #[.agg #[.int .i64 a1_0, .int .i64 a1_1, .int .i64 a1_2, .int .i64 a1_3, .int .i64 a1_4]] (by rfl) rfl rfl (by (try simp only [List.map_toArray, List.map_cons, List.map_nil]); first | done | rfl | (simp only [List.length_drop, List.length_take]; rfl)) ?_
             with_reducible refine (laws_toOpOp.calls a1_0 a1_1 a1_2 a1_3 a1_4 n3 n4 n5 n6 n7 _ E5.out).mono ?_
             rintro e w133 ⟨rfl, hb⟩
             refine ⟨_, rfl, ?_⟩
             have n0_ := yaa (yaj (upR b2.out) hb)
             have n1_ := yaa (yaj (upR b1.out) hb)
             have n2_ := yaa (yaj (upR b0.out) hb)
             have n3_ := yaa (yaj (upR f4.out) hb)
             have n4_ := yaa (yad (g := b9) (o := .cells #[.int .i64 a0_0, .int .i64 a0_1, .slice A0_2 l0_2.length c0_2] 44 (0, 0)) (upB a9.out) hb)
             have n5_ := yaa (yad (g := b8) (o := .cells #[.int .i64 a1_0, .int .i64 a1_1, .int .i64 a1_2, .int .i64 a1_3, .int .i64 a1_4] 45 (0, 0)) (upB a8.out) hb)
             have n6_ := yaa (yad (g := b6) (o := .cells #[.int .i64 d8, .int .i64 e0, .slice e4 d0.length e2] 25 (0, 0)) (upB b3.out) hb)
             have n7_ := yaa (yad (g := c3) (o := .cells #[.int .i64 e9, .int .i64 f1, .slice d6 g9.length d7] 25 (0, 0)) (upB b4.out) hb)
             have n8_ := yaa (yad (g := b7) (o := .cells #[.int .i64 d9, .int .i64 e1, .slice f3 d2.length f2] 25 (0, 0)) (upB b5.out) hb)
             have n9_ := yaa (yad (g := c0) (o := .cells #[.int .i64 0, .int .i64 0, .slice none 0 0] 25 (0, 0)) (upB e6.out) hb)
             have g0 := yaa (yas (by repeat (first | (with_reducible first | exact HB.out | apply yaf | apply yac | apply yae | refine yag ?_ (Aside0.out ‹_›)) | exact HB.out)) hb)
             clear b2 b1 b0 f4 a9 a8 b3 b4 b5 e6 HB
             have b2 := n0_
             have b1 := n1_
             have b0 := n2_
             have f4 := n3_
             have a9 := n4_
             have a8 := n5_
             have b3 := n6_
             have b4 := n7_
             have b5 := n8_
             have e6 := n9_
             have HB := g0
             clear n0_ n1_ n2_ n3_ n4_ n5_ n6_ n7_ n8_ n9_ g0
             (try clear hb)
             (try clear hb2)
             (try clear hk)
             (try clear hi)
             obtain ⟨m5, m6, m7⟩ := Kd.R_slice f4.out
             (first | subst m7 | (injection m7 with f1_ f2_ f3_; have f4_ := f1_.symm; have f5_ := f3_.symm; clear f1_ f2_ f3_; subst f4_; subst f5_))
             refine hK.out _ _ ⟨(yab a9.out 0).trans rfl, (yab a9.out 1).trans rfl, (yab a9.out 2).trans rfl, (yab a8.out 0).trans rfl, (yab a8.out 1).trans rfl, (yab a8.out 2).trans rfl, (yab a8.out 3).trans rfl, (yab a8.out 4).trans rfl⟩ (fun hHeld => ?_)
             clear hK K
             refine ybh (a' := ?_) ?_ ?_
             rotate_left
             ·
              show Act.put _ (some 83) _ = _
              simp only [Act.put, List.setIfInBounds_toArray, List.set_cons_zero, List.set_cons_succ, i64_w, i32_w]
              rfl
             refine one_ (i := 4) (N := some 84) q7_13 rfl rfl (one_of HT_.out (by kernel_rfl)) (by decide) (fun K hK => ?_)
             refine goes_ Try.func11 (by kernel_rfl) rfl #[.agg #[.int .i64 o3, .int .i64 o4, .slice m5 l2.length m6], .agg #[.int .i64 n3, .int .i64 n4, .int .i64 n5, .int .i64 n6, .int .i64 n7]] (by rfl) rfl rfl (by (try simp only [List.map_toArray, List.map_cons, List.map_nil]); first | done | rfl | (simp only [List.length_drop, List.length_take]; rfl)) ?_
             with_reducible refine (impl_OpDo.calls o3 o4 _ _ l2 n3 n4 n5 n6 n7 i4 i6 i2 o5 _ ?side1 ?side2 r2.out).mono ?_
             (case side1 => repeat (first | exact (yar f4.out).2.2 | (with_reducible refine ybc ?_ _) | (with_reducible refine ybd ?_ _) | (with_reducible refine ybf ?_)))
             (case side2 => exact (yar f4.out).2.1)
             rintro e w135 ⟨m0, rfl, ho0, hb⟩
             refine ⟨_, rfl, ?_⟩
             have n0_ := yaa (yav (upR b2.out) (yaz ho0) hb)
             have n1_ := yaa (yav (upR b1.out) (yaz ho0) hb)
             have n2_ := yaa (yav (upR b0.out) (yaz ho0) hb)
             have n3_ := yaa (yav (upR f4.out) (yaz ho0) hb)
             have n4_ := yaa (ybg (yba (yba (yba (yba ho0 (ybe (upR b2.out))) (ybe (upR b1.out))) (ybe (upR b0.out))) (ybe (upR f4.out))) (yau (by repeat (first | (with_reducible first | exact HB.out | apply yaf | apply yac | apply yae | refine yag ?_ (Aside0.out ‹_›)) | exact HB.out))))
             have n5_ := yaa (yad (g := b9) (o := .cells #[.int .i64 a0_0, .int .i64 a0_1, .slice A0_2 l0_2.length c0_2] 44 (0, 0)) (upB a9.out) hb)
             have n6_ := yaa (yad (g := b8) (o := .cells #[.int .i64 a1_0, .int .i64 a1_1, .int .i64 a1_2, .int .i64 a1_3, .int .i64 a1_4] 45 (0, 0)) (upB a8.out) hb)
             have n7_ := yaa (yad (g := b6) (o := .cells #[.int .i64 d8, .int .i64 e0, .slice e4 d0.length e2] 25 (0, 0)) (upB b3.out) hb)
             have n8_ := yaa (yad (g := c3) (o := .cells #[.int .i64 e9, .int .i64 f1, .slice d6 g9.length d7] 25 (0, 0)) (upB b4.out) hb)
             have n9_ := yaa (yad (g := b7) (o := .cells #[.int .i64 d9, .int .i64 e1, .slice f3 d2.length f2] 25 (0, 0)) (upB b5.out) hb)
             have g0 := yaa (yad (g := c0) (o := .cells #[.int .i64 0, .int .i64 0, .slice none 0 0] 25 (0, 0)) (upB e6.out) hb)
             have h1 := yaa (yas (by repeat (first | (with_reducible first | exact HB.out | apply yaf | apply yac | apply yae | refine yag ?_ (Aside0.out ‹_›)) | exact HB.out)) hb)
             clear b2 b1 b0 f4 a9 a8 b3 b4 b5 e6 HB
             have b2 := n0_
             have b1 := n1_
             have b0 := n2_
             have f4 := n3_
             have i3 := n4_
             have a9 := n5_
             have a8 := n6_
             have b3 := n7_
             have b4 := n8_
             have b5 := n9_
             have e6 := g0
             have HB := h1
             clear n0_ n1_ n2_ n3_ n4_ n5_ n6_ n7_ n8_ n9_ g0 h1
             (try clear hb)
             (try clear hb2)
             (try clear hk)
             (try clear hi)
             (try clear ho0)
             refine hK.out _ _ ⟨(yab a9.out 0).trans rfl, (yab a9.out 1).trans rfl, (yab a9.out 2).trans rfl, (yab a8.out 0).trans rfl, (yab a8.out 1).trans rfl, (yab a8.out 2).trans rfl, (yab a8.out 3).trans rfl, (yab a8.out 4).trans rfl⟩ (fun hHeld => ?_)
             clear hK K
             refine ybh (a' := ?_) ?_ ?_
             rotate_left
             ·
              show Act.put _ (some 84) _ = _
              simp only [Act.put, List.setIfInBounds_toArray, List.set_cons_zero, List.set_cons_succ, i64_w, i32_w]
              rfl
             refine pz_ 5 79 q7_14 HT_ (by kernel_rfl) ?_
             refine pz_ 6 85 q7_15 HT_ (by kernel_rfl) ?_
             refine pz_ 7 86 q7_3 HT_ (by kernel_rfl) ?_
             exact ybh (by simp only [putAll, Act.put, List.setIfInBounds_toArray, List.set_cons_zero, List.set_cons_succ]) (hCont (.slice m5 l2.length m6, m0, c0) _ ⟨hHeld, (by (with_reducible repeat (first | apply yah | apply yai | apply yak)); exact yal f4.out (fun _ hk => ⟨hk.2, ⟨hk.1.1.1.2, ⟨hk.1.1.2, hk.1.2⟩⟩⟩)), (by (with_reducible repeat (first | apply yah | apply yai | apply yak)); exact yal i3.out (fun _ hk => ⟨hk.2, ⟨hk.1.1.1.2, ⟨hk.1.1.2, hk.1.2⟩⟩⟩)), (by (with_reducible repeat (first | apply yah | apply yai | apply yak)); exact yal b2.out (fun _ hk => ⟨hk.1.2, ⟨hk.2, ⟨hk.1.1.1, hk.1.1.2⟩⟩⟩)), (by (with_reducible repeat (first | apply yah | apply yai | apply yak)); exact yal b1.out (fun _ hk => ⟨hk.1.2, ⟨hk.2, ⟨hk.1.1.1, hk.1.1.2⟩⟩⟩)), (by (with_reducible repeat (first | apply yah | apply yai | apply yak)); exact yal b0.out (fun _ hk => ⟨hk.1.2, ⟨hk.2, ⟨hk.1.1.1, hk.1.1.2⟩⟩⟩)), (upB a9.out), (upB a8.out), (upB b3.out), (upB b4.out), (upB b5.out), (upB e6.out), m3.out, m4.out, e8.out, h3.out, d5.out, h4.out, g1.out, h5.out, g2.out, h6.out, f9.out, h0.out, (by repeat (first | (with_reducible first | exact HB.out | apply yaf | apply yac | apply yae | refine yag ?_ (Aside0.out ‹_›)) | exact HB.out))⟩)
           rintro ⟨o6, m0, c0⟩ w136 ⟨hS_, h0_, h1_, h2_, h3_, h4_, h5_, h6_, h7_, h8_, h9_, h10_, h11_, h12_, h13_, h14_, h15_, h16_, h17_, h18_, h19_, h20_, h21_, h22_, h23_⟩
           have n0_ : yaw (Kd.R k36 36 w136 w.heap.size (fun k_ => some k_ ≠ (m0 : Value).ownBlock ∧ some k_ ≠ (.slice e4 d0.length e2 : Value).ownBlock ∧ some k_ ≠ (.slice d6 g9.length d7 : Value).ownBlock ∧ some k_ ≠ (.slice f3 d2.length f2 : Value).ownBlock) o6 l2) := ⟨h0_⟩
           have n1_ : yaw (Kd.R k36 36 w136 w.heap.size (fun k_ => some k_ ≠ (o6 : Value).ownBlock ∧ some k_ ≠ (.slice e4 d0.length e2 : Value).ownBlock ∧ some k_ ≠ (.slice d6 g9.length d7 : Value).ownBlock ∧ some k_ ≠ (.slice f3 d2.length f2 : Value).ownBlock) m0 i2) := ⟨h1_⟩
           have n2_ : yaw (Kd.R k36 36 w136 w.heap.size (fun k_ => some k_ ≠ (o6 : Value).ownBlock ∧ some k_ ≠ (m0 : Value).ownBlock ∧ some k_ ≠ (.slice d6 g9.length d7 : Value).ownBlock ∧ some k_ ≠ (.slice f3 d2.length f2 : Value).ownBlock) (.slice e4 d0.length e2) d0) := ⟨h2_⟩
           have n3_ : yaw (Kd.R k36 36 w136 w.heap.size (fun k_ => some k_ ≠ (o6 : Value).ownBlock ∧ some k_ ≠ (m0 : Value).ownBlock ∧ some k_ ≠ (.slice e4 d0.length e2 : Value).ownBlock ∧ some k_ ≠ (.slice f3 d2.length f2 : Value).ownBlock) (.slice d6 g9.length d7) g9) := ⟨h3_⟩
           have n4_ : yaw (Kd.R k36 36 w136 w.heap.size (fun k_ => some k_ ≠ (o6 : Value).ownBlock ∧ some k_ ≠ (m0 : Value).ownBlock ∧ some k_ ≠ (.slice e4 d0.length e2 : Value).ownBlock ∧ some k_ ≠ (.slice d6 g9.length d7 : Value).ownBlock) (.slice f3 d2.length f2) k2) := ⟨h4_⟩
           have n5_ : yaw (w136.heap[b9]? = some (.cells #[.int .i64 a0_0, .int .i64 a0_1, .slice A0_2 l0_2.length c0_2] 44 (0, 0))) := ⟨h5_⟩
           have n6_ : yaw (w136.heap[b8]? = some (.cells #[.int .i64 a1_0, .int .i64 a1_1, .int .i64 a1_2, .int .i64 a1_3, .int .i64 a1_4] 45 (0, 0))) := ⟨h6_⟩
           have n7_ : yaw (w136.heap[b6]? = some (.cells #[.int .i64 d8, .int .i64 e0, .slice e4 d0.length e2] 25 (0, 0))) := ⟨h7_⟩
           have n8_ : yaw (w136.heap[c3]? = some (.cells #[.int .i64 e9, .int .i64 f1, .slice d6 g9.length d7] 25 (0, 0))) := ⟨h8_⟩
           have n9_ : yaw (w136.heap[b7]? = some (.cells #[.int .i64 d9, .int .i64 e1, .slice f3 d2.length f2] 25 (0, 0))) := ⟨h9_⟩
           have g0 : yaw (w136.heap[c0]? = some (.cells #[.int .i64 0, .int .i64 0, .slice none 0 0] 25 (0, 0))) := ⟨h10_⟩
           have h1 : yaw (w.heap.size ≤ c0) := ⟨h11_⟩
           have i9 : yaw (w.heap.size ≤ c0) := ⟨h12_⟩
           have j3 : yaw (b9 ≠ c0) := ⟨h13_⟩
           have j4 : yaw (c0 ≠ b9) := ⟨h14_⟩
           have j5 : yaw (b8 ≠ c0) := ⟨h15_⟩
           have j6 : yaw (c0 ≠ b8) := ⟨h16_⟩
           have j7 : yaw (b6 ≠ c0) := ⟨h17_⟩
           have j8 : yaw (c0 ≠ b6) := ⟨h18_⟩
           have k5 : yaw (c3 ≠ c0) := ⟨h19_⟩
           have l5 : yaw (c0 ≠ c3) := ⟨h20_⟩
           have l6 : yaw (b7 ≠ c0) := ⟨h21_⟩
           have o7 : yaw (c0 ≠ b7) := ⟨h22_⟩
           have x2 : yaw (Below w.heap.size w w136) := ⟨h23_⟩
           clear b2 b1 b0 a9 a8 b3 b4 b5 HB h0_ h1_ h2_ h3_ h4_ h5_ h6_ h7_ h8_ h9_ h10_ h11_ h12_ h13_ h14_ h15_ h16_ h17_ h18_ h19_ h20_ h21_ h22_ h23_
           have f4 := n0_
           have i3 := n1_
           have b2 := n2_
           have b1 := n3_
           have b0 := n4_
           have a9 := n5_
           have a8 := n6_
           have b3 := n7_
           have b4 := n8_
           have b5 := n9_
           have e6 := g0
           have m3 := h1
           have m4 := i9
           have e8 := j3
           have h3 := j4
           have d5 := j5
           have h4 := j6
           have g1 := j7
           have h5 := j8
           have g2 := k5
           have h6 := l5
           have f9 := l6
           have h0 := o7
           have HB := x2
           clear n0_ n1_ n2_ n3_ n4_ n5_ n6_ n7_ n8_ n9_ g0 h1 i9 j3 j4 j5 j6 j7 j8 k5 l5 l6 o7 x2
           have hHeld : w136.cell? ⟨b9, 0, none⟩ = some (.int .i64 a0_0) ∧ w136.cell? ⟨b9, 1, none⟩ = some (.int .i64 a0_1) ∧ w136.cell? ⟨b9, 2, none⟩ = some (.slice A0_2 l0_2.length c0_2) ∧ w136.cell? ⟨b8, 0, none⟩ = some (.int .i64 a1_0) ∧ w136.cell? ⟨b8, 1, none⟩ = some (.int .i64 a1_1) ∧ w136.cell? ⟨b8, 2, none⟩ = some (.int .i64 a1_2) ∧ w136.cell? ⟨b8, 3, none⟩ = some (.int .i64 a1_3) ∧ w136.cell? ⟨b8, 4, none⟩ = some (.int .i64 a1_4) := hS_
           obtain ⟨h9, h7, D5⟩ := Kd.R_slice i3.out
           (first | subst D5 | (injection D5 with f1_ f2_ f3_; have f4_ := f1_.symm; have f5_ := f3_.symm; clear f1_ f2_ f3_; subst f4_; subst f5_))
           refine ybh (a' := ?_) ?_ ?_
           rotate_left
           ·
            simp only [putAll, Act.put, List.setIfInBounds_toArray, List.set_cons_zero, List.set_cons_succ]
            rfl
           refine one_ (i := 9) (N := none) q7_16 rfl rfl (one_of HT_.out (by kernel_rfl)) (by decide) (fun K hK => ?_)
           have cP : w136.cell? ⟨c0, 0, none⟩ = some (.int .i64 0) := (yab e6.out 0).trans rfl
           have V1 := yaq e6.out 0
           have I3 := e8.out
           have I4 := d5.out
           have I5 := g1.out
           have I6 := g2.out
           have I7 := f9.out
           have I8 := h3.out
           have I9 := h4.out
           have J0 := h5.out
           have J1 := h6.out
           have J2 := h0.out
           have cQ : w136.cell? ⟨c0, 1, none⟩ = some (.int .i64 0) := (yab e6.out 1).trans rfl
           have V2 := yaq e6.out 1
           have J3 := e8.out
           have J4 := d5.out
           have J5 := g1.out
           have J6 := g2.out
           have J7 := f9.out
           have J8 := h3.out
           have J9 := h4.out
           have K0 := h5.out
           have K1 := h6.out
           have K2 := h0.out
           have cR : w136.cell? ⟨c0, 2, none⟩ = some (.slice none 0 0) := (yab e6.out 2).trans rfl
           have V3 := yaq e6.out 2
           have K3 := e8.out
           have K4 := d5.out
           have K5 := g1.out
           have K6 := g2.out
           have K7 := f9.out
           have K8 := h3.out
           have K9 := h4.out
           have L0 := h5.out
           have L1 := h6.out
           have L2 := h0.out
           refine skip_ (w1 := ?_) (by rfl) rfl ?_ ?_
           rotate_left
           ·
            go_simp
            rfl
           refine hK.out _ _ ⟨((yat (p := ⟨c0, _, none⟩) e8.out _).trans (((yat (p := ⟨c0, _, none⟩) e8.out _).trans (((yat (p := ⟨c0, _, none⟩) e8.out _).trans (hHeld.1)))))), ((yat (p := ⟨c0, _, none⟩) e8.out _).trans (((yat (p := ⟨c0, _, none⟩) e8.out _).trans (((yat (p := ⟨c0, _, none⟩) e8.out _).trans (hHeld.2.1)))))), ((yat (p := ⟨c0, _, none⟩) e8.out _).trans (((yat (p := ⟨c0, _, none⟩) e8.out _).trans (((yat (p := ⟨c0, _, none⟩) e8.out _).trans (hHeld.2.2.1)))))), ((yat (p := ⟨c0, _, none⟩) d5.out _).trans (((yat (p := ⟨c0, _, none⟩) d5.out _).trans (((yat (p := ⟨c0, _, none⟩) d5.out _).trans (hHeld.2.2.2.1)))))), ((yat (p := ⟨c0, _, none⟩) d5.out _).trans (((yat (p := ⟨c0, _, none⟩) d5.out _).trans (((yat (p := ⟨c0, _, none⟩) d5.out _).trans (hHeld.2.2.2.2.1)))))), ((yat (p := ⟨c0, _, none⟩) d5.out _).trans (((yat (p := ⟨c0, _, none⟩) d5.out _).trans (((yat (p := ⟨c0, _, none⟩) d5.out _).trans (hHeld.2.2.2.2.2.1)))))), ((yat (p := ⟨c0, _, none⟩) d5.out _).trans (((yat (p := ⟨c0, _, none⟩) d5.out _).trans (((yat (p := ⟨c0, _, none⟩) d5.out _).trans (hHeld.2.2.2.2.2.2.1)))))), ((yat (p := ⟨c0, _, none⟩) d5.out _).trans (((yat (p := ⟨c0, _, none⟩) d5.out _).trans (((yat (p := ⟨c0, _, none⟩) d5.out _).trans (hHeld.2.2.2.2.2.2.2))))))⟩ (fun hHeld => ?_)
           clear hK K
           refine pz_ 10 15 q7_17 HT_ (by kernel_rfl) ?_
           refine done_ (done_of HT_.out (by kernel_rfl)) ?_
           go_upto_region 25 with (fail)
           go_cut [95] (fun v95 wc => ∃ (kq : Nat) (n8 : Bool), v95 = .bool n8 ∧ yaw (laws_FnExactOpDo.j2 kq k1 n8 d9 e1 k2 = some r) ∧ yaw (kq ≤ kj78) ∧ yaw (Kd.R k36 36 wc w.heap.size (fun k_ => some k_ ≠ ((.slice d6 g9.length d7) : Value).ownBlock ∧ some k_ ≠ ((.slice f3 d2.length f2) : Value).ownBlock ∧ some k_ ≠ ((.slice h9 i2.length h7) : Value).ownBlock) (.slice e4 d0.length e2) d0) ∧ yaw (Kd.R k36 36 wc w.heap.size (fun k_ => some k_ ≠ ((.slice e4 d0.length e2) : Value).ownBlock ∧ some k_ ≠ ((.slice f3 d2.length f2) : Value).ownBlock ∧ some k_ ≠ ((.slice h9 i2.length h7) : Value).ownBlock) (.slice d6 g9.length d7) g9) ∧ yaw (Kd.R k36 36 wc w.heap.size (fun k_ => some k_ ≠ ((.slice e4 d0.length e2) : Value).ownBlock ∧ some k_ ≠ ((.slice d6 g9.length d7) : Value).ownBlock ∧ some k_ ≠ ((.slice h9 i2.length h7) : Value).ownBlock) (.slice f3 d2.length f2) k2) ∧ yaw (Kd.R k36 36 wc w.heap.size (fun k_ => some k_ ≠ ((.slice e4 d0.length e2) : Value).ownBlock ∧ some k_ ≠ ((.slice d6 g9.length d7) : Value).ownBlock ∧ some k_ ≠ ((.slice f3 d2.length f2) : Value).ownBlock) (.slice h9 i2.length h7) i2) ∧ yaw (wc.heap[b9]? = some (.cells #[.int .i64 a0_0, .int .i64 a0_1, (.slice A0_2 l0_2.length c0_2)] 44 (0, 0))) ∧ yaw (wc.heap[b8]? = some (.cells #[.int .i64 a1_0, .int .i64 a1_1, .int .i64 a1_2, .int .i64 a1_3, .int .i64 a1_4] 45 (0, 0))) ∧ yaw (wc.heap[b6]? = some (.cells #[.int .i64 d8, .int .i64 e0, (.slice e4 d0.length e2)] 25 (0, 0))) ∧ yaw (wc.heap[c3]? = some (.cells #[.int .i64 e9, .int .i64 f1, (.slice d6 g9.length d7)] 25 (0, 0))) ∧ yaw (wc.heap[b7]? = some (.cells #[.int .i64 d9, .int .i64 e1, (.slice f3 d2.length f2)] 25 (0, 0))) ∧ yaw (wc.heap[c0]? = some (.cells #[.int .i64 i4, .int .i64 i6, (.slice h9 i2.length h7)] 25 (0, 0))) ∧ yaw (Below w.heap.size w wc))
           case first =>
            have H := HC121.out
            clear HC121
            replace H := Option.bind_eq_some_iff.mp H
            obtain ⟨r1, D6, H⟩ := H
            replace H : (if r1 = true then (laws_FnExactOpDo.j2 kj78 k1 (o5 != h2) d9 e1 k2) else (laws_FnExactOpDo.j2 kj78 k1 true d9 e1 k2)) = some r := H
            have L3 := yaa D6
            clear D6
            by_cases x3 : r1 = true
            ·
             subst x3
             have H1 : (laws_FnExactOpDo.j2 kj78 k1 (o5 != h2) d9 e1 k2) = some r := by rw [if_pos rfl] at H; exact H
             clear H
             have H := H1
             clear H1
             have H' := yaa H
             clear H
             have V4 := h3.out
             have V5 := e8.out
             have V6 := h4.out
             have V7 := d5.out
             have V8 := h5.out
             have V9 := g1.out
             have W0 := h6.out
             have W1 := g2.out
             have W2 := h0.out
             have W3 := f9.out
             have x4 : w136.cell? ⟨c0, 0, none⟩ = some (.int .i64 0) := (yab e6.out 0).trans rfl
             have x5 : w136.cell? ⟨c0, 1, none⟩ = some (.int .i64 0) := (yab e6.out 1).trans rfl
             have x6 : w136.cell? ⟨c0, 2, none⟩ = some (.slice none 0 0) := (yab e6.out 2).trans rfl
             have x8 := yaq e6.out 0
             have x9 := yaq e6.out 1
             have z0 := yaq e6.out 2
             have W4 := g3.out
             have W5 := e5.out
             have W6 := g4.out
             have W7 := d4.out
             have W8 := h8.out
             have W9 := i7.out
             have X0 := f6.out
             have X1 := g5.out
             have z1 : w136.cell? ⟨b6, 0, none⟩ = some (.int .i64 d8) := (yab b3.out 0).trans rfl
             have z2 : w136.cell? ⟨b6, 1, none⟩ = some (.int .i64 e0) := (yab b3.out 1).trans rfl
             have z3 : w136.cell? ⟨b6, 2, none⟩ = some (.slice e4 d0.length e2) := (yab b3.out 2).trans rfl
             have z4 := yaq b3.out 0
             have z5 := yaq b3.out 1
             have z6 := yaq b3.out 2
             go_wp2_with (first | ((with_reducible refine gate_callee (f := 23) rfl ?_); refine goesL_ (some 89) rfl rfl Try.func23 (by kernel_rfl) rfl #[.agg #[.int .i64 i4, .int .i64 i6, .slice h9 i2.length h7], .agg #[.int .i64 d8, .int .i64 e0, .slice e4 d0.length e2]] rfl (by (try simp only [List.map_toArray, List.map_cons, List.map_nil]); first | done | rfl | (simp only [List.length_drop, List.length_take]; rfl)) ?_; (with_reducible refine (laws_eqRasRaster.calls kj78 i4 i6 _ _ i2 d8 e0 _ _ d0 true _ ?side1 ?side2 ?side3 ?side4 L3.out).mono ?_); (case side1 => refine (yar (e := 36) (base := w.heap.size) (ok := fun k_ => (some k_ ≠ (o6 : Value).ownBlock ∧ (some k_ ≠ (.slice e4 d0.length e2 : Value).ownBlock ∧ (some k_ ≠ (.slice d6 g9.length d7 : Value).ownBlock ∧ some k_ ≠ (.slice f3 d2.length f2 : Value).ownBlock)))) (n := i2.length) (c := h7) ?_).2.2; exact (by (with_reducible repeat (first | apply yah | apply yai | apply yak)); exact (yal (yap (p := ⟨c0, 2, none⟩) (yap (p := ⟨c0, 1, none⟩) (yap (p := ⟨c0, 0, none⟩) (ybb i3.out e6.out (by decide)) (fun _ hk => hk.2) (.int .i64 i4)) (fun _ hk => hk.2) (.int .i64 i6)) (fun _ hk => hk.2) (.slice h9 i2.length h7)) (fun _ h_ => h_.1)))); (case side2 => exact (yar i3.out).2.1); (case side3 => refine (yar (e := 36) (base := w.heap.size) (ok := fun k_ => (some k_ ≠ (o6 : Value).ownBlock ∧ (some k_ ≠ (.slice h9 i2.length h7 : Value).ownBlock ∧ (some k_ ≠ (.slice d6 g9.length d7 : Value).ownBlock ∧ some k_ ≠ (.slice f3 d2.length f2 : Value).ownBlock)))) (n := d0.length) (c := e2) ?_).2.2; exact (by (with_reducible repeat (first | apply yah | apply yai | apply yak)); exact (yal (yap (p := ⟨c0, 2, none⟩) (yap (p := ⟨c0, 1, none⟩) (yap (p := ⟨c0, 0, none⟩) (ybb b2.out e6.out (by decide)) (fun _ hk => hk.2) (.int .i64 i4)) (fun _ hk => hk.2) (.int .i64 i6)) (fun _ hk => hk.2) (.slice h9 i2.length h7)) (fun _ h_ => h_.1)))); (case side4 => exact (yar b2.out).2.1); rintro e w154 ⟨rfl, hb⟩; refine ⟨_, rfl, ?_⟩; have n0_ := yaa (yaj (by (with_reducible repeat (first | apply yah | apply yai | apply yak)); exact (yal (yap (p := ⟨c0, 2, none⟩) (yap (p := ⟨c0, 1, none⟩) (yap (p := ⟨c0, 0, none⟩) (ybb b2.out e6.out (by decide)) (fun _ hk => hk.2) (.int .i64 i4)) (fun _ hk => hk.2) (.int .i64 i6)) (fun _ hk => hk.2) (.slice h9 i2.length h7)) (fun _ h_ => h_.1))) hb); have n1_ := yaa (yaj (by (with_reducible repeat (first | apply yah | apply yai | apply yak)); exact (yal (yap (p := ⟨c0, 2, none⟩) (yap (p := ⟨c0, 1, none⟩) (yap (p := ⟨c0, 0, none⟩) (ybb b1.out e6.out (by decide)) (fun _ hk => hk.2) (.int .i64 i4)) (fun _ hk => hk.2) (.int .i64 i6)) (fun _ hk => hk.2) (.slice h9 i2.length h7)) (fun _ h_ => h_.1))) hb); have n2_ := yaa (yaj (by (with_reducible repeat (first | apply yah | apply yai | apply yak)); exact (yal (yap (p := ⟨c0, 2, none⟩) (yap (p := ⟨c0, 1, none⟩) (yap (p := ⟨c0, 0, none⟩) (ybb b0.out e6.out (by decide)) (fun _ hk => hk.2) (.int .i64 i4)) (fun _ hk => hk.2) (.int .i64 i6)) (fun _ hk => hk.2) (.slice h9 i2.length h7)) (fun _ h_ => h_.1))) hb); have n3_ := yaa (yaj (by (with_reducible repeat (first | apply yah | apply yai | apply yak)); exact (yal (yap (p := ⟨c0, 2, none⟩) (yap (p := ⟨c0, 1, none⟩) (yap (p := ⟨c0, 0, none⟩) (ybb f4.out e6.out (by decide)) (fun _ hk => hk.2) (.int .i64 i4)) (fun _ hk => hk.2) (.int .i64 i6)) (fun _ hk => hk.2) (.slice h9 i2.length h7)) (fun _ h_ => h_.1))) hb); have n4_ := yaa (yaj (by (with_reducible repeat (first | apply yah | apply yai | apply yak)); exact (yal (yap (p := ⟨c0, 2, none⟩) (yap (p := ⟨c0, 1, none⟩) (yap (p := ⟨c0, 0, none⟩) (ybb i3.out e6.out (by decide)) (fun _ hk => hk.2) (.int .i64 i4)) (fun _ hk => hk.2) (.int .i64 i6)) (fun _ hk => hk.2) (.slice h9 i2.length h7)) (fun _ h_ => h_.1))) hb); have n5_ := yaa (yad (g := b9) (o := .cells #[.int .i64 a0_0, .int .i64 a0_1, .slice A0_2 l0_2.length c0_2] 44 (0, 0)) (by (with_reducible repeat (first | refine yam ?_ _ | refine yao ?_ | refine yan ?_ _)); refine yax ?_ e8.out _; (with_reducible repeat (first | refine yam ?_ _ | refine yao ?_ | refine yan ?_ _)); refine yax ?_ e8.out _; (with_reducible repeat (first | refine yam ?_ _ | refine yao ?_ | refine yan ?_ _)); refine yax ?_ e8.out _; exact upB a9.out) hb); have n6_ := yaa (yad (g := b8) (o := .cells #[.int .i64 a1_0, .int .i64 a1_1, .int .i64 a1_2, .int .i64 a1_3, .int .i64 a1_4] 45 (0, 0)) (by (with_reducible repeat (first | refine yam ?_ _ | refine yao ?_ | refine yan ?_ _)); refine yax ?_ d5.out _; (with_reducible repeat (first | refine yam ?_ _ | refine yao ?_ | refine yan ?_ _)); refine yax ?_ d5.out _; (with_reducible repeat (first | refine yam ?_ _ | refine yao ?_ | refine yan ?_ _)); refine yax ?_ d5.out _; exact upB a8.out) hb); have n7_ := yaa (yad (g := b6) (o := .cells #[.int .i64 d8, .int .i64 e0, .slice e4 d0.length e2] 25 (0, 0)) (by (with_reducible repeat (first | refine yam ?_ _ | refine yao ?_ | refine yan ?_ _)); refine yax ?_ g1.out _; (with_reducible repeat (first | refine yam ?_ _ | refine yao ?_ | refine yan ?_ _)); refine yax ?_ g1.out _; (with_reducible repeat (first | refine yam ?_ _ | refine yao ?_ | refine yan ?_ _)); refine yax ?_ g1.out _; exact upB b3.out) hb); have n8_ := yaa (yad (g := c3) (o := .cells #[.int .i64 e9, .int .i64 f1, .slice d6 g9.length d7] 25 (0, 0)) (by (with_reducible repeat (first | refine yam ?_ _ | refine yao ?_ | refine yan ?_ _)); refine yax ?_ g2.out _; (with_reducible repeat (first | refine yam ?_ _ | refine yao ?_ | refine yan ?_ _)); refine yax ?_ g2.out _; (with_reducible repeat (first | refine yam ?_ _ | refine yao ?_ | refine yan ?_ _)); refine yax ?_ g2.out _; exact upB b4.out) hb); have n9_ := yaa (yad (g := b7) (o := .cells #[.int .i64 d9, .int .i64 e1, .slice f3 d2.length f2] 25 (0, 0)) (by (with_reducible repeat (first | refine yam ?_ _ | refine yao ?_ | refine yan ?_ _)); refine yax ?_ f9.out _; (with_reducible repeat (first | refine yam ?_ _ | refine yao ?_ | refine yan ?_ _)); refine yax ?_ f9.out _; (with_reducible repeat (first | refine yam ?_ _ | refine yao ?_ | refine yan ?_ _)); refine yax ?_ f9.out _; exact upB b5.out) hb); have g0 := yaa (yad (g := c0) (o := .cells #[.int .i64 i4, .int .i64 i6, .slice h9 i2.length h7] 25 (0, 0)) (by (with_reducible repeat (first | refine yam ?_ _ | refine yao ?_ | refine yan ?_ _)); refine blk_put (cs := #[.int .i64 i4, .int .i64 i6, .slice none 0 0]) ?_ 2 _ rfl; (with_reducible repeat (first | refine yam ?_ _ | refine yao ?_ | refine yan ?_ _)); refine blk_put (cs := #[.int .i64 i4, .int .i64 0, .slice none 0 0]) ?_ 1 _ rfl; (with_reducible repeat (first | refine yam ?_ _ | refine yao ?_ | refine yan ?_ _)); refine blk_put (cs := #[.int .i64 0, .int .i64 0, .slice none 0 0]) ?_ 0 _ rfl; exact upB e6.out) hb); have h1 := yaa (yas (by repeat (first | (with_reducible first | exact HB.out | apply yaf | apply yac | apply yae | refine yag ?_ (Aside0.out ‹_›)) | exact HB.out)) hb); clear b2; clear b1; clear b0; clear f4; clear i3; clear a9; clear a8; clear b3; clear b4; clear b5; clear e6; clear HB; have b2 := n0_; have b1 := n1_; have b0 := n2_; have f4 := n3_; have i3 := n4_; have a9 := n5_; have a8 := n6_; have b3 := n7_; have b4 := n8_; have b5 := n9_; have e6 := g0; have HB := h1; clear n0_ n1_ n2_ n3_ n4_ n5_ n6_ n7_ n8_ n9_ g0 h1; (try clear hb); (try clear hb2); (try clear hk); (try clear hi)))
             go_meet
             case rel => exact ⟨_, ((o5 != h2)), (by first | rfl | (simp; done) | (simp [*]; done)), H', ⟨by have := HJ15.out; have := HJ78.out; first | omega | exact Nat.le_refl _⟩, ⟨by (try simp only [hl127002_78]); (with_reducible repeat (first | apply yah | apply yai | apply yak)); exact yal b2.out (fun _ hk => ⟨hk.2.2.1, ⟨hk.2.2.2, hk.2.1⟩⟩)⟩, ⟨by (try simp only [hl127002_78]); (with_reducible repeat (first | apply yah | apply yai | apply yak)); exact yal b1.out (fun _ hk => ⟨hk.2.2.1, ⟨hk.2.2.2, hk.2.1⟩⟩)⟩, ⟨by (try simp only [hl127002_78]); (with_reducible repeat (first | apply yah | apply yai | apply yak)); exact yal b0.out (fun _ hk => ⟨hk.2.2.1, ⟨hk.2.2.2, hk.2.1⟩⟩)⟩, ⟨by (try simp only [hl127002_78]); (with_reducible repeat (first | apply yah | apply yai | apply yak)); exact yal i3.out (fun _ hk => ⟨hk.2.1, ⟨hk.2.2.1, hk.2.2.2⟩⟩)⟩, ⟨by (try simp only [hl127002_78]); exact upB a9.out⟩, ⟨by (try simp only [hl127002_78]); exact upB a8.out⟩, ⟨by (try simp only [hl127002_78]); exact upB b3.out⟩, ⟨by (try simp only [hl127002_78]); exact upB b4.out⟩, ⟨by (try simp only [hl127002_78]); exact upB b5.out⟩, ⟨by (try simp only [hl127002_78]); exact upB e6.out⟩, ⟨by repeat (first | (with_reducible first | exact HB.out | apply yaf | apply yac | apply yae | refine yag ?_ (Aside0.out ‹_›)) | exact HB.out)⟩⟩
            ·
             replace x3 := Bool.eq_false_iff.mpr x3
             subst x3
             have H1 : (laws_FnExactOpDo.j2 kj78 k1 true d9 e1 k2) = some r := by rw [if_neg (show ¬ (false = true) by decide)] at H; exact H
             clear H
             have H := H1
             clear H1
             have H' := yaa H
             clear H
             have X2 := h3.out
             have X3 := e8.out
             have X4 := h4.out
             have X5 := d5.out
             have X6 := h5.out
             have X7 := g1.out
             have X8 := h6.out
             have X9 := g2.out
             have Y0 := h0.out
             have Y1 := f9.out
             have z7 : w136.cell? ⟨c0, 0, none⟩ = some (.int .i64 0) := (yab e6.out 0).trans rfl
             have z8 : w136.cell? ⟨c0, 1, none⟩ = some (.int .i64 0) := (yab e6.out 1).trans rfl
             have z9 : w136.cell? ⟨c0, 2, none⟩ = some (.slice none 0 0) := (yab e6.out 2).trans rfl
             have A0 := yaq e6.out 0
             have A1 := yaq e6.out 1
             have A2 := yaq e6.out 2
             have Y2 := g3.out
             have Y3 := e5.out
             have Y4 := g4.out
             have Y5 := d4.out
             have Y6 := h8.out
             have Y7 := i7.out
             have Y8 := f6.out
             have Y9 := g5.out
             have A4 : w136.cell? ⟨b6, 0, none⟩ = some (.int .i64 d8) := (yab b3.out 0).trans rfl
             have A5 : w136.cell? ⟨b6, 1, none⟩ = some (.int .i64 e0) := (yab b3.out 1).trans rfl
             have A6 : w136.cell? ⟨b6, 2, none⟩ = some (.slice e4 d0.length e2) := (yab b3.out 2).trans rfl
             have A7 := yaq b3.out 0
             have A8 := yaq b3.out 1
             have A9 := yaq b3.out 2
             go_wp2_with (first | ((with_reducible refine gate_callee (f := 23) rfl ?_); refine goesL_ (some 89) rfl rfl Try.func23 (by kernel_rfl) rfl #[.agg #[.int .i64 i4, .int .i64 i6, .slice h9 i2.length h7], .agg #[.int .i64 d8, .int .i64 e0, .slice e4 d0.length e2]] rfl (by (try simp only [List.map_toArray, List.map_cons, List.map_nil]); first | done | rfl | (simp only [List.length_drop, List.length_take]; rfl)) ?_; (with_reducible refine (laws_eqRasRaster.calls kj78 i4 i6 _ _ i2 d8 e0 _ _ d0 false _ ?side1 ?side2 ?side3 ?side4 L3.out).mono ?_); (case side1 => refine (yar (e := 36) (base := w.heap.size) (ok := fun k_ => (some k_ ≠ (o6 : Value).ownBlock ∧ (some k_ ≠ (.slice e4 d0.length e2 : Value).ownBlock ∧ (some k_ ≠ (.slice d6 g9.length d7 : Value).ownBlock ∧ some k_ ≠ (.slice f3 d2.length f2 : Value).ownBlock)))) (n := i2.length) (c := h7) ?_).2.2; exact (by (with_reducible repeat (first | apply yah | apply yai | apply yak)); exact (yal (yap (p := ⟨c0, 2, none⟩) (yap (p := ⟨c0, 1, none⟩) (yap (p := ⟨c0, 0, none⟩) (ybb i3.out e6.out (by decide)) (fun _ hk => hk.2) (.int .i64 i4)) (fun _ hk => hk.2) (.int .i64 i6)) (fun _ hk => hk.2) (.slice h9 i2.length h7)) (fun _ h_ => h_.1)))); (case side2 => exact (yar i3.out).2.1); (case side3 => refine (yar (e := 36) (base := w.heap.size) (ok := fun k_ => (some k_ ≠ (o6 : Value).ownBlock ∧ (some k_ ≠ (.slice h9 i2.length h7 : Value).ownBlock ∧ (some k_ ≠ (.slice d6 g9.length d7 : Value).ownBlock ∧ some k_ ≠ (.slice f3 d2.length f2 : Value).ownBlock)))) (n := d0.length) (c := e2) ?_).2.2; exact (by (with_reducible repeat (first | apply yah | apply yai | apply yak)); exact (yal (yap (p := ⟨c0, 2, none⟩) (yap (p := ⟨c0, 1, none⟩) (yap (p := ⟨c0, 0, none⟩) (ybb b2.out e6.out (by decide)) (fun _ hk => hk.2) (.int .i64 i4)) (fun _ hk => hk.2) (.int .i64 i6)) (fun _ hk => hk.2) (.slice h9 i2.length h7)) (fun _ h_ => h_.1)))); (case side4 => exact (yar b2.out).2.1); rintro e w166 ⟨rfl, hb⟩; refine ⟨_, rfl, ?_⟩; have n0_ := yaa (yaj (by (with_reducible repeat (first | apply yah | apply yai | apply yak)); exact (yal (yap (p := ⟨c0, 2, none⟩) (yap (p := ⟨c0, 1, none⟩) (yap (p := ⟨c0, 0, none⟩) (ybb b2.out e6.out (by decide)) (fun _ hk => hk.2) (.int .i64 i4)) (fun _ hk => hk.2) (.int .i64 i6)) (fun _ hk => hk.2) (.slice h9 i2.length h7)) (fun _ h_ => h_.1))) hb); have n1_ := yaa (yaj (by (with_reducible repeat (first | apply yah | apply yai | apply yak)); exact (yal (yap (p := ⟨c0, 2, none⟩) (yap (p := ⟨c0, 1, none⟩) (yap (p := ⟨c0, 0, none⟩) (ybb b1.out e6.out (by decide)) (fun _ hk => hk.2) (.int .i64 i4)) (fun _ hk => hk.2) (.int .i64 i6)) (fun _ hk => hk.2) (.slice h9 i2.length h7)) (fun _ h_ => h_.1))) hb); have n2_ := yaa (yaj (by (with_reducible repeat (first | apply yah | apply yai | apply yak)); exact (yal (yap (p := ⟨c0, 2, none⟩) (yap (p := ⟨c0, 1, none⟩) (yap (p := ⟨c0, 0, none⟩) (ybb b0.out e6.out (by decide)) (fun _ hk => hk.2) (.int .i64 i4)) (fun _ hk => hk.2) (.int .i64 i6)) (fun _ hk => hk.2) (.slice h9 i2.length h7)) (fun _ h_ => h_.1))) hb); have n3_ := yaa (yaj (by (with_reducible repeat (first | apply yah | apply yai | apply yak)); exact (yal (yap (p := ⟨c0, 2, none⟩) (yap (p := ⟨c0, 1, none⟩) (yap (p := ⟨c0, 0, none⟩) (ybb f4.out e6.out (by decide)) (fun _ hk => hk.2) (.int .i64 i4)) (fun _ hk => hk.2) (.int .i64 i6)) (fun _ hk => hk.2) (.slice h9 i2.length h7)) (fun _ h_ => h_.1))) hb); have n4_ := yaa (yaj (by (with_reducible repeat (first | apply yah | apply yai | apply yak)); exact (yal (yap (p := ⟨c0, 2, none⟩) (yap (p := ⟨c0, 1, none⟩) (yap (p := ⟨c0, 0, none⟩) (ybb i3.out e6.out (by decide)) (fun _ hk => hk.2) (.int .i64 i4)) (fun _ hk => hk.2) (.int .i64 i6)) (fun _ hk => hk.2) (.slice h9 i2.length h7)) (fun _ h_ => h_.1))) hb); have n5_ := yaa (yad (g := b9) (o := .cells #[.int .i64 a0_0, .int .i64 a0_1, .slice A0_2 l0_2.length c0_2] 44 (0, 0)) (by (with_reducible repeat (first | refine yam ?_ _ | refine yao ?_ | refine yan ?_ _)); refine yax ?_ e8.out _; (with_reducible repeat (first | refine yam ?_ _ | refine yao ?_ | refine yan ?_ _)); refine yax ?_ e8.out _; (with_reducible repeat (first | refine yam ?_ _ | refine yao ?_ | refine yan ?_ _)); refine yax ?_ e8.out _; exact upB a9.out) hb); have n6_ := yaa (yad (g := b8) (o := .cells #[.int .i64 a1_0, .int .i64 a1_1, .int .i64 a1_2, .int .i64 a1_3, .int .i64 a1_4] 45 (0, 0)) (by (with_reducible repeat (first | refine yam ?_ _ | refine yao ?_ | refine yan ?_ _)); refine yax ?_ d5.out _; (with_reducible repeat (first | refine yam ?_ _ | refine yao ?_ | refine yan ?_ _)); refine yax ?_ d5.out _; (with_reducible repeat (first | refine yam ?_ _ | refine yao ?_ | refine yan ?_ _)); refine yax ?_ d5.out _; exact upB a8.out) hb); have n7_ := yaa (yad (g := b6) (o := .cells #[.int .i64 d8, .int .i64 e0, .slice e4 d0.length e2] 25 (0, 0)) (by (with_reducible repeat (first | refine yam ?_ _ | refine yao ?_ | refine yan ?_ _)); refine yax ?_ g1.out _; (with_reducible repeat (first | refine yam ?_ _ | refine yao ?_ | refine yan ?_ _)); refine yax ?_ g1.out _; (with_reducible repeat (first | refine yam ?_ _ | refine yao ?_ | refine yan ?_ _)); refine yax ?_ g1.out _; exact upB b3.out) hb); have n8_ := yaa (yad (g := c3) (o := .cells #[.int .i64 e9, .int .i64 f1, .slice d6 g9.length d7] 25 (0, 0)) (by (with_reducible repeat (first | refine yam ?_ _ | refine yao ?_ | refine yan ?_ _)); refine yax ?_ g2.out _; (with_reducible repeat (first | refine yam ?_ _ | refine yao ?_ | refine yan ?_ _)); refine yax ?_ g2.out _; (with_reducible repeat (first | refine yam ?_ _ | refine yao ?_ | refine yan ?_ _)); refine yax ?_ g2.out _; exact upB b4.out) hb); have n9_ := yaa (yad (g := b7) (o := .cells #[.int .i64 d9, .int .i64 e1, .slice f3 d2.length f2] 25 (0, 0)) (by (with_reducible repeat (first | refine yam ?_ _ | refine yao ?_ | refine yan ?_ _)); refine yax ?_ f9.out _; (with_reducible repeat (first | refine yam ?_ _ | refine yao ?_ | refine yan ?_ _)); refine yax ?_ f9.out _; (with_reducible repeat (first | refine yam ?_ _ | refine yao ?_ | refine yan ?_ _)); refine yax ?_ f9.out _; exact upB b5.out) hb); have g0 := yaa (yad (g := c0) (o := .cells #[.int .i64 i4, .int .i64 i6, .slice h9 i2.length h7] 25 (0, 0)) (by (with_reducible repeat (first | refine yam ?_ _ | refine yao ?_ | refine yan ?_ _)); refine blk_put (cs := #[.int .i64 i4, .int .i64 i6, .slice none 0 0]) ?_ 2 _ rfl; (with_reducible repeat (first | refine yam ?_ _ | refine yao ?_ | refine yan ?_ _)); refine blk_put (cs := #[.int .i64 i4, .int .i64 0, .slice none 0 0]) ?_ 1 _ rfl; (with_reducible repeat (first | refine yam ?_ _ | refine yao ?_ | refine yan ?_ _)); refine blk_put (cs := #[.int .i64 0, .int .i64 0, .slice none 0 0]) ?_ 0 _ rfl; exact upB e6.out) hb); have h1 := yaa (yas (by repeat (first | (with_reducible first | exact HB.out | apply yaf | apply yac | apply yae | refine yag ?_ (Aside0.out ‹_›)) | exact HB.out)) hb); clear b2; clear b1; clear b0; clear f4; clear i3; clear a9; clear a8; clear b3; clear b4; clear b5; clear e6; clear HB; have b2 := n0_; have b1 := n1_; have b0 := n2_; have f4 := n3_; have i3 := n4_; have a9 := n5_; have a8 := n6_; have b3 := n7_; have b4 := n8_; have b5 := n9_; have e6 := g0; have HB := h1; clear n0_ n1_ n2_ n3_ n4_ n5_ n6_ n7_ n8_ n9_ g0 h1; (try clear hb); (try clear hb2); (try clear hk); (try clear hi)))
             go_meet
             case rel => exact ⟨_, (true), (by first | rfl | (simp; done) | (simp [*]; done)), H', ⟨by have := HJ15.out; have := HJ78.out; first | omega | exact Nat.le_refl _⟩, ⟨by (try simp only [hl127002_78]); (with_reducible repeat (first | apply yah | apply yai | apply yak)); exact yal b2.out (fun _ hk => ⟨hk.2.2.1, ⟨hk.2.2.2, hk.2.1⟩⟩)⟩, ⟨by (try simp only [hl127002_78]); (with_reducible repeat (first | apply yah | apply yai | apply yak)); exact yal b1.out (fun _ hk => ⟨hk.2.2.1, ⟨hk.2.2.2, hk.2.1⟩⟩)⟩, ⟨by (try simp only [hl127002_78]); (with_reducible repeat (first | apply yah | apply yai | apply yak)); exact yal b0.out (fun _ hk => ⟨hk.2.2.1, ⟨hk.2.2.2, hk.2.1⟩⟩)⟩, ⟨by (try simp only [hl127002_78]); (with_reducible repeat (first | apply yah | apply yai | apply yak)); exact yal i3.out (fun _ hk => ⟨hk.2.1, ⟨hk.2.2.1, hk.2.2.2⟩⟩)⟩, ⟨by (try simp only [hl127002_78]); exact upB a9.out⟩, ⟨by (try simp only [hl127002_78]); exact upB a8.out⟩, ⟨by (try simp only [hl127002_78]); exact upB b3.out⟩, ⟨by (try simp only [hl127002_78]); exact upB b4.out⟩, ⟨by (try simp only [hl127002_78]); exact upB b5.out⟩, ⟨by (try simp only [hl127002_78]); exact upB e6.out⟩, ⟨by repeat (first | (with_reducible first | exact HB.out | apply yaf | apply yac | apply yae | refine yag ?_ (Aside0.out ‹_›)) | exact HB.out)⟩⟩
           case rest =>
            clear HC121
            try clear c1
            try clear c2
            try clear p2
            try clear c11
            try clear c14
            try clear c15
            try clear c16
            try clear c21
            try clear c22
            try clear c23
            try clear x3
            try clear c143
            try clear c144
            try clear c145
            try clear c146
            try clear c147
            try clear c149
            try clear c150
            try clear c151
            try clear c152
            try clear c155
            try clear c156
            try clear c157
            try clear c158
            try clear c159
            try clear c161
            try clear c162
            try clear c163
            try clear c164
            try clear x4
            try clear x5
            try clear x6
            try clear z1
            try clear z2
            try clear z3
            try clear z7
            try clear z8
            try clear z9
            try clear A4
            try clear A5
            try clear A6
            try clear x8
            try clear x9
            try clear z0
            try clear z4
            try clear z5
            try clear z6
            try clear A0
            try clear A1
            try clear A2
            try clear A7
            try clear A8
            try clear A9
            obtain ⟨kq, n8, rfl, HA, HJ120, b2, b1, b0, l1, a9, a8, b3, b4, b5, e6, HB⟩ := hcut
            have hl139002_120 := (yar b0.out).1
            rw [hl139002_120] at b0
            (try simp only [hl139002_120])
            (try simp only [hl139002_120] at a9)
            (try simp only [hl139002_120] at a8)
            (try simp only [hl139002_120] at b3)
            (try simp only [hl139002_120] at b4)
            (try simp only [hl139002_120] at b5)
            (try simp only [hl139002_120] at e6)
            (try simp only [hl139002_120] at b2)
            (try simp only [hl139002_120] at b1)
            (try simp only [hl139002_120] at l1)
            cases kq with
            | zero => exact absurd HA.out (by simp [laws_FnExactOpDo.j2])
            | succ kj120 =>
             have H := HA.out
             clear HA
             simp only [laws_FnExactOpDo.j2] at H
             by_cases C6 : n8 = true
             ·
              subst C6
              have H1 : (some false) = some r := by rw [if_pos rfl] at H; exact H
              clear H
              have H := H1
              clear H1
              rw [hrt] at H
              exact absurd H (by simp)
             ·
              replace C6 := Bool.eq_false_iff.mpr C6
              subst C6
              have H1 : ((laws_heldRasRaster.f kj120 d9 e1 k2 1).bind fun l7 => (if l7 < 0 then (some false) else (if l7 = k1 then (some true) else (some false)))) = some r := by rw [if_neg (show ¬ (false = true) by decide)] at H; exact H
              clear H
              have H := H1
              clear H1
              replace H := Option.bind_eq_some_iff.mp H
              obtain ⟨l7, D7, H⟩ := H
              replace H : (if l7 < 0 then (some false) else (if l7 = k1 then (some true) else (some false))) = some r := H
              have Z0 := yaa D7
              clear D7
              by_cases u6 : l7 < 0
              ·
               rw [if_pos u6] at H
               have E6 : decide (l7 < 0) = true := decide_eq_true u6
               clear u6
               rw [hrt] at H
               exact absurd H (by simp)
              ·
               rw [if_neg u6] at H
               have E6 : decide (l7 < 0) = false := decide_eq_false u6
               clear u6
               by_cases r4 : l7 = k1
               ·
                rw [if_pos r4] at H
                have E7 : (l7 == k1) = true := beq_iff_eq.mpr r4
                have E8 : (l7 != k1) = false := bne_eq_false_iff_eq.mpr r4
                clear r4
                obtain rfl := Option.some.inj H
                have Z1 := g7.out
                have Z2 := f8.out
                have Z3 := g8.out
                have Z4 := d3.out
                have Z5 := g5.out
                have Z6 := f6.out
                have Z7 := g6.out
                have Z8 := e3.out
                have Z9 := f9.out
                have aA := h0.out
                have L4 : wc.cell? ⟨b7, 0, none⟩ = some (.int .i64 d9) := (yab b5.out 0).trans rfl
                have L5 : wc.cell? ⟨b7, 1, none⟩ = some (.int .i64 e1) := (yab b5.out 1).trans rfl
                have L6 : wc.cell? ⟨b7, 2, none⟩ = some (.slice f3 k2.length f2) := (yab b5.out 2).trans rfl
                have L7 := yaq b5.out 0
                have L8 := yaq b5.out 1
                have L9 := yaq b5.out 2
                go_wp2_with (first | ((with_reducible refine gate_callee (f := 25) rfl ?_); refine goesL_ (some 98) rfl rfl Try.func25 (by kernel_rfl) rfl #[.agg #[.int .i64 d9, .int .i64 e1, .slice f3 k2.length f2], .int .i64 1] rfl (by (try simp only [List.map_toArray, List.map_cons, List.map_nil]); first | done | rfl | (simp only [List.length_drop, List.length_take]; rfl)) ?_; (with_reducible refine (laws_heldRasRaster.calls kj120 d9 e1 _ _ k2 1 l7 _ ?side1 ?side2 Z0.out).mono ?_); (case side1 => repeat (first | exact (yar b0.out).2.2 | (with_reducible refine ybc ?_ _) | (with_reducible refine ybd ?_ _) | (with_reducible refine ybf ?_))); (case side2 => exact (yar b0.out).2.1); rintro e w177 ⟨rfl, hb⟩; refine ⟨_, rfl, ?_⟩; have n0_ := yaa (yaj (upR b2.out) hb); have n1_ := yaa (yaj (upR b1.out) hb); have n2_ := yaa (yaj (upR b0.out) hb); have n3_ := yaa (yaj (upR l1.out) hb); have n4_ := yaa (yad (g := b9) (o := .cells #[.int .i64 a0_0, .int .i64 a0_1, .slice A0_2 l0_2.length c0_2] 44 (0, 0)) (upB a9.out) hb); have n5_ := yaa (yad (g := b8) (o := .cells #[.int .i64 a1_0, .int .i64 a1_1, .int .i64 a1_2, .int .i64 a1_3, .int .i64 a1_4] 45 (0, 0)) (upB a8.out) hb); have n6_ := yaa (yad (g := b6) (o := .cells #[.int .i64 d8, .int .i64 e0, .slice e4 d0.length e2] 25 (0, 0)) (upB b3.out) hb); have n7_ := yaa (yad (g := c3) (o := .cells #[.int .i64 e9, .int .i64 f1, .slice d6 g9.length d7] 25 (0, 0)) (upB b4.out) hb); have n8_ := yaa (yad (g := b7) (o := .cells #[.int .i64 d9, .int .i64 e1, .slice f3 k2.length f2] 25 (0, 0)) (upB b5.out) hb); have n9_ := yaa (yad (g := c0) (o := .cells #[.int .i64 i4, .int .i64 i6, .slice h9 i2.length h7] 25 (0, 0)) (upB e6.out) hb); have g0 := yaa (yas (by repeat (first | (with_reducible first | exact HB.out | apply yaf | apply yac | apply yae | refine yag ?_ (Aside0.out ‹_›)) | exact HB.out)) hb); clear b2; clear b1; clear b0; clear l1; clear a9; clear a8; clear b3; clear b4; clear b5; clear e6; clear HB; have b2 := n0_; have b1 := n1_; have b0 := n2_; have l1 := n3_; have a9 := n4_; have a8 := n5_; have b3 := n6_; have b4 := n7_; have b5 := n8_; have e6 := n9_; have HB := g0; clear n0_ n1_ n2_ n3_ n4_ n5_ n6_ n7_ n8_ n9_ g0; (try clear hb); (try clear hb2); (try clear hk); (try clear hi)))
                go_ret
                exact ⟨by first | rfl | (simp [errW_none, errW_some] <;> rfl) | (simp [*, errW_none, errW_some] <;> rfl), by repeat (first | (with_reducible first | exact HB.out | apply yaf | apply yac | apply yae | refine yag ?_ (Aside0.out ‹_›)) | exact HB.out)⟩
               ·
                rw [if_neg r4] at H
                have E7 : (l7 == k1) = false := beq_eq_false_iff_ne.mpr r4
                have E8 : (l7 != k1) = true := bne_iff_ne.mpr r4
                rw [hrt] at H
                exact absurd H (by simp)
          ·
           rw [if_neg r3] at H
           have E3 : (l3 == k1) = false := beq_eq_false_iff_ne.mpr r3
           have E4 : (l3 != k1) = true := bne_iff_ne.mpr r3
           rw [hrt] at H
           exact absurd H (by simp)
     ·
      replace c77 := Bool.eq_false_iff.mpr c77
      subst c77
      have H1 : (some false) = some r := by rw [if_neg (show ¬ (false = true) by decide)] at H; exact H
      clear H
      have H := H1
      clear H1
      rw [hrt] at H
      exact absurd H (by simp)

end Go.Proofs.Ytoifpgkfpdeglaa.X

namespace Go.Proofs.Ytoifpgkfpdeglaa.X
open Go.RowKit Go.Proofs.YtoifpgkfpdeglaaW.PrintWords Go.Proofs.Ytoifpgkfpdeglaa.Opn
set_option linter.unusedVariables false
/-- What is to be shown of the law FnExactOpDo, over data alone. -/
def laws_FnExactOpDo.Pure : Prop := ∀ (a0_0 : Int) (a0_1 : Int) (l0_2 : List (S94)) (a1_0 : Int) (a1_1 : Int) (a1_2 : Int) (a1_3 : Int) (a1_4 : Int), (Lit.int .i64 a0_0).wf = true → (Lit.int .i64 a0_1).wf = true → l0_2.length ≤ maxLen → (∀ y ∈ l0_2, g94 y) → (Lit.int .i64 a1_0).wf = true → (Lit.int .i64 a1_1).wf = true → (Lit.int .i64 a1_2).wf = true → (Lit.int .i64 a1_3).wf = true → (Lit.int .i64 a1_4).wf = true → ∃ k, laws_FnExactOpDo.f k a0_0 a0_1 l0_2 a1_0 a1_1 a1_2 a1_3 a1_4 = some true
end Go.Proofs.Ytoifpgkfpdeglaa.X
