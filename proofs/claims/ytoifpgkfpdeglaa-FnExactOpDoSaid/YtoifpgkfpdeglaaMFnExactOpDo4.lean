/- Lemmas and contracts for the law FnExactOpDo, part 4: of the program's functions, and over data alone. No condition. -/
import Derived.Test.YtoifpgkfpdeglaaMFnExactOpDo2
import Derived.Test.YtoifpgkfpdeglaaMFnExactOpDo3
namespace Go.Proofs.Ytoifpgkfpdeglaa.X
open Go.RowKit Go.Proofs.YtoifpgkfpdeglaaW.PrintWords Go.Proofs.YtoifpgkfpdeglaaW.PrintLast Go.Proofs.YtoifpgkfpdeglaaW.PrintMore
attribute [local go_sem] max2_int min2_int max_two min_two max_three min_three max_four min_four
set_option linter.unusedVariables false
set_option linter.unusedSimpArgs false

open Go.Proofs.YtoifpgkfpdeglaaW.PrintWords.Aside0 renaming mk → yaa
open Go.Proofs.YtoifpgkfpdeglaaW.PrintWords renaming pw_below_drewN → yab, blk_frozen → yac, below_alloc → yad, below_drew1 → yae, blk_cell → yaf, below_set → yag, below_size → yah, blk_below → yai, below_step → yaj, blk_drewN → yak, blk_alloc → yal, box_event → yam, blk_lt → yan, blk_drew → yao

/-! ### spec_l6Do: function 39 -/
def spec_l6Do.j0 : Nat → Bool → Int → Int → List (S36) → Int → Int → Int → Int → Int → Option (Int × Int × (List (S36)) × Bool)
 | 0, _, _, _, _, _, _, _, _, _ => none
 | k + 1, x27, x102000, x102001, x102002, x103000, x103001, x103002, x103003, x103004 => if x27 = true then (some (0, 0, ([] : List (S36)), false)) else ((spec_l6Crop.f k x102000 x102001 x102002 x103000 x103001 x103002 x103003 x103004).bind fun bt104 => (some (bt104.1, bt104.2.1, bt104.2.2, true)))
def spec_l6Do.f (k : Nat) (a0_0 : Int) (a0_1 : Int) (l0_2 : List (S36)) (a1_0 : Int) (a1_1 : Int) (a1_2 : Int) (a1_3 : Int) (a1_4 : Int) : Option (Int × Int × (List (S36)) × Bool) := if a1_0 = 1 then (if (wrap64 (a1_1 + a1_3)) > a0_0 then (spec_l6Do.j0 k true a0_0 a0_1 l0_2 a1_0 a1_1 a1_2 a1_3 a1_4) else (spec_l6Do.j0 k (decide ((wrap64 (a1_2 + a1_4)) > a0_1)) a0_0 a0_1 l0_2 a1_0 a1_1 a1_2 a1_3 a1_4)) else (if a1_0 = 2 then ((spec_l6FlipX.f k a0_0 a0_1 l0_2).bind fun bt109 => (some (bt109.1, bt109.2.1, bt109.2.2, true))) else (if a1_0 = 3 then ((spec_l5Flip.f k a0_0 a0_1 l0_2).bind fun bt114 => (some (bt114.1, bt114.2.1, bt114.2.2, true))) else (if a1_0 = 4 then ((spec_l6Turn.f k a0_0 a0_1 l0_2).bind fun bt119 => (some (bt119.1, bt119.2.1, bt119.2.2, true))) else (if a1_0 = 7 then ((spec_l6Size.f k a0_0 a0_1 l0_2 a1_0 a1_1 a1_2 a1_3 a1_4).bind fun bt124 => (some (bt124.1, bt124.2.1, bt124.2.2, true))) else ((spec_l6Each.f k a0_0 a0_1 l0_2 a1_0 a1_1 a1_2 a1_3 a1_4).bind fun bt129 => (some (bt129.1, bt129.2.1, bt129.2.2, true)))))))
set_option maxHeartbeats 8000000 in
set_option maxRecDepth 100000 in
theorem spec_l6Do.calls (k : Nat) (a0_0 : Int) (a0_1 : Int) (A0_2 : Option Addr) (c0_2 : Nat) (l0_2 : List (S36)) (a1_0 : Int) (a1_1 : Int) (a1_2 : Int) (a1_3 : Int) (a1_4 : Int) (r1 : Int) (r2 : Int) (r3 : List (S36)) (r4 : Bool) (w : World) (hr0_2 : Kd.C k36 w A0_2 l0_2.length l0_2) (hc0_2 : l0_2.length ≤ c0_2) (h : spec_l6Do.f k a0_0 a0_1 l0_2 a1_0 a1_1 a1_2 a1_3 a1_4 = some (r1, r2, r3, r4)) :
  Calls Try.prog 39 #[.agg #[.int .i64 a0_0, .int .i64 a0_1, .slice A0_2 l0_2.length c0_2], .agg #[.int .i64 a1_0, .int .i64 a1_1, .int .i64 a1_2, .int .i64 a1_3, .int .i64 a1_4]] w fun e w' => ∃ v2_ : Value, e = .returned (.tuple #[.agg #[.int .i64 r1, .int .i64 r2, v2_], .bool r4]) ∧ Kd.R k36 36 w' w.heap.size (fun _ => True) v2_ r3 ∧ Below w.heap.size w w' := by
 have hu25 := Try.underlying25
 have hu27 := Try.underlying27
 have HR0_2 := yaa hr0_2
 have HC0_2 := yaa hc0_2
 clear hr0_2 hc0_2
 have HB := yaa (Below.refl w.heap.size w)
 have H : (if a1_0 = 1 then (if (wrap64 (a1_1 + a1_3)) > a0_0 then (spec_l6Do.j0 k true a0_0 a0_1 l0_2 a1_0 a1_1 a1_2 a1_3 a1_4) else (spec_l6Do.j0 k (decide ((wrap64 (a1_2 + a1_4)) > a0_1)) a0_0 a0_1 l0_2 a1_0 a1_1 a1_2 a1_3 a1_4)) else (if a1_0 = 2 then ((spec_l6FlipX.f k a0_0 a0_1 l0_2).bind fun d9 => (some (d9.1, d9.2.1, d9.2.2, true))) else (if a1_0 = 3 then ((spec_l5Flip.f k a0_0 a0_1 l0_2).bind fun e0 => (some (e0.1, e0.2.1, e0.2.2, true))) else (if a1_0 = 4 then ((spec_l6Turn.f k a0_0 a0_1 l0_2).bind fun e1 => (some (e1.1, e1.2.1, e1.2.2, true))) else (if a1_0 = 7 then ((spec_l6Size.f k a0_0 a0_1 l0_2 a1_0 a1_1 a1_2 a1_3 a1_4).bind fun e2 => (some (e2.1, e2.2.1, e2.2.2, true))) else ((spec_l6Each.f k a0_0 a0_1 l0_2 a1_0 a1_1 a1_2 a1_3 a1_4).bind fun e3 => (some (e3.1, e3.2.1, e3.2.2, true)))))))) = some (r1, r2, r3, r4) := h
 clear h
 by_cases c3 : a1_0 = 1
 ·
  rw [if_pos c3] at H
  have k6 : (a1_0 == 1) = true := beq_iff_eq.mpr c3
  have k7 : (a1_0 != 1) = false := bne_eq_false_iff_eq.mpr c3
  clear c3
  have HC4 := yaa H
  clear H
  go_enter Try.func39, Try.ntmps39
  go_upto_region 3 with (first | ((with_reducible refine gate_dst (N := 2) rfl ?_); refine yam ?hg (N := 2) ?hd (cs := #[.int .i64 a0_0, .int .i64 a0_1, .slice A0_2 l0_2.length c0_2]) (t := 25) ?hr ?_; (case hd => rfl); (case hg => rfl); (case hr => first | (go_simp; done) | (go_simp; rfl)); intro b1 hg w5 hbox hb; have n0_ := yaa (yaj (by repeat (first | (with_reducible first | exact HB.out | apply yad | apply yab | apply yae) | exact HB.out)) hb); have n1_ := yaa (hbox); have n2_ := yaa ((by rw [hg]; exact (yah (by repeat (first | (with_reducible first | exact HB.out | apply yad | apply yab | apply yae) | exact HB.out))) : w.heap.size ≤ b1)); have n3_ := yaa ((by rw [hg]; exact (yah (by repeat (first | (with_reducible first | exact HB.out | apply yad | apply yab | apply yae) | exact HB.out))) : w.heap.size ≤ b1)); clear HB; have HB := n0_; have a9 := n1_; have c4 := n2_; have c5 := n3_; clear n0_ n1_ n2_ n3_; clear hb hbox hg) | ((with_reducible refine gate_dst (N := 3) rfl ?_); refine yam ?hg (N := 3) ?hd (cs := #[.int .i64 a1_0, .int .i64 a1_1, .int .i64 a1_2, .int .i64 a1_3, .int .i64 a1_4]) (t := 27) ?hr ?_; (case hd => rfl); (case hg => rfl); (case hr => first | (go_simp; done) | (go_simp; rfl)); intro b0 hg w6 hbox hb; have n0_ := yaa (yai (g := b1) (o := .cells #[.int .i64 a0_0, .int .i64 a0_1, .slice A0_2 l0_2.length c0_2] 25 (0, 0)) (upB a9.out) hb); have n1_ := yaa (yaj (by repeat (first | (with_reducible first | exact HB.out | apply yad | apply yab | apply yae | refine yag ?_ (Aside0.out ‹_›)) | exact HB.out)) hb); have n2_ := yaa (hbox); have n3_ := yaa ((by rw [hg]; exact (yah (by repeat (first | (with_reducible first | exact HB.out | apply yad | apply yab | apply yae | refine yag ?_ (Aside0.out ‹_›)) | exact HB.out))) : w.heap.size ≤ b0)); have n4_ := yaa ((by rw [hg]; exact (yah (by repeat (first | (with_reducible first | exact HB.out | apply yad | apply yab | apply yae | refine yag ?_ (Aside0.out ‹_›)) | exact HB.out))) : w.heap.size ≤ b0)); have n5_ := yaa ((by rw [hg]; exact Nat.ne_of_lt (yan (g := b1) (o := .cells #[.int .i64 a0_0, .int .i64 a0_1, .slice A0_2 l0_2.length c0_2] 25 (0, 0)) (upB a9.out)) : b1 ≠ b0)); have n6_ := yaa ((by rw [hg]; exact Nat.ne_of_gt (yan (g := b1) (o := .cells #[.int .i64 a0_0, .int .i64 a0_1, .slice A0_2 l0_2.length c0_2] 25 (0, 0)) (upB a9.out)) : b0 ≠ b1)); clear a9; clear HB; have a9 := n0_; have HB := n1_; have a8 := n2_; have c6 := n3_; have c7 := n4_; have b6 := n5_; have b7 := n6_; clear n0_ n1_ n2_ n3_ n4_ n5_ n6_; clear hb hbox hg) | ((with_reducible refine gate_dst (N := 4) rfl ?_); refine yam ?hg (N := 4) ?hd (cs := #[.int .i64 0, .int .i64 0, .slice none 0 0]) (t := 25) ?hr ?_; (case hd => rfl); (case hg => rfl); (case hr => first | (go_simp; done) | (go_simp; rfl)); intro b2 hg w7 hbox hb; have n0_ := yaa (yai (g := b1) (o := .cells #[.int .i64 a0_0, .int .i64 a0_1, .slice A0_2 l0_2.length c0_2] 25 (0, 0)) (upB a9.out) hb); have n1_ := yaa (yai (g := b0) (o := .cells #[.int .i64 a1_0, .int .i64 a1_1, .int .i64 a1_2, .int .i64 a1_3, .int .i64 a1_4] 27 (0, 0)) (upB a8.out) hb); have n2_ := yaa (yaj (by repeat (first | (with_reducible first | exact HB.out | apply yad | apply yab | apply yae | refine yag ?_ (Aside0.out ‹_›)) | exact HB.out)) hb); have n3_ := yaa (hbox); have n4_ := yaa ((by rw [hg]; exact (yah (by repeat (first | (with_reducible first | exact HB.out | apply yad | apply yab | apply yae | refine yag ?_ (Aside0.out ‹_›)) | exact HB.out))) : w.heap.size ≤ b2)); have n5_ := yaa ((by rw [hg]; exact (yah (by repeat (first | (with_reducible first | exact HB.out | apply yad | apply yab | apply yae | refine yag ?_ (Aside0.out ‹_›)) | exact HB.out))) : w.heap.size ≤ b2)); have n6_ := yaa ((by rw [hg]; exact Nat.ne_of_lt (yan (g := b1) (o := .cells #[.int .i64 a0_0, .int .i64 a0_1, .slice A0_2 l0_2.length c0_2] 25 (0, 0)) (upB a9.out)) : b1 ≠ b2)); have n7_ := yaa ((by rw [hg]; exact Nat.ne_of_gt (yan (g := b1) (o := .cells #[.int .i64 a0_0, .int .i64 a0_1, .slice A0_2 l0_2.length c0_2] 25 (0, 0)) (upB a9.out)) : b2 ≠ b1)); have n8_ := yaa ((by rw [hg]; exact Nat.ne_of_lt (yan (g := b0) (o := .cells #[.int .i64 a1_0, .int .i64 a1_1, .int .i64 a1_2, .int .i64 a1_3, .int .i64 a1_4] 27 (0, 0)) (upB a8.out)) : b0 ≠ b2)); have n9_ := yaa ((by rw [hg]; exact Nat.ne_of_gt (yan (g := b0) (o := .cells #[.int .i64 a1_0, .int .i64 a1_1, .int .i64 a1_2, .int .i64 a1_3, .int .i64 a1_4] 27 (0, 0)) (upB a8.out)) : b2 ≠ b0)); clear a9; clear a8; clear HB; have a9 := n0_; have a8 := n1_; have HB := n2_; have b3 := n3_; have d0 := n4_; have d1 := n5_; have b8 := n6_; have b9 := n7_; have b4 := n8_; have b5 := n9_; clear n0_ n1_ n2_ n3_ n4_ n5_ n6_ n7_ n8_ n9_; clear hb hbox hg; have I9 := b7.out; have J0 := b6.out; have J1 := b4.out; have J2 := b5.out; have f1 : w7.cell? ⟨b0, 0, none⟩ = some (.int .i64 a1_0) := (yaf a8.out 0).trans rfl; have f2 : w7.cell? ⟨b0, 1, none⟩ = some (.int .i64 a1_1) := (yaf a8.out 1).trans rfl; have f3 : w7.cell? ⟨b0, 2, none⟩ = some (.int .i64 a1_2) := (yaf a8.out 2).trans rfl; have f4 : w7.cell? ⟨b0, 3, none⟩ = some (.int .i64 a1_3) := (yaf a8.out 3).trans rfl; have f5 : w7.cell? ⟨b0, 4, none⟩ = some (.int .i64 a1_4) := (yaf a8.out 4).trans rfl; have f6 := yac a8.out 0; have f7 := yac a8.out 1; have f8 := yac a8.out 2; have f9 := yac a8.out 3; have g0 := yac a8.out 4))
  (try simp only [Act.put, List.setIfInBounds_toArray, List.set_cons_zero, List.set_cons_succ])
  go_cut [27] (fun v27 wc => ∃ (kq : Nat) (d2 : Bool), v27 = .bool d2 ∧ Aside0 (spec_l6Do.j0 kq d2 a0_0 a0_1 l0_2 a1_0 a1_1 a1_2 a1_3 a1_4 = some (r1, r2, r3, r4)) ∧ Aside0 (kq ≤ k) ∧ Aside0 (wc.heap[b1]? = some (.cells #[.int .i64 a0_0, .int .i64 a0_1, (.slice A0_2 l0_2.length c0_2)] 25 (0, 0))) ∧ Aside0 (wc.heap[b0]? = some (.cells #[.int .i64 a1_0, .int .i64 a1_1, .int .i64 a1_2, .int .i64 a1_3, .int .i64 a1_4] 27 (0, 0))) ∧ Aside0 (wc.heap[b2]? = some (.cells #[.int .i64 0, .int .i64 0, (.slice none 0 0)] 25 (0, 0))) ∧ Aside0 (Below w.heap.size w wc))
  case first =>
   have H := HC4.out
   clear HC4
   by_cases c11 : (wrap64 (a1_1 + a1_3)) > a0_0
   ·
    rw [if_pos c11] at H
    have c0 : decide (a0_0 < (wrap64 (a1_1 + a1_3))) = true := decide_eq_true c11
    clear c11
    (first | rw [c0] | (simp only [i64_w, i32_w]; rw [c0]) | skip)
    have H' := yaa H
    clear H
    have D6 := b7.out
    have D7 := b6.out
    have D8 := b4.out
    have D9 := b5.out
    have g1 : w7.cell? ⟨b0, 0, none⟩ = some (.int .i64 a1_0) := (yaf a8.out 0).trans rfl
    have g2 : w7.cell? ⟨b0, 1, none⟩ = some (.int .i64 a1_1) := (yaf a8.out 1).trans rfl
    have g3 : w7.cell? ⟨b0, 2, none⟩ = some (.int .i64 a1_2) := (yaf a8.out 2).trans rfl
    have g4 : w7.cell? ⟨b0, 3, none⟩ = some (.int .i64 a1_3) := (yaf a8.out 3).trans rfl
    have g5 : w7.cell? ⟨b0, 4, none⟩ = some (.int .i64 a1_4) := (yaf a8.out 4).trans rfl
    have g6 := yac a8.out 0
    have g7 := yac a8.out 1
    have g8 := yac a8.out 2
    have g9 := yac a8.out 3
    have h0 := yac a8.out 4
    have E0 := b8.out
    have E1 := b9.out
    have h1 : w7.cell? ⟨b1, 0, none⟩ = some (.int .i64 a0_0) := (yaf a9.out 0).trans rfl
    have h2 : w7.cell? ⟨b1, 1, none⟩ = some (.int .i64 a0_1) := (yaf a9.out 1).trans rfl
    have h3 : w7.cell? ⟨b1, 2, none⟩ = some (.slice A0_2 l0_2.length c0_2) := (yaf a9.out 2).trans rfl
    have h4 := yac a9.out 0
    have h5 := yac a9.out 1
    have h6 := yac a9.out 2
    go_wp2
    go_meet
    case rel => exact ⟨_, (true), (by first | rfl | (simp; done) | (simp [*]; done)), H', ⟨by first | omega | exact Nat.le_refl _⟩, ⟨by exact upB a9.out⟩, ⟨by exact upB a8.out⟩, ⟨by exact upB b3.out⟩, ⟨by repeat (first | (with_reducible first | exact HB.out | apply yad | apply yab | apply yae | refine yag ?_ (Aside0.out ‹_›)) | exact HB.out)⟩⟩
   ·
    rw [if_neg c11] at H
    have c0 : decide (a0_0 < (wrap64 (a1_1 + a1_3))) = false := decide_eq_false c11
    clear c11
    (first | rw [c0] | (simp only [i64_w, i32_w]; rw [c0]) | skip)
    have H' := yaa H
    clear H
    have E2 := b7.out
    have E3 := b6.out
    have E4 := b4.out
    have E5 := b5.out
    have h7 : w7.cell? ⟨b0, 0, none⟩ = some (.int .i64 a1_0) := (yaf a8.out 0).trans rfl
    have h8 : w7.cell? ⟨b0, 1, none⟩ = some (.int .i64 a1_1) := (yaf a8.out 1).trans rfl
    have h9 : w7.cell? ⟨b0, 2, none⟩ = some (.int .i64 a1_2) := (yaf a8.out 2).trans rfl
    have i0 : w7.cell? ⟨b0, 3, none⟩ = some (.int .i64 a1_3) := (yaf a8.out 3).trans rfl
    have i1 : w7.cell? ⟨b0, 4, none⟩ = some (.int .i64 a1_4) := (yaf a8.out 4).trans rfl
    have i2 := yac a8.out 0
    have i3 := yac a8.out 1
    have i4 := yac a8.out 2
    have i5 := yac a8.out 3
    have i6 := yac a8.out 4
    have E6 := b8.out
    have E7 := b9.out
    have i7 : w7.cell? ⟨b1, 0, none⟩ = some (.int .i64 a0_0) := (yaf a9.out 0).trans rfl
    have i8 : w7.cell? ⟨b1, 1, none⟩ = some (.int .i64 a0_1) := (yaf a9.out 1).trans rfl
    have i9 : w7.cell? ⟨b1, 2, none⟩ = some (.slice A0_2 l0_2.length c0_2) := (yaf a9.out 2).trans rfl
    have j1 := yac a9.out 0
    have j2 := yac a9.out 1
    have j3 := yac a9.out 2
    go_wp2
    go_meet
    case rel => exact ⟨_, (decide ((wrap64 (a1_2 + a1_4)) > a0_1)), (by first | rfl | (simp; done) | (simp [*]; done)), H', ⟨by first | omega | exact Nat.le_refl _⟩, ⟨by exact upB a9.out⟩, ⟨by exact upB a8.out⟩, ⟨by exact upB b3.out⟩, ⟨by repeat (first | (with_reducible first | exact HB.out | apply yad | apply yab | apply yae | refine yag ?_ (Aside0.out ‹_›)) | exact HB.out)⟩⟩
  case rest =>
   clear HC4
   try clear c1
   try clear c2
   try clear p2
   try clear c3
   try clear k6
   try clear k7
   try clear p6
   try clear c8
   try clear c9
   try clear c11
   try clear c0
   try clear c12
   try clear c13
   try clear c15
   try clear c17
   try clear c18
   try clear c20
   try clear f1
   try clear f2
   try clear f3
   try clear f4
   try clear f5
   try clear g1
   try clear g2
   try clear g3
   try clear g4
   try clear g5
   try clear h1
   try clear h2
   try clear h3
   try clear h7
   try clear h8
   try clear h9
   try clear i0
   try clear i1
   try clear i7
   try clear i8
   try clear i9
   try clear f6
   try clear f7
   try clear f8
   try clear f9
   try clear g0
   try clear g6
   try clear g7
   try clear g8
   try clear g9
   try clear h0
   try clear h4
   try clear h5
   try clear h6
   try clear i2
   try clear i3
   try clear i4
   try clear i5
   try clear i6
   try clear j1
   try clear j2
   try clear j3
   obtain ⟨kq, d2, rfl, HA, HJ3, a9, a8, b3, HB⟩ := hcut
   cases kq with
   | zero => exact absurd HA.out (by simp [spec_l6Do.j0])
   | succ kj3 =>
    have H := HA.out
    clear HA
    simp only [spec_l6Do.j0] at H
    by_cases c22 : d2 = true
    ·
     subst c22
     have H1 : (some (0, 0, ([] : List (S36)), false)) = some (r1, r2, r3, r4) := by rw [if_pos rfl] at H; exact H
     clear H
     have H := H1
     clear H1
     simp only [Option.some.injEq, Prod.mk.injEq] at H
     obtain ⟨rfl, rfl, rfl, rfl⟩ := H
     have E8 := b9.out
     have E9 := b8.out
     have F0 := b5.out
     have F1 := b4.out
     have n4 : wc.cell? ⟨b2, 0, none⟩ = some (.int .i64 0) := (yaf b3.out 0).trans rfl
     have n5 : wc.cell? ⟨b2, 1, none⟩ = some (.int .i64 0) := (yaf b3.out 1).trans rfl
     have n6 : wc.cell? ⟨b2, 2, none⟩ = some (.slice none 0 0) := (yaf b3.out 2).trans rfl
     have n7 := yac b3.out 0
     have n8 := yac b3.out 1
     have n9 := yac b3.out 2
     go_wp2
     refine bodyPost_ret (results_ct rfl _ _ b2 25 #[.int .i64 0, .int .i64 0, .slice none 0 0] (0, 0) _ rfl (by (with_reducible repeat (first | refine yak ?_ _ | refine yao ?_ | refine yal ?_ _)); refine blk_put (cs := #[.int .i64 0, .int .i64 0, .slice none 0 0]) ?_ 2 _ rfl; (with_reducible repeat (first | refine yak ?_ _ | refine yao ?_ | refine yal ?_ _)); refine blk_put (cs := #[.int .i64 0, .int .i64 0, .slice none 0 0]) ?_ 1 _ rfl; (with_reducible repeat (first | refine yak ?_ _ | refine yao ?_ | refine yal ?_ _)); refine blk_put (cs := #[.int .i64 0, .int .i64 0, .slice none 0 0]) ?_ 0 _ rfl; exact upB b3.out) Try.underlying25 rfl (by kernel_rfl)) rfl ?_
     exact ⟨_, by first | rfl | (simp [errW_none, errW_some] <;> rfl) | (simp [*, errW_none, errW_some] <;> rfl), by first | exact Kd.R_nil _ _ _ _ _ | exact Kd.N_nil _ _ _ _ _ | exact Kd.V_nil _ _ _ _ _ | exact Kd.Q_nil _ _ _ _ _ | exact Kd.S_nil _ _ _ _ _, by repeat (first | (with_reducible first | exact HB.out | apply yad | apply yab | apply yae | refine yag ?_ (Aside0.out ‹_›)) | exact HB.out)⟩
    ·
     replace c22 := Bool.eq_false_iff.mpr c22
     subst c22
     have H1 : ((spec_l6Crop.f kj3 a0_0 a0_1 l0_2 a1_0 a1_1 a1_2 a1_3 a1_4).bind fun e4 => (some (e4.1, e4.2.1, e4.2.2, true))) = some (r1, r2, r3, r4) := by rw [if_neg (show ¬ (false = true) by decide)] at H; exact H
     clear H
     have H := H1
     clear H1
     replace H := Option.bind_eq_some_iff.mp H
     obtain ⟨⟨d3, e5, j4⟩, k8, H⟩ := H
     replace H : (some (d3, e5, j4, true)) = some (r1, r2, r3, r4) := H
     have A26 := yaa k8
     clear k8
     simp only [Option.some.injEq, Prod.mk.injEq] at H
     obtain ⟨rfl, rfl, rfl, rfl⟩ := H
     have F2 := b6.out
     have F3 := b7.out
     have F4 := b8.out
     have F5 := b9.out
     have o0 : wc.cell? ⟨b1, 0, none⟩ = some (.int .i64 a0_0) := (yaf a9.out 0).trans rfl
     have o1 : wc.cell? ⟨b1, 1, none⟩ = some (.int .i64 a0_1) := (yaf a9.out 1).trans rfl
     have o2 : wc.cell? ⟨b1, 2, none⟩ = some (.slice A0_2 l0_2.length c0_2) := (yaf a9.out 2).trans rfl
     have o3 := yac a9.out 0
     have o4 := yac a9.out 1
     have o5 := yac a9.out 2
     have F6 := b4.out
     have F7 := b5.out
     have o6 : wc.cell? ⟨b0, 0, none⟩ = some (.int .i64 a1_0) := (yaf a8.out 0).trans rfl
     have o7 : wc.cell? ⟨b0, 1, none⟩ = some (.int .i64 a1_1) := (yaf a8.out 1).trans rfl
     have o8 : wc.cell? ⟨b0, 2, none⟩ = some (.int .i64 a1_2) := (yaf a8.out 2).trans rfl
     have o9 : wc.cell? ⟨b0, 3, none⟩ = some (.int .i64 a1_3) := (yaf a8.out 3).trans rfl
     have p0 : wc.cell? ⟨b0, 4, none⟩ = some (.int .i64 a1_4) := (yaf a8.out 4).trans rfl
     have p1 := yac a8.out 0
     have p3 := yac a8.out 1
     have p4 := yac a8.out 2
     have p5 := yac a8.out 3
     have p7 := yac a8.out 4
     go_wp2_with (first | ((with_reducible refine gate_callee (f := 73) rfl ?_); refine goesL_ (some 31) rfl rfl Try.func73 (by kernel_rfl) rfl #[.agg #[.int .i64 a0_0, .int .i64 a0_1, .slice A0_2 l0_2.length c0_2], .agg #[.int .i64 a1_0, .int .i64 a1_1, .int .i64 a1_2, .int .i64 a1_3, .int .i64 a1_4]] rfl (by (try simp only [List.map_toArray, List.map_cons, List.map_nil]); first | done | rfl | (simp only [List.length_drop, List.length_take]; rfl)) ?_; (with_reducible refine (spec_l6Crop.calls kj3 a0_0 a0_1 _ _ l0_2 a1_0 a1_1 a1_2 a1_3 a1_4 d3 e5 j4 _ ?side1 ?side2 A26.out).mono ?_); (case side1 => repeat (first | exact (Kd.C_below HR0_2.out HB.out) | (with_reducible refine Kd.C_alloc ?_ _) | (with_reducible refine Kd.C_drewN ?_ _) | (with_reducible refine Kd.C_drew ?_))); (case side2 => exact HC0_2.out); rintro e w32 ⟨J3, rfl, ho0, hb⟩; refine ⟨_, rfl, ?_⟩; have n0_ := yaa (Kd.R_lower ho0 (yah (by repeat (first | (with_reducible first | exact HB.out | apply yad | apply yab | apply yae | refine yag ?_ (Aside0.out ‹_›)) | exact HB.out)))); have n1_ := yaa (yai (g := b1) (o := .cells #[.int .i64 a0_0, .int .i64 a0_1, .slice A0_2 l0_2.length c0_2] 25 (0, 0)) (upB a9.out) hb); have n2_ := yaa (yai (g := b0) (o := .cells #[.int .i64 a1_0, .int .i64 a1_1, .int .i64 a1_2, .int .i64 a1_3, .int .i64 a1_4] 27 (0, 0)) (upB a8.out) hb); have n3_ := yaa (yai (g := b2) (o := .cells #[.int .i64 0, .int .i64 0, .slice none 0 0] 25 (0, 0)) (upB b3.out) hb); have n4_ := yaa (yaj (by repeat (first | (with_reducible first | exact HB.out | apply yad | apply yab | apply yae | refine yag ?_ (Aside0.out ‹_›)) | exact HB.out)) hb); clear a9; clear a8; clear b3; clear HB; have k0 := n0_; have a9 := n1_; have a8 := n2_; have b3 := n3_; have HB := n4_; clear n0_ n1_ n2_ n3_ n4_; (try clear hb); (try clear hb2); (try clear hk); (try clear hi); (try clear ho0); have p8 : w32.cell? ⟨b2, 0, none⟩ = some (.int .i64 0) := (yaf b3.out 0).trans rfl; have p9 : w32.cell? ⟨b2, 1, none⟩ = some (.int .i64 0) := (yaf b3.out 1).trans rfl; have q0 : w32.cell? ⟨b2, 2, none⟩ = some (.slice none 0 0) := (yaf b3.out 2).trans rfl; have q1 := yac b3.out 0; have q2 := yac b3.out 1; have q3 := yac b3.out 2; obtain ⟨k9, l0, D0⟩ := Kd.R_slice k0.out; subst D0))
     refine bodyPost_ret (results_ct rfl _ _ b2 25 #[.int .i64 d3, .int .i64 e5, .slice k9 j4.length l0] (0, 0) _ rfl (by (with_reducible repeat (first | refine yak ?_ _ | refine yao ?_ | refine yal ?_ _)); refine blk_put (cs := #[.int .i64 d3, .int .i64 e5, .slice none 0 0]) ?_ 2 _ rfl; (with_reducible repeat (first | refine yak ?_ _ | refine yao ?_ | refine yal ?_ _)); refine blk_put (cs := #[.int .i64 d3, .int .i64 0, .slice none 0 0]) ?_ 1 _ rfl; (with_reducible repeat (first | refine yak ?_ _ | refine yao ?_ | refine yal ?_ _)); refine blk_put (cs := #[.int .i64 0, .int .i64 0, .slice none 0 0]) ?_ 0 _ rfl; exact upB b3.out) Try.underlying25 rfl (by kernel_rfl)) rfl ?_
     exact ⟨_, by first | rfl | (simp [errW_none, errW_some] <;> rfl) | (simp [*, errW_none, errW_some] <;> rfl), by (with_reducible repeat (first | apply Kd.R_alloc | apply Kd.R_drewN | apply Kd.R_drew)); exact Kd.R_mono (Kd.R_far (p := ⟨b2, 2, none⟩) (Kd.R_far (p := ⟨b2, 1, none⟩) (Kd.R_far (p := ⟨b2, 0, none⟩) (Kd.R_types k0.out b3.out (by decide)) (fun _ hk => hk.2) (.int .i64 d3)) (fun _ hk => hk.2) (.int .i64 e5)) (fun _ hk => hk.2) (.slice k9 j4.length l0)) (fun _ hk => trivial), by repeat (first | (with_reducible first | exact HB.out | apply yad | apply yab | apply yae | refine yag ?_ (Aside0.out ‹_›)) | exact HB.out)⟩
 ·
  rw [if_neg c3] at H
  have k6 : (a1_0 == 1) = false := beq_eq_false_iff_ne.mpr c3
  have k7 : (a1_0 != 1) = true := bne_iff_ne.mpr c3
  by_cases c35 : a1_0 = 2
  ·
   rw [if_pos c35] at H
   have l1 : (a1_0 == 2) = true := beq_iff_eq.mpr c35
   have l2 : (a1_0 != 2) = false := bne_eq_false_iff_eq.mpr c35
   clear c35
   replace H := Option.bind_eq_some_iff.mp H
   obtain ⟨⟨d4, e6, j5⟩, l3, H⟩ := H
   replace H : (some (d4, e6, j5, true)) = some (r1, r2, r3, r4) := H
   have A36 := yaa l3
   clear l3
   simp only [Option.some.injEq, Prod.mk.injEq] at H
   obtain ⟨rfl, rfl, rfl, rfl⟩ := H
   go_enter Try.func39, Try.ntmps39
   go_wp2_with (first | ((with_reducible refine gate_dst (N := 2) rfl ?_); refine yam ?hg (N := 2) ?hd (cs := #[.int .i64 a0_0, .int .i64 a0_1, .slice A0_2 l0_2.length c0_2]) (t := 25) ?hr ?_; (case hd => rfl); (case hg => rfl); (case hr => first | (go_simp; done) | (go_simp; rfl)); intro b1 hg w37 hbox hb; have n0_ := yaa (yaj (by repeat (first | (with_reducible first | exact HB.out | apply yad | apply yab | apply yae) | exact HB.out)) hb); have n1_ := yaa (hbox); have n2_ := yaa ((by rw [hg]; exact (yah (by repeat (first | (with_reducible first | exact HB.out | apply yad | apply yab | apply yae) | exact HB.out))) : w.heap.size ≤ b1)); have n3_ := yaa ((by rw [hg]; exact (yah (by repeat (first | (with_reducible first | exact HB.out | apply yad | apply yab | apply yae) | exact HB.out))) : w.heap.size ≤ b1)); clear HB; have HB := n0_; have a9 := n1_; have c4 := n2_; have c5 := n3_; clear n0_ n1_ n2_ n3_; clear hb hbox hg) | ((with_reducible refine gate_dst (N := 3) rfl ?_); refine yam ?hg (N := 3) ?hd (cs := #[.int .i64 a1_0, .int .i64 a1_1, .int .i64 a1_2, .int .i64 a1_3, .int .i64 a1_4]) (t := 27) ?hr ?_; (case hd => rfl); (case hg => rfl); (case hr => first | (go_simp; done) | (go_simp; rfl)); intro b0 hg w38 hbox hb; have n0_ := yaa (yai (g := b1) (o := .cells #[.int .i64 a0_0, .int .i64 a0_1, .slice A0_2 l0_2.length c0_2] 25 (0, 0)) (upB a9.out) hb); have n1_ := yaa (yaj (by repeat (first | (with_reducible first | exact HB.out | apply yad | apply yab | apply yae | refine yag ?_ (Aside0.out ‹_›)) | exact HB.out)) hb); have n2_ := yaa (hbox); have n3_ := yaa ((by rw [hg]; exact (yah (by repeat (first | (with_reducible first | exact HB.out | apply yad | apply yab | apply yae | refine yag ?_ (Aside0.out ‹_›)) | exact HB.out))) : w.heap.size ≤ b0)); have n4_ := yaa ((by rw [hg]; exact (yah (by repeat (first | (with_reducible first | exact HB.out | apply yad | apply yab | apply yae | refine yag ?_ (Aside0.out ‹_›)) | exact HB.out))) : w.heap.size ≤ b0)); have n5_ := yaa ((by rw [hg]; exact Nat.ne_of_lt (yan (g := b1) (o := .cells #[.int .i64 a0_0, .int .i64 a0_1, .slice A0_2 l0_2.length c0_2] 25 (0, 0)) (upB a9.out)) : b1 ≠ b0)); have n6_ := yaa ((by rw [hg]; exact Nat.ne_of_gt (yan (g := b1) (o := .cells #[.int .i64 a0_0, .int .i64 a0_1, .slice A0_2 l0_2.length c0_2] 25 (0, 0)) (upB a9.out)) : b0 ≠ b1)); clear a9; clear HB; have a9 := n0_; have HB := n1_; have a8 := n2_; have c6 := n3_; have c7 := n4_; have b6 := n5_; have b7 := n6_; clear n0_ n1_ n2_ n3_ n4_ n5_ n6_; clear hb hbox hg) | ((with_reducible refine gate_dst (N := 4) rfl ?_); refine yam ?hg (N := 4) ?hd (cs := #[.int .i64 0, .int .i64 0, .slice none 0 0]) (t := 25) ?hr ?_; (case hd => rfl); (case hg => rfl); (case hr => first | (go_simp; done) | (go_simp; rfl)); intro b2 hg w39 hbox hb; have n0_ := yaa (yai (g := b1) (o := .cells #[.int .i64 a0_0, .int .i64 a0_1, .slice A0_2 l0_2.length c0_2] 25 (0, 0)) (upB a9.out) hb); have n1_ := yaa (yai (g := b0) (o := .cells #[.int .i64 a1_0, .int .i64 a1_1, .int .i64 a1_2, .int .i64 a1_3, .int .i64 a1_4] 27 (0, 0)) (upB a8.out) hb); have n2_ := yaa (yaj (by repeat (first | (with_reducible first | exact HB.out | apply yad | apply yab | apply yae | refine yag ?_ (Aside0.out ‹_›)) | exact HB.out)) hb); have n3_ := yaa (hbox); have n4_ := yaa ((by rw [hg]; exact (yah (by repeat (first | (with_reducible first | exact HB.out | apply yad | apply yab | apply yae | refine yag ?_ (Aside0.out ‹_›)) | exact HB.out))) : w.heap.size ≤ b2)); have n5_ := yaa ((by rw [hg]; exact (yah (by repeat (first | (with_reducible first | exact HB.out | apply yad | apply yab | apply yae | refine yag ?_ (Aside0.out ‹_›)) | exact HB.out))) : w.heap.size ≤ b2)); have n6_ := yaa ((by rw [hg]; exact Nat.ne_of_lt (yan (g := b1) (o := .cells #[.int .i64 a0_0, .int .i64 a0_1, .slice A0_2 l0_2.length c0_2] 25 (0, 0)) (upB a9.out)) : b1 ≠ b2)); have n7_ := yaa ((by rw [hg]; exact Nat.ne_of_gt (yan (g := b1) (o := .cells #[.int .i64 a0_0, .int .i64 a0_1, .slice A0_2 l0_2.length c0_2] 25 (0, 0)) (upB a9.out)) : b2 ≠ b1)); have n8_ := yaa ((by rw [hg]; exact Nat.ne_of_lt (yan (g := b0) (o := .cells #[.int .i64 a1_0, .int .i64 a1_1, .int .i64 a1_2, .int .i64 a1_3, .int .i64 a1_4] 27 (0, 0)) (upB a8.out)) : b0 ≠ b2)); have n9_ := yaa ((by rw [hg]; exact Nat.ne_of_gt (yan (g := b0) (o := .cells #[.int .i64 a1_0, .int .i64 a1_1, .int .i64 a1_2, .int .i64 a1_3, .int .i64 a1_4] 27 (0, 0)) (upB a8.out)) : b2 ≠ b0)); clear a9; clear a8; clear HB; have a9 := n0_; have a8 := n1_; have HB := n2_; have b3 := n3_; have d0 := n4_; have d1 := n5_; have b8 := n6_; have b9 := n7_; have b4 := n8_; have b5 := n9_; clear n0_ n1_ n2_ n3_ n4_ n5_ n6_ n7_ n8_ n9_; clear hb hbox hg; have F8 := b7.out; have F9 := b6.out; have G0 := b4.out; have G1 := b5.out; have q4 : w39.cell? ⟨b0, 0, none⟩ = some (.int .i64 a1_0) := (yaf a8.out 0).trans rfl; have q5 : w39.cell? ⟨b0, 1, none⟩ = some (.int .i64 a1_1) := (yaf a8.out 1).trans rfl; have q6 : w39.cell? ⟨b0, 2, none⟩ = some (.int .i64 a1_2) := (yaf a8.out 2).trans rfl; have q7 : w39.cell? ⟨b0, 3, none⟩ = some (.int .i64 a1_3) := (yaf a8.out 3).trans rfl; have q8 : w39.cell? ⟨b0, 4, none⟩ = some (.int .i64 a1_4) := (yaf a8.out 4).trans rfl; have q9 := yac a8.out 0; have r0 := yac a8.out 1; have r5 := yac a8.out 2; have r6 := yac a8.out 3; have r7 := yac a8.out 4; have G2 := b8.out; have G3 := b9.out; have r8 : w39.cell? ⟨b1, 0, none⟩ = some (.int .i64 a0_0) := (yaf a9.out 0).trans rfl; have r9 : w39.cell? ⟨b1, 1, none⟩ = some (.int .i64 a0_1) := (yaf a9.out 1).trans rfl; have s0 : w39.cell? ⟨b1, 2, none⟩ = some (.slice A0_2 l0_2.length c0_2) := (yaf a9.out 2).trans rfl; have s1 := yac a9.out 0; have s2 := yac a9.out 1; have s3 := yac a9.out 2) | ((with_reducible refine gate_callee (f := 74) rfl ?_); refine goesL_ (some 35) rfl rfl Try.func74 (by kernel_rfl) rfl #[.agg #[.int .i64 a0_0, .int .i64 a0_1, .slice A0_2 l0_2.length c0_2]] rfl (by (try simp only [List.map_toArray, List.map_cons, List.map_nil]); first | done | rfl | (simp only [List.length_drop, List.length_take]; rfl)) ?_; (with_reducible refine (spec_l6FlipX.calls k a0_0 a0_1 _ _ l0_2 d4 e6 j5 _ ?side1 ?side2 A36.out).mono ?_); (case side1 => repeat (first | exact (Kd.C_below HR0_2.out HB.out) | (with_reducible refine Kd.C_alloc ?_ _) | (with_reducible refine Kd.C_drewN ?_ _) | (with_reducible refine Kd.C_drew ?_))); (case side2 => exact HC0_2.out); rintro e w45 ⟨J4, rfl, ho0, hb⟩; refine ⟨_, rfl, ?_⟩; have n0_ := yaa (Kd.R_lower ho0 (yah (by repeat (first | (with_reducible first | exact HB.out | apply yad | apply yab | apply yae | refine yag ?_ (Aside0.out ‹_›)) | exact HB.out)))); have n1_ := yaa (yai (g := b1) (o := .cells #[.int .i64 a0_0, .int .i64 a0_1, .slice A0_2 l0_2.length c0_2] 25 (0, 0)) (upB a9.out) hb); have n2_ := yaa (yai (g := b0) (o := .cells #[.int .i64 a1_0, .int .i64 a1_1, .int .i64 a1_2, .int .i64 a1_3, .int .i64 a1_4] 27 (0, 0)) (upB a8.out) hb); have n3_ := yaa (yai (g := b2) (o := .cells #[.int .i64 0, .int .i64 0, .slice none 0 0] 25 (0, 0)) (upB b3.out) hb); have n4_ := yaa (yaj (by repeat (first | (with_reducible first | exact HB.out | apply yad | apply yab | apply yae | refine yag ?_ (Aside0.out ‹_›)) | exact HB.out)) hb); clear a9; clear a8; clear b3; clear HB; have k1 := n0_; have a9 := n1_; have a8 := n2_; have b3 := n3_; have HB := n4_; clear n0_ n1_ n2_ n3_ n4_; (try clear hb); (try clear hb2); (try clear hk); (try clear hi); (try clear ho0); have s4 : w45.cell? ⟨b2, 0, none⟩ = some (.int .i64 0) := (yaf b3.out 0).trans rfl; have s5 : w45.cell? ⟨b2, 1, none⟩ = some (.int .i64 0) := (yaf b3.out 1).trans rfl; have s6 : w45.cell? ⟨b2, 2, none⟩ = some (.slice none 0 0) := (yaf b3.out 2).trans rfl; have s7 := yac b3.out 0; have s8 := yac b3.out 1; have s9 := yac b3.out 2; obtain ⟨l4, l5, D1⟩ := Kd.R_slice k1.out; subst D1))
   refine bodyPost_ret (results_ct rfl _ _ b2 25 #[.int .i64 d4, .int .i64 e6, .slice l4 j5.length l5] (0, 0) _ rfl (by (with_reducible repeat (first | refine yak ?_ _ | refine yao ?_ | refine yal ?_ _)); refine blk_put (cs := #[.int .i64 d4, .int .i64 e6, .slice none 0 0]) ?_ 2 _ rfl; (with_reducible repeat (first | refine yak ?_ _ | refine yao ?_ | refine yal ?_ _)); refine blk_put (cs := #[.int .i64 d4, .int .i64 0, .slice none 0 0]) ?_ 1 _ rfl; (with_reducible repeat (first | refine yak ?_ _ | refine yao ?_ | refine yal ?_ _)); refine blk_put (cs := #[.int .i64 0, .int .i64 0, .slice none 0 0]) ?_ 0 _ rfl; exact upB b3.out) Try.underlying25 rfl (by kernel_rfl)) rfl ?_
   exact ⟨_, by first | rfl | (simp [errW_none, errW_some] <;> rfl) | (simp [*, errW_none, errW_some] <;> rfl), by (with_reducible repeat (first | apply Kd.R_alloc | apply Kd.R_drewN | apply Kd.R_drew)); exact Kd.R_mono (Kd.R_far (p := ⟨b2, 2, none⟩) (Kd.R_far (p := ⟨b2, 1, none⟩) (Kd.R_far (p := ⟨b2, 0, none⟩) (Kd.R_types k1.out b3.out (by decide)) (fun _ hk => hk.2) (.int .i64 d4)) (fun _ hk => hk.2) (.int .i64 e6)) (fun _ hk => hk.2) (.slice l4 j5.length l5)) (fun _ hk => trivial), by repeat (first | (with_reducible first | exact HB.out | apply yad | apply yab | apply yae | refine yag ?_ (Aside0.out ‹_›)) | exact HB.out)⟩
  ·
   rw [if_neg c35] at H
   have l1 : (a1_0 == 2) = false := beq_eq_false_iff_ne.mpr c35
   have l2 : (a1_0 != 2) = true := bne_iff_ne.mpr c35
   by_cases c48 : a1_0 = 3
   ·
    rw [if_pos c48] at H
    have l6 : (a1_0 == 3) = true := beq_iff_eq.mpr c48
    have l7 : (a1_0 != 3) = false := bne_eq_false_iff_eq.mpr c48
    clear c48
    replace H := Option.bind_eq_some_iff.mp H
    obtain ⟨⟨d5, e7, j6⟩, l8, H⟩ := H
    replace H : (some (d5, e7, j6, true)) = some (r1, r2, r3, r4) := H
    have A49 := yaa l8
    clear l8
    simp only [Option.some.injEq, Prod.mk.injEq] at H
    obtain ⟨rfl, rfl, rfl, rfl⟩ := H
    go_enter Try.func39, Try.ntmps39
    go_wp2_with (first | ((with_reducible refine gate_dst (N := 2) rfl ?_); refine yam ?hg (N := 2) ?hd (cs := #[.int .i64 a0_0, .int .i64 a0_1, .slice A0_2 l0_2.length c0_2]) (t := 25) ?hr ?_; (case hd => rfl); (case hg => rfl); (case hr => first | (go_simp; done) | (go_simp; rfl)); intro b1 hg w50 hbox hb; have n0_ := yaa (yaj (by repeat (first | (with_reducible first | exact HB.out | apply yad | apply yab | apply yae) | exact HB.out)) hb); have n1_ := yaa (hbox); have n2_ := yaa ((by rw [hg]; exact (yah (by repeat (first | (with_reducible first | exact HB.out | apply yad | apply yab | apply yae) | exact HB.out))) : w.heap.size ≤ b1)); have n3_ := yaa ((by rw [hg]; exact (yah (by repeat (first | (with_reducible first | exact HB.out | apply yad | apply yab | apply yae) | exact HB.out))) : w.heap.size ≤ b1)); clear HB; have HB := n0_; have a9 := n1_; have c4 := n2_; have c5 := n3_; clear n0_ n1_ n2_ n3_; clear hb hbox hg) | ((with_reducible refine gate_dst (N := 3) rfl ?_); refine yam ?hg (N := 3) ?hd (cs := #[.int .i64 a1_0, .int .i64 a1_1, .int .i64 a1_2, .int .i64 a1_3, .int .i64 a1_4]) (t := 27) ?hr ?_; (case hd => rfl); (case hg => rfl); (case hr => first | (go_simp; done) | (go_simp; rfl)); intro b0 hg w51 hbox hb; have n0_ := yaa (yai (g := b1) (o := .cells #[.int .i64 a0_0, .int .i64 a0_1, .slice A0_2 l0_2.length c0_2] 25 (0, 0)) (upB a9.out) hb); have n1_ := yaa (yaj (by repeat (first | (with_reducible first | exact HB.out | apply yad | apply yab | apply yae | refine yag ?_ (Aside0.out ‹_›)) | exact HB.out)) hb); have n2_ := yaa (hbox); have n3_ := yaa ((by rw [hg]; exact (yah (by repeat (first | (with_reducible first | exact HB.out | apply yad | apply yab | apply yae | refine yag ?_ (Aside0.out ‹_›)) | exact HB.out))) : w.heap.size ≤ b0)); have n4_ := yaa ((by rw [hg]; exact (yah (by repeat (first | (with_reducible first | exact HB.out | apply yad | apply yab | apply yae | refine yag ?_ (Aside0.out ‹_›)) | exact HB.out))) : w.heap.size ≤ b0)); have n5_ := yaa ((by rw [hg]; exact Nat.ne_of_lt (yan (g := b1) (o := .cells #[.int .i64 a0_0, .int .i64 a0_1, .slice A0_2 l0_2.length c0_2] 25 (0, 0)) (upB a9.out)) : b1 ≠ b0)); have n6_ := yaa ((by rw [hg]; exact Nat.ne_of_gt (yan (g := b1) (o := .cells #[.int .i64 a0_0, .int .i64 a0_1, .slice A0_2 l0_2.length c0_2] 25 (0, 0)) (upB a9.out)) : b0 ≠ b1)); clear a9; clear HB; have a9 := n0_; have HB := n1_; have a8 := n2_; have c6 := n3_; have c7 := n4_; have b6 := n5_; have b7 := n6_; clear n0_ n1_ n2_ n3_ n4_ n5_ n6_; clear hb hbox hg) | ((with_reducible refine gate_dst (N := 4) rfl ?_); refine yam ?hg (N := 4) ?hd (cs := #[.int .i64 0, .int .i64 0, .slice none 0 0]) (t := 25) ?hr ?_; (case hd => rfl); (case hg => rfl); (case hr => first | (go_simp; done) | (go_simp; rfl)); intro b2 hg w52 hbox hb; have n0_ := yaa (yai (g := b1) (o := .cells #[.int .i64 a0_0, .int .i64 a0_1, .slice A0_2 l0_2.length c0_2] 25 (0, 0)) (upB a9.out) hb); have n1_ := yaa (yai (g := b0) (o := .cells #[.int .i64 a1_0, .int .i64 a1_1, .int .i64 a1_2, .int .i64 a1_3, .int .i64 a1_4] 27 (0, 0)) (upB a8.out) hb); have n2_ := yaa (yaj (by repeat (first | (with_reducible first | exact HB.out | apply yad | apply yab | apply yae | refine yag ?_ (Aside0.out ‹_›)) | exact HB.out)) hb); have n3_ := yaa (hbox); have n4_ := yaa ((by rw [hg]; exact (yah (by repeat (first | (with_reducible first | exact HB.out | apply yad | apply yab | apply yae | refine yag ?_ (Aside0.out ‹_›)) | exact HB.out))) : w.heap.size ≤ b2)); have n5_ := yaa ((by rw [hg]; exact (yah (by repeat (first | (with_reducible first | exact HB.out | apply yad | apply yab | apply yae | refine yag ?_ (Aside0.out ‹_›)) | exact HB.out))) : w.heap.size ≤ b2)); have n6_ := yaa ((by rw [hg]; exact Nat.ne_of_lt (yan (g := b1) (o := .cells #[.int .i64 a0_0, .int .i64 a0_1, .slice A0_2 l0_2.length c0_2] 25 (0, 0)) (upB a9.out)) : b1 ≠ b2)); have n7_ := yaa ((by rw [hg]; exact Nat.ne_of_gt (yan (g := b1) (o := .cells #[.int .i64 a0_0, .int .i64 a0_1, .slice A0_2 l0_2.length c0_2] 25 (0, 0)) (upB a9.out)) : b2 ≠ b1)); have n8_ := yaa ((by rw [hg]; exact Nat.ne_of_lt (yan (g := b0) (o := .cells #[.int .i64 a1_0, .int .i64 a1_1, .int .i64 a1_2, .int .i64 a1_3, .int .i64 a1_4] 27 (0, 0)) (upB a8.out)) : b0 ≠ b2)); have n9_ := yaa ((by rw [hg]; exact Nat.ne_of_gt (yan (g := b0) (o := .cells #[.int .i64 a1_0, .int .i64 a1_1, .int .i64 a1_2, .int .i64 a1_3, .int .i64 a1_4] 27 (0, 0)) (upB a8.out)) : b2 ≠ b0)); clear a9; clear a8; clear HB; have a9 := n0_; have a8 := n1_; have HB := n2_; have b3 := n3_; have d0 := n4_; have d1 := n5_; have b8 := n6_; have b9 := n7_; have b4 := n8_; have b5 := n9_; clear n0_ n1_ n2_ n3_ n4_ n5_ n6_ n7_ n8_ n9_; clear hb hbox hg; have G4 := b7.out; have G5 := b6.out; have G6 := b4.out; have G7 := b5.out; have t0 : w52.cell? ⟨b0, 0, none⟩ = some (.int .i64 a1_0) := (yaf a8.out 0).trans rfl; have t1 : w52.cell? ⟨b0, 1, none⟩ = some (.int .i64 a1_1) := (yaf a8.out 1).trans rfl; have t2 : w52.cell? ⟨b0, 2, none⟩ = some (.int .i64 a1_2) := (yaf a8.out 2).trans rfl; have t3 : w52.cell? ⟨b0, 3, none⟩ = some (.int .i64 a1_3) := (yaf a8.out 3).trans rfl; have t4 : w52.cell? ⟨b0, 4, none⟩ = some (.int .i64 a1_4) := (yaf a8.out 4).trans rfl; have t5 := yac a8.out 0; have t6 := yac a8.out 1; have t7 := yac a8.out 2; have t8 := yac a8.out 3; have t9 := yac a8.out 4; have G8 := b8.out; have G9 := b9.out; have u0 : w52.cell? ⟨b1, 0, none⟩ = some (.int .i64 a0_0) := (yaf a9.out 0).trans rfl; have u1 : w52.cell? ⟨b1, 1, none⟩ = some (.int .i64 a0_1) := (yaf a9.out 1).trans rfl; have u2 : w52.cell? ⟨b1, 2, none⟩ = some (.slice A0_2 l0_2.length c0_2) := (yaf a9.out 2).trans rfl; have u3 := yac a9.out 0; have u4 := yac a9.out 1; have u5 := yac a9.out 2) | ((with_reducible refine gate_callee (f := 75) rfl ?_); refine goesL_ (some 39) rfl rfl Try.func75 (by kernel_rfl) rfl #[.agg #[.int .i64 a0_0, .int .i64 a0_1, .slice A0_2 l0_2.length c0_2]] rfl (by (try simp only [List.map_toArray, List.map_cons, List.map_nil]); first | done | rfl | (simp only [List.length_drop, List.length_take]; rfl)) ?_; (with_reducible refine (spec_l5Flip.calls k a0_0 a0_1 _ _ l0_2 d5 e7 j6 _ ?side1 ?side2 A49.out).mono ?_); (case side1 => repeat (first | exact (Kd.C_below HR0_2.out HB.out) | (with_reducible refine Kd.C_alloc ?_ _) | (with_reducible refine Kd.C_drewN ?_ _) | (with_reducible refine Kd.C_drew ?_))); (case side2 => exact HC0_2.out); rintro e w58 ⟨J5, rfl, ho0, hb⟩; refine ⟨_, rfl, ?_⟩; have n0_ := yaa (Kd.R_lower ho0 (yah (by repeat (first | (with_reducible first | exact HB.out | apply yad | apply yab | apply yae | refine yag ?_ (Aside0.out ‹_›)) | exact HB.out)))); have n1_ := yaa (yai (g := b1) (o := .cells #[.int .i64 a0_0, .int .i64 a0_1, .slice A0_2 l0_2.length c0_2] 25 (0, 0)) (upB a9.out) hb); have n2_ := yaa (yai (g := b0) (o := .cells #[.int .i64 a1_0, .int .i64 a1_1, .int .i64 a1_2, .int .i64 a1_3, .int .i64 a1_4] 27 (0, 0)) (upB a8.out) hb); have n3_ := yaa (yai (g := b2) (o := .cells #[.int .i64 0, .int .i64 0, .slice none 0 0] 25 (0, 0)) (upB b3.out) hb); have n4_ := yaa (yaj (by repeat (first | (with_reducible first | exact HB.out | apply yad | apply yab | apply yae | refine yag ?_ (Aside0.out ‹_›)) | exact HB.out)) hb); clear a9; clear a8; clear b3; clear HB; have k2 := n0_; have a9 := n1_; have a8 := n2_; have b3 := n3_; have HB := n4_; clear n0_ n1_ n2_ n3_ n4_; (try clear hb); (try clear hb2); (try clear hk); (try clear hi); (try clear ho0); have u6 : w58.cell? ⟨b2, 0, none⟩ = some (.int .i64 0) := (yaf b3.out 0).trans rfl; have u7 : w58.cell? ⟨b2, 1, none⟩ = some (.int .i64 0) := (yaf b3.out 1).trans rfl; have u8 : w58.cell? ⟨b2, 2, none⟩ = some (.slice none 0 0) := (yaf b3.out 2).trans rfl; have u9 := yac b3.out 0; have v0 := yac b3.out 1; have v1 := yac b3.out 2; obtain ⟨l9, m0, D2⟩ := Kd.R_slice k2.out; subst D2))
    refine bodyPost_ret (results_ct rfl _ _ b2 25 #[.int .i64 d5, .int .i64 e7, .slice l9 j6.length m0] (0, 0) _ rfl (by (with_reducible repeat (first | refine yak ?_ _ | refine yao ?_ | refine yal ?_ _)); refine blk_put (cs := #[.int .i64 d5, .int .i64 e7, .slice none 0 0]) ?_ 2 _ rfl; (with_reducible repeat (first | refine yak ?_ _ | refine yao ?_ | refine yal ?_ _)); refine blk_put (cs := #[.int .i64 d5, .int .i64 0, .slice none 0 0]) ?_ 1 _ rfl; (with_reducible repeat (first | refine yak ?_ _ | refine yao ?_ | refine yal ?_ _)); refine blk_put (cs := #[.int .i64 0, .int .i64 0, .slice none 0 0]) ?_ 0 _ rfl; exact upB b3.out) Try.underlying25 rfl (by kernel_rfl)) rfl ?_
    exact ⟨_, by first | rfl | (simp [errW_none, errW_some] <;> rfl) | (simp [*, errW_none, errW_some] <;> rfl), by (with_reducible repeat (first | apply Kd.R_alloc | apply Kd.R_drewN | apply Kd.R_drew)); exact Kd.R_mono (Kd.R_far (p := ⟨b2, 2, none⟩) (Kd.R_far (p := ⟨b2, 1, none⟩) (Kd.R_far (p := ⟨b2, 0, none⟩) (Kd.R_types k2.out b3.out (by decide)) (fun _ hk => hk.2) (.int .i64 d5)) (fun _ hk => hk.2) (.int .i64 e7)) (fun _ hk => hk.2) (.slice l9 j6.length m0)) (fun _ hk => trivial), by repeat (first | (with_reducible first | exact HB.out | apply yad | apply yab | apply yae | refine yag ?_ (Aside0.out ‹_›)) | exact HB.out)⟩
   ·
    rw [if_neg c48] at H
    have l6 : (a1_0 == 3) = false := beq_eq_false_iff_ne.mpr c48
    have l7 : (a1_0 != 3) = true := bne_iff_ne.mpr c48
    by_cases c61 : a1_0 = 4
    ·
     rw [if_pos c61] at H
     have m1 : (a1_0 == 4) = true := beq_iff_eq.mpr c61
     have m2 : (a1_0 != 4) = false := bne_eq_false_iff_eq.mpr c61
     clear c61
     replace H := Option.bind_eq_some_iff.mp H
     obtain ⟨⟨d6, e8, j7⟩, m3, H⟩ := H
     replace H : (some (d6, e8, j7, true)) = some (r1, r2, r3, r4) := H
     have A62 := yaa m3
     clear m3
     simp only [Option.some.injEq, Prod.mk.injEq] at H
     obtain ⟨rfl, rfl, rfl, rfl⟩ := H
     go_enter Try.func39, Try.ntmps39
     go_wp2_with (first | ((with_reducible refine gate_dst (N := 2) rfl ?_); refine yam ?hg (N := 2) ?hd (cs := #[.int .i64 a0_0, .int .i64 a0_1, .slice A0_2 l0_2.length c0_2]) (t := 25) ?hr ?_; (case hd => rfl); (case hg => rfl); (case hr => first | (go_simp; done) | (go_simp; rfl)); intro b1 hg w63 hbox hb; have n0_ := yaa (yaj (by repeat (first | (with_reducible first | exact HB.out | apply yad | apply yab | apply yae) | exact HB.out)) hb); have n1_ := yaa (hbox); have n2_ := yaa ((by rw [hg]; exact (yah (by repeat (first | (with_reducible first | exact HB.out | apply yad | apply yab | apply yae) | exact HB.out))) : w.heap.size ≤ b1)); have n3_ := yaa ((by rw [hg]; exact (yah (by repeat (first | (with_reducible first | exact HB.out | apply yad | apply yab | apply yae) | exact HB.out))) : w.heap.size ≤ b1)); clear HB; have HB := n0_; have a9 := n1_; have c4 := n2_; have c5 := n3_; clear n0_ n1_ n2_ n3_; clear hb hbox hg) | ((with_reducible refine gate_dst (N := 3) rfl ?_); refine yam ?hg (N := 3) ?hd (cs := #[.int .i64 a1_0, .int .i64 a1_1, .int .i64 a1_2, .int .i64 a1_3, .int .i64 a1_4]) (t := 27) ?hr ?_; (case hd => rfl); (case hg => rfl); (case hr => first | (go_simp; done) | (go_simp; rfl)); intro b0 hg w64 hbox hb; have n0_ := yaa (yai (g := b1) (o := .cells #[.int .i64 a0_0, .int .i64 a0_1, .slice A0_2 l0_2.length c0_2] 25 (0, 0)) (upB a9.out) hb); have n1_ := yaa (yaj (by repeat (first | (with_reducible first | exact HB.out | apply yad | apply yab | apply yae | refine yag ?_ (Aside0.out ‹_›)) | exact HB.out)) hb); have n2_ := yaa (hbox); have n3_ := yaa ((by rw [hg]; exact (yah (by repeat (first | (with_reducible first | exact HB.out | apply yad | apply yab | apply yae | refine yag ?_ (Aside0.out ‹_›)) | exact HB.out))) : w.heap.size ≤ b0)); have n4_ := yaa ((by rw [hg]; exact (yah (by repeat (first | (with_reducible first | exact HB.out | apply yad | apply yab | apply yae | refine yag ?_ (Aside0.out ‹_›)) | exact HB.out))) : w.heap.size ≤ b0)); have n5_ := yaa ((by rw [hg]; exact Nat.ne_of_lt (yan (g := b1) (o := .cells #[.int .i64 a0_0, .int .i64 a0_1, .slice A0_2 l0_2.length c0_2] 25 (0, 0)) (upB a9.out)) : b1 ≠ b0)); have n6_ := yaa ((by rw [hg]; exact Nat.ne_of_gt (yan (g := b1) (o := .cells #[.int .i64 a0_0, .int .i64 a0_1, .slice A0_2 l0_2.length c0_2] 25 (0, 0)) (upB a9.out)) : b0 ≠ b1)); clear a9; clear HB; have a9 := n0_; have HB := n1_; have a8 := n2_; have c6 := n3_; have c7 := n4_; have b6 := n5_; have b7 := n6_; clear n0_ n1_ n2_ n3_ n4_ n5_ n6_; clear hb hbox hg) | ((with_reducible refine gate_dst (N := 4) rfl ?_); refine yam ?hg (N := 4) ?hd (cs := #[.int .i64 0, .int .i64 0, .slice none 0 0]) (t := 25) ?hr ?_; (case hd => rfl); (case hg => rfl); (case hr => first | (go_simp; done) | (go_simp; rfl)); intro b2 hg w65 hbox hb; have n0_ := yaa (yai (g := b1) (o := .cells #[.int .i64 a0_0, .int .i64 a0_1, .slice A0_2 l0_2.length c0_2] 25 (0, 0)) (upB a9.out) hb); have n1_ := yaa (yai (g := b0) (o := .cells #[.int .i64 a1_0, .int .i64 a1_1, .int .i64 a1_2, .int .i64 a1_3, .int .i64 a1_4] 27 (0, 0)) (upB a8.out) hb); have n2_ := yaa (yaj (by repeat (first | (with_reducible first | exact HB.out | apply yad | apply yab | apply yae | refine yag ?_ (Aside0.out ‹_›)) | exact HB.out)) hb); have n3_ := yaa (hbox); have n4_ := yaa ((by rw [hg]; exact (yah (by repeat (first | (with_reducible first | exact HB.out | apply yad | apply yab | apply yae | refine yag ?_ (Aside0.out ‹_›)) | exact HB.out))) : w.heap.size ≤ b2)); have n5_ := yaa ((by rw [hg]; exact (yah (by repeat (first | (with_reducible first | exact HB.out | apply yad | apply yab | apply yae | refine yag ?_ (Aside0.out ‹_›)) | exact HB.out))) : w.heap.size ≤ b2)); have n6_ := yaa ((by rw [hg]; exact Nat.ne_of_lt (yan (g := b1) (o := .cells #[.int .i64 a0_0, .int .i64 a0_1, .slice A0_2 l0_2.length c0_2] 25 (0, 0)) (upB a9.out)) : b1 ≠ b2)); have n7_ := yaa ((by rw [hg]; exact Nat.ne_of_gt (yan (g := b1) (o := .cells #[.int .i64 a0_0, .int .i64 a0_1, .slice A0_2 l0_2.length c0_2] 25 (0, 0)) (upB a9.out)) : b2 ≠ b1)); have n8_ := yaa ((by rw [hg]; exact Nat.ne_of_lt (yan (g := b0) (o := .cells #[.int .i64 a1_0, .int .i64 a1_1, .int .i64 a1_2, .int .i64 a1_3, .int .i64 a1_4] 27 (0, 0)) (upB a8.out)) : b0 ≠ b2)); have n9_ := yaa ((by rw [hg]; exact Nat.ne_of_gt (yan (g := b0) (o := .cells #[.int .i64 a1_0, .int .i64 a1_1, .int .i64 a1_2, .int .i64 a1_3, .int .i64 a1_4] 27 (0, 0)) (upB a8.out)) : b2 ≠ b0)); clear a9; clear a8; clear HB; have a9 := n0_; have a8 := n1_; have HB := n2_; have b3 := n3_; have d0 := n4_; have d1 := n5_; have b8 := n6_; have b9 := n7_; have b4 := n8_; have b5 := n9_; clear n0_ n1_ n2_ n3_ n4_ n5_ n6_ n7_ n8_ n9_; clear hb hbox hg; have H0 := b7.out; have H2 := b6.out; have H3 := b4.out; have H4 := b5.out; have v2 : w65.cell? ⟨b0, 0, none⟩ = some (.int .i64 a1_0) := (yaf a8.out 0).trans rfl; have v3 : w65.cell? ⟨b0, 1, none⟩ = some (.int .i64 a1_1) := (yaf a8.out 1).trans rfl; have v4 : w65.cell? ⟨b0, 2, none⟩ = some (.int .i64 a1_2) := (yaf a8.out 2).trans rfl; have v5 : w65.cell? ⟨b0, 3, none⟩ = some (.int .i64 a1_3) := (yaf a8.out 3).trans rfl; have v6 : w65.cell? ⟨b0, 4, none⟩ = some (.int .i64 a1_4) := (yaf a8.out 4).trans rfl; have v7 := yac a8.out 0; have v8 := yac a8.out 1; have v9 := yac a8.out 2; have w0 := yac a8.out 3; have w1 := yac a8.out 4; have H5 := b8.out; have H6 := b9.out; have w2 : w65.cell? ⟨b1, 0, none⟩ = some (.int .i64 a0_0) := (yaf a9.out 0).trans rfl; have w3 : w65.cell? ⟨b1, 1, none⟩ = some (.int .i64 a0_1) := (yaf a9.out 1).trans rfl; have w4 : w65.cell? ⟨b1, 2, none⟩ = some (.slice A0_2 l0_2.length c0_2) := (yaf a9.out 2).trans rfl; have w8 := yac a9.out 0; have w9 := yac a9.out 1; have x0 := yac a9.out 2) | ((with_reducible refine gate_callee (f := 76) rfl ?_); refine goesL_ (some 43) rfl rfl Try.func76 (by kernel_rfl) rfl #[.agg #[.int .i64 a0_0, .int .i64 a0_1, .slice A0_2 l0_2.length c0_2]] rfl (by (try simp only [List.map_toArray, List.map_cons, List.map_nil]); first | done | rfl | (simp only [List.length_drop, List.length_take]; rfl)) ?_; (with_reducible refine (spec_l6Turn.calls k a0_0 a0_1 _ _ l0_2 d6 e8 j7 _ ?side1 ?side2 A62.out).mono ?_); (case side1 => repeat (first | exact (Kd.C_below HR0_2.out HB.out) | (with_reducible refine Kd.C_alloc ?_ _) | (with_reducible refine Kd.C_drewN ?_ _) | (with_reducible refine Kd.C_drew ?_))); (case side2 => exact HC0_2.out); rintro e w71 ⟨J6, rfl, ho0, hb⟩; refine ⟨_, rfl, ?_⟩; have n0_ := yaa (Kd.R_lower ho0 (yah (by repeat (first | (with_reducible first | exact HB.out | apply yad | apply yab | apply yae | refine yag ?_ (Aside0.out ‹_›)) | exact HB.out)))); have n1_ := yaa (yai (g := b1) (o := .cells #[.int .i64 a0_0, .int .i64 a0_1, .slice A0_2 l0_2.length c0_2] 25 (0, 0)) (upB a9.out) hb); have n2_ := yaa (yai (g := b0) (o := .cells #[.int .i64 a1_0, .int .i64 a1_1, .int .i64 a1_2, .int .i64 a1_3, .int .i64 a1_4] 27 (0, 0)) (upB a8.out) hb); have n3_ := yaa (yai (g := b2) (o := .cells #[.int .i64 0, .int .i64 0, .slice none 0 0] 25 (0, 0)) (upB b3.out) hb); have n4_ := yaa (yaj (by repeat (first | (with_reducible first | exact HB.out | apply yad | apply yab | apply yae | refine yag ?_ (Aside0.out ‹_›)) | exact HB.out)) hb); clear a9; clear a8; clear b3; clear HB; have k3 := n0_; have a9 := n1_; have a8 := n2_; have b3 := n3_; have HB := n4_; clear n0_ n1_ n2_ n3_ n4_; (try clear hb); (try clear hb2); (try clear hk); (try clear hi); (try clear ho0); have x1 : w71.cell? ⟨b2, 0, none⟩ = some (.int .i64 0) := (yaf b3.out 0).trans rfl; have x2 : w71.cell? ⟨b2, 1, none⟩ = some (.int .i64 0) := (yaf b3.out 1).trans rfl; have x3 : w71.cell? ⟨b2, 2, none⟩ = some (.slice none 0 0) := (yaf b3.out 2).trans rfl; have x4 := yac b3.out 0; have x5 := yac b3.out 1; have x6 := yac b3.out 2; obtain ⟨m4, m5, D3⟩ := Kd.R_slice k3.out; subst D3))
     refine bodyPost_ret (results_ct rfl _ _ b2 25 #[.int .i64 d6, .int .i64 e8, .slice m4 j7.length m5] (0, 0) _ rfl (by (with_reducible repeat (first | refine yak ?_ _ | refine yao ?_ | refine yal ?_ _)); refine blk_put (cs := #[.int .i64 d6, .int .i64 e8, .slice none 0 0]) ?_ 2 _ rfl; (with_reducible repeat (first | refine yak ?_ _ | refine yao ?_ | refine yal ?_ _)); refine blk_put (cs := #[.int .i64 d6, .int .i64 0, .slice none 0 0]) ?_ 1 _ rfl; (with_reducible repeat (first | refine yak ?_ _ | refine yao ?_ | refine yal ?_ _)); refine blk_put (cs := #[.int .i64 0, .int .i64 0, .slice none 0 0]) ?_ 0 _ rfl; exact upB b3.out) Try.underlying25 rfl (by kernel_rfl)) rfl ?_
     exact ⟨_, by first | rfl | (simp [errW_none, errW_some] <;> rfl) | (simp [*, errW_none, errW_some] <;> rfl), by (with_reducible repeat (first | apply Kd.R_alloc | apply Kd.R_drewN | apply Kd.R_drew)); exact Kd.R_mono (Kd.R_far (p := ⟨b2, 2, none⟩) (Kd.R_far (p := ⟨b2, 1, none⟩) (Kd.R_far (p := ⟨b2, 0, none⟩) (Kd.R_types k3.out b3.out (by decide)) (fun _ hk => hk.2) (.int .i64 d6)) (fun _ hk => hk.2) (.int .i64 e8)) (fun _ hk => hk.2) (.slice m4 j7.length m5)) (fun _ hk => trivial), by repeat (first | (with_reducible first | exact HB.out | apply yad | apply yab | apply yae | refine yag ?_ (Aside0.out ‹_›)) | exact HB.out)⟩
    ·
     rw [if_neg c61] at H
     have m1 : (a1_0 == 4) = false := beq_eq_false_iff_ne.mpr c61
     have m2 : (a1_0 != 4) = true := bne_iff_ne.mpr c61
     by_cases c74 : a1_0 = 7
     ·
      rw [if_pos c74] at H
      have m6 : (a1_0 == 7) = true := beq_iff_eq.mpr c74
      have m7 : (a1_0 != 7) = false := bne_eq_false_iff_eq.mpr c74
      clear c74
      replace H := Option.bind_eq_some_iff.mp H
      obtain ⟨⟨d7, e9, j8⟩, m8, H⟩ := H
      replace H : (some (d7, e9, j8, true)) = some (r1, r2, r3, r4) := H
      have A75 := yaa m8
      clear m8
      simp only [Option.some.injEq, Prod.mk.injEq] at H
      obtain ⟨rfl, rfl, rfl, rfl⟩ := H
      go_enter Try.func39, Try.ntmps39
      go_wp2_with (first | ((with_reducible refine gate_dst (N := 2) rfl ?_); refine yam ?hg (N := 2) ?hd (cs := #[.int .i64 a0_0, .int .i64 a0_1, .slice A0_2 l0_2.length c0_2]) (t := 25) ?hr ?_; (case hd => rfl); (case hg => rfl); (case hr => first | (go_simp; done) | (go_simp; rfl)); intro b1 hg w76 hbox hb; have n0_ := yaa (yaj (by repeat (first | (with_reducible first | exact HB.out | apply yad | apply yab | apply yae) | exact HB.out)) hb); have n1_ := yaa (hbox); have n2_ := yaa ((by rw [hg]; exact (yah (by repeat (first | (with_reducible first | exact HB.out | apply yad | apply yab | apply yae) | exact HB.out))) : w.heap.size ≤ b1)); have n3_ := yaa ((by rw [hg]; exact (yah (by repeat (first | (with_reducible first | exact HB.out | apply yad | apply yab | apply yae) | exact HB.out))) : w.heap.size ≤ b1)); clear HB; have HB := n0_; have a9 := n1_; have c4 := n2_; have c5 := n3_; clear n0_ n1_ n2_ n3_; clear hb hbox hg) | ((with_reducible refine gate_dst (N := 3) rfl ?_); refine yam ?hg (N := 3) ?hd (cs := #[.int .i64 a1_0, .int .i64 a1_1, .int .i64 a1_2, .int .i64 a1_3, .int .i64 a1_4]) (t := 27) ?hr ?_; (case hd => rfl); (case hg => rfl); (case hr => first | (go_simp; done) | (go_simp; rfl)); intro b0 hg w77 hbox hb; have n0_ := yaa (yai (g := b1) (o := .cells #[.int .i64 a0_0, .int .i64 a0_1, .slice A0_2 l0_2.length c0_2] 25 (0, 0)) (upB a9.out) hb); have n1_ := yaa (yaj (by repeat (first | (with_reducible first | exact HB.out | apply yad | apply yab | apply yae | refine yag ?_ (Aside0.out ‹_›)) | exact HB.out)) hb); have n2_ := yaa (hbox); have n3_ := yaa ((by rw [hg]; exact (yah (by repeat (first | (with_reducible first | exact HB.out | apply yad | apply yab | apply yae | refine yag ?_ (Aside0.out ‹_›)) | exact HB.out))) : w.heap.size ≤ b0)); have n4_ := yaa ((by rw [hg]; exact (yah (by repeat (first | (with_reducible first | exact HB.out | apply yad | apply yab | apply yae | refine yag ?_ (Aside0.out ‹_›)) | exact HB.out))) : w.heap.size ≤ b0)); have n5_ := yaa ((by rw [hg]; exact Nat.ne_of_lt (yan (g := b1) (o := .cells #[.int .i64 a0_0, .int .i64 a0_1, .slice A0_2 l0_2.length c0_2] 25 (0, 0)) (upB a9.out)) : b1 ≠ b0)); have n6_ := yaa ((by rw [hg]; exact Nat.ne_of_gt (yan (g := b1) (o := .cells #[.int .i64 a0_0, .int .i64 a0_1, .slice A0_2 l0_2.length c0_2] 25 (0, 0)) (upB a9.out)) : b0 ≠ b1)); clear a9; clear HB; have a9 := n0_; have HB := n1_; have a8 := n2_; have c6 := n3_; have c7 := n4_; have b6 := n5_; have b7 := n6_; clear n0_ n1_ n2_ n3_ n4_ n5_ n6_; clear hb hbox hg) | ((with_reducible refine gate_dst (N := 4) rfl ?_); refine yam ?hg (N := 4) ?hd (cs := #[.int .i64 0, .int .i64 0, .slice none 0 0]) (t := 25) ?hr ?_; (case hd => rfl); (case hg => rfl); (case hr => first | (go_simp; done) | (go_simp; rfl)); intro b2 hg w78 hbox hb; have n0_ := yaa (yai (g := b1) (o := .cells #[.int .i64 a0_0, .int .i64 a0_1, .slice A0_2 l0_2.length c0_2] 25 (0, 0)) (upB a9.out) hb); have n1_ := yaa (yai (g := b0) (o := .cells #[.int .i64 a1_0, .int .i64 a1_1, .int .i64 a1_2, .int .i64 a1_3, .int .i64 a1_4] 27 (0, 0)) (upB a8.out) hb); have n2_ := yaa (yaj (by repeat (first | (with_reducible first | exact HB.out | apply yad | apply yab | apply yae | refine yag ?_ (Aside0.out ‹_›)) | exact HB.out)) hb); have n3_ := yaa (hbox); have n4_ := yaa ((by rw [hg]; exact (yah (by repeat (first | (with_reducible first | exact HB.out | apply yad | apply yab | apply yae | refine yag ?_ (Aside0.out ‹_›)) | exact HB.out))) : w.heap.size ≤ b2)); have n5_ := yaa ((by rw [hg]; exact (yah (by repeat (first | (with_reducible first | exact HB.out | apply yad | apply yab | apply yae | refine yag ?_ (Aside0.out ‹_›)) | exact HB.out))) : w.heap.size ≤ b2)); have n6_ := yaa ((by rw [hg]; exact Nat.ne_of_lt (yan (g := b1) (o := .cells #[.int .i64 a0_0, .int .i64 a0_1, .slice A0_2 l0_2.length c0_2] 25 (0, 0)) (upB a9.out)) : b1 ≠ b2)); have n7_ := yaa ((by rw [hg]; exact Nat.ne_of_gt (yan (g := b1) (o := .cells #[.int .i64 a0_0, .int .i64 a0_1, .slice A0_2 l0_2.length c0_2] 25 (0, 0)) (upB a9.out)) : b2 ≠ b1)); have n8_ := yaa ((by rw [hg]; exact Nat.ne_of_lt (yan (g := b0) (o := .cells #[.int .i64 a1_0, .int .i64 a1_1, .int .i64 a1_2, .int .i64 a1_3, .int .i64 a1_4] 27 (0, 0)) (upB a8.out)) : b0 ≠ b2)); have n9_ := yaa ((by rw [hg]; exact Nat.ne_of_gt (yan (g := b0) (o := .cells #[.int .i64 a1_0, .int .i64 a1_1, .int .i64 a1_2, .int .i64 a1_3, .int .i64 a1_4] 27 (0, 0)) (upB a8.out)) : b2 ≠ b0)); clear a9; clear a8; clear HB; have a9 := n0_; have a8 := n1_; have HB := n2_; have b3 := n3_; have d0 := n4_; have d1 := n5_; have b8 := n6_; have b9 := n7_; have b4 := n8_; have b5 := n9_; clear n0_ n1_ n2_ n3_ n4_ n5_ n6_ n7_ n8_ n9_; clear hb hbox hg; have H7 := b7.out; have H8 := b6.out; have H9 := b4.out; have I0 := b5.out; have x7 : w78.cell? ⟨b0, 0, none⟩ = some (.int .i64 a1_0) := (yaf a8.out 0).trans rfl; have x8 : w78.cell? ⟨b0, 1, none⟩ = some (.int .i64 a1_1) := (yaf a8.out 1).trans rfl; have x9 : w78.cell? ⟨b0, 2, none⟩ = some (.int .i64 a1_2) := (yaf a8.out 2).trans rfl; have y9 : w78.cell? ⟨b0, 3, none⟩ = some (.int .i64 a1_3) := (yaf a8.out 3).trans rfl; have z0 : w78.cell? ⟨b0, 4, none⟩ = some (.int .i64 a1_4) := (yaf a8.out 4).trans rfl; have z1 := yac a8.out 0; have z2 := yac a8.out 1; have z3 := yac a8.out 2; have z4 := yac a8.out 3; have z5 := yac a8.out 4; have I1 := b8.out; have I2 := b9.out; have z6 : w78.cell? ⟨b1, 0, none⟩ = some (.int .i64 a0_0) := (yaf a9.out 0).trans rfl; have z7 : w78.cell? ⟨b1, 1, none⟩ = some (.int .i64 a0_1) := (yaf a9.out 1).trans rfl; have z8 : w78.cell? ⟨b1, 2, none⟩ = some (.slice A0_2 l0_2.length c0_2) := (yaf a9.out 2).trans rfl; have z9 := yac a9.out 0; have A0 := yac a9.out 1; have A1 := yac a9.out 2) | ((with_reducible refine gate_callee (f := 77) rfl ?_); refine goesL_ (some 48) rfl rfl Try.func77 (by kernel_rfl) rfl #[.agg #[.int .i64 a0_0, .int .i64 a0_1, .slice A0_2 l0_2.length c0_2], .agg #[.int .i64 a1_0, .int .i64 a1_1, .int .i64 a1_2, .int .i64 a1_3, .int .i64 a1_4]] rfl (by (try simp only [List.map_toArray, List.map_cons, List.map_nil]); first | done | rfl | (simp only [List.length_drop, List.length_take]; rfl)) ?_; (with_reducible refine (spec_l6Size.calls k a0_0 a0_1 _ _ l0_2 a1_0 a1_1 a1_2 a1_3 a1_4 d7 e9 j8 _ ?side1 ?side2 A75.out).mono ?_); (case side1 => repeat (first | exact (Kd.C_below HR0_2.out HB.out) | (with_reducible refine Kd.C_alloc ?_ _) | (with_reducible refine Kd.C_drewN ?_ _) | (with_reducible refine Kd.C_drew ?_))); (case side2 => exact HC0_2.out); rintro e w84 ⟨J7, rfl, ho0, hb⟩; refine ⟨_, rfl, ?_⟩; have n0_ := yaa (Kd.R_lower ho0 (yah (by repeat (first | (with_reducible first | exact HB.out | apply yad | apply yab | apply yae | refine yag ?_ (Aside0.out ‹_›)) | exact HB.out)))); have n1_ := yaa (yai (g := b1) (o := .cells #[.int .i64 a0_0, .int .i64 a0_1, .slice A0_2 l0_2.length c0_2] 25 (0, 0)) (upB a9.out) hb); have n2_ := yaa (yai (g := b0) (o := .cells #[.int .i64 a1_0, .int .i64 a1_1, .int .i64 a1_2, .int .i64 a1_3, .int .i64 a1_4] 27 (0, 0)) (upB a8.out) hb); have n3_ := yaa (yai (g := b2) (o := .cells #[.int .i64 0, .int .i64 0, .slice none 0 0] 25 (0, 0)) (upB b3.out) hb); have n4_ := yaa (yaj (by repeat (first | (with_reducible first | exact HB.out | apply yad | apply yab | apply yae | refine yag ?_ (Aside0.out ‹_›)) | exact HB.out)) hb); clear a9; clear a8; clear b3; clear HB; have k4 := n0_; have a9 := n1_; have a8 := n2_; have b3 := n3_; have HB := n4_; clear n0_ n1_ n2_ n3_ n4_; (try clear hb); (try clear hb2); (try clear hk); (try clear hi); (try clear ho0); have A2 : w84.cell? ⟨b2, 0, none⟩ = some (.int .i64 0) := (yaf b3.out 0).trans rfl; have A3 : w84.cell? ⟨b2, 1, none⟩ = some (.int .i64 0) := (yaf b3.out 1).trans rfl; have A4 : w84.cell? ⟨b2, 2, none⟩ = some (.slice none 0 0) := (yaf b3.out 2).trans rfl; have A5 := yac b3.out 0; have A6 := yac b3.out 1; have A7 := yac b3.out 2; obtain ⟨m9, n0, D4⟩ := Kd.R_slice k4.out; subst D4))
      refine bodyPost_ret (results_ct rfl _ _ b2 25 #[.int .i64 d7, .int .i64 e9, .slice m9 j8.length n0] (0, 0) _ rfl (by (with_reducible repeat (first | refine yak ?_ _ | refine yao ?_ | refine yal ?_ _)); refine blk_put (cs := #[.int .i64 d7, .int .i64 e9, .slice none 0 0]) ?_ 2 _ rfl; (with_reducible repeat (first | refine yak ?_ _ | refine yao ?_ | refine yal ?_ _)); refine blk_put (cs := #[.int .i64 d7, .int .i64 0, .slice none 0 0]) ?_ 1 _ rfl; (with_reducible repeat (first | refine yak ?_ _ | refine yao ?_ | refine yal ?_ _)); refine blk_put (cs := #[.int .i64 0, .int .i64 0, .slice none 0 0]) ?_ 0 _ rfl; exact upB b3.out) Try.underlying25 rfl (by kernel_rfl)) rfl ?_
      exact ⟨_, by first | rfl | (simp [errW_none, errW_some] <;> rfl) | (simp [*, errW_none, errW_some] <;> rfl), by (with_reducible repeat (first | apply Kd.R_alloc | apply Kd.R_drewN | apply Kd.R_drew)); exact Kd.R_mono (Kd.R_far (p := ⟨b2, 2, none⟩) (Kd.R_far (p := ⟨b2, 1, none⟩) (Kd.R_far (p := ⟨b2, 0, none⟩) (Kd.R_types k4.out b3.out (by decide)) (fun _ hk => hk.2) (.int .i64 d7)) (fun _ hk => hk.2) (.int .i64 e9)) (fun _ hk => hk.2) (.slice m9 j8.length n0)) (fun _ hk => trivial), by repeat (first | (with_reducible first | exact HB.out | apply yad | apply yab | apply yae | refine yag ?_ (Aside0.out ‹_›)) | exact HB.out)⟩
     ·
      rw [if_neg c74] at H
      have m6 : (a1_0 == 7) = false := beq_eq_false_iff_ne.mpr c74
      have m7 : (a1_0 != 7) = true := bne_iff_ne.mpr c74
      replace H := Option.bind_eq_some_iff.mp H
      obtain ⟨⟨d8, f0, j9⟩, n1, H⟩ := H
      replace H : (some (d8, f0, j9, true)) = some (r1, r2, r3, r4) := H
      have A87 := yaa n1
      clear n1
      simp only [Option.some.injEq, Prod.mk.injEq] at H
      obtain ⟨rfl, rfl, rfl, rfl⟩ := H
      go_enter Try.func39, Try.ntmps39
      go_wp2_with (first | ((with_reducible refine gate_dst (N := 2) rfl ?_); refine yam ?hg (N := 2) ?hd (cs := #[.int .i64 a0_0, .int .i64 a0_1, .slice A0_2 l0_2.length c0_2]) (t := 25) ?hr ?_; (case hd => rfl); (case hg => rfl); (case hr => first | (go_simp; done) | (go_simp; rfl)); intro b1 hg w88 hbox hb; have n0_ := yaa (yaj (by repeat (first | (with_reducible first | exact HB.out | apply yad | apply yab | apply yae) | exact HB.out)) hb); have n1_ := yaa (hbox); have n2_ := yaa ((by rw [hg]; exact (yah (by repeat (first | (with_reducible first | exact HB.out | apply yad | apply yab | apply yae) | exact HB.out))) : w.heap.size ≤ b1)); have n3_ := yaa ((by rw [hg]; exact (yah (by repeat (first | (with_reducible first | exact HB.out | apply yad | apply yab | apply yae) | exact HB.out))) : w.heap.size ≤ b1)); clear HB; have HB := n0_; have a9 := n1_; have c4 := n2_; have c5 := n3_; clear n0_ n1_ n2_ n3_; clear hb hbox hg) | ((with_reducible refine gate_dst (N := 3) rfl ?_); refine yam ?hg (N := 3) ?hd (cs := #[.int .i64 a1_0, .int .i64 a1_1, .int .i64 a1_2, .int .i64 a1_3, .int .i64 a1_4]) (t := 27) ?hr ?_; (case hd => rfl); (case hg => rfl); (case hr => first | (go_simp; done) | (go_simp; rfl)); intro b0 hg w89 hbox hb; have n0_ := yaa (yai (g := b1) (o := .cells #[.int .i64 a0_0, .int .i64 a0_1, .slice A0_2 l0_2.length c0_2] 25 (0, 0)) (upB a9.out) hb); have n1_ := yaa (yaj (by repeat (first | (with_reducible first | exact HB.out | apply yad | apply yab | apply yae | refine yag ?_ (Aside0.out ‹_›)) | exact HB.out)) hb); have n2_ := yaa (hbox); have n3_ := yaa ((by rw [hg]; exact (yah (by repeat (first | (with_reducible first | exact HB.out | apply yad | apply yab | apply yae | refine yag ?_ (Aside0.out ‹_›)) | exact HB.out))) : w.heap.size ≤ b0)); have n4_ := yaa ((by rw [hg]; exact (yah (by repeat (first | (with_reducible first | exact HB.out | apply yad | apply yab | apply yae | refine yag ?_ (Aside0.out ‹_›)) | exact HB.out))) : w.heap.size ≤ b0)); have n5_ := yaa ((by rw [hg]; exact Nat.ne_of_lt (yan (g := b1) (o := .cells #[.int .i64 a0_0, .int .i64 a0_1, .slice A0_2 l0_2.length c0_2] 25 (0, 0)) (upB a9.out)) : b1 ≠ b0)); have n6_ := yaa ((by rw [hg]; exact Nat.ne_of_gt (yan (g := b1) (o := .cells #[.int .i64 a0_0, .int .i64 a0_1, .slice A0_2 l0_2.length c0_2] 25 (0, 0)) (upB a9.out)) : b0 ≠ b1)); clear a9; clear HB; have a9 := n0_; have HB := n1_; have a8 := n2_; have c6 := n3_; have c7 := n4_; have b6 := n5_; have b7 := n6_; clear n0_ n1_ n2_ n3_ n4_ n5_ n6_; clear hb hbox hg) | ((with_reducible refine gate_dst (N := 4) rfl ?_); refine yam ?hg (N := 4) ?hd (cs := #[.int .i64 0, .int .i64 0, .slice none 0 0]) (t := 25) ?hr ?_; (case hd => rfl); (case hg => rfl); (case hr => first | (go_simp; done) | (go_simp; rfl)); intro b2 hg w90 hbox hb; have n0_ := yaa (yai (g := b1) (o := .cells #[.int .i64 a0_0, .int .i64 a0_1, .slice A0_2 l0_2.length c0_2] 25 (0, 0)) (upB a9.out) hb); have n1_ := yaa (yai (g := b0) (o := .cells #[.int .i64 a1_0, .int .i64 a1_1, .int .i64 a1_2, .int .i64 a1_3, .int .i64 a1_4] 27 (0, 0)) (upB a8.out) hb); have n2_ := yaa (yaj (by repeat (first | (with_reducible first | exact HB.out | apply yad | apply yab | apply yae | refine yag ?_ (Aside0.out ‹_›)) | exact HB.out)) hb); have n3_ := yaa (hbox); have n4_ := yaa ((by rw [hg]; exact (yah (by repeat (first | (with_reducible first | exact HB.out | apply yad | apply yab | apply yae | refine yag ?_ (Aside0.out ‹_›)) | exact HB.out))) : w.heap.size ≤ b2)); have n5_ := yaa ((by rw [hg]; exact (yah (by repeat (first | (with_reducible first | exact HB.out | apply yad | apply yab | apply yae | refine yag ?_ (Aside0.out ‹_›)) | exact HB.out))) : w.heap.size ≤ b2)); have n6_ := yaa ((by rw [hg]; exact Nat.ne_of_lt (yan (g := b1) (o := .cells #[.int .i64 a0_0, .int .i64 a0_1, .slice A0_2 l0_2.length c0_2] 25 (0, 0)) (upB a9.out)) : b1 ≠ b2)); have n7_ := yaa ((by rw [hg]; exact Nat.ne_of_gt (yan (g := b1) (o := .cells #[.int .i64 a0_0, .int .i64 a0_1, .slice A0_2 l0_2.length c0_2] 25 (0, 0)) (upB a9.out)) : b2 ≠ b1)); have n8_ := yaa ((by rw [hg]; exact Nat.ne_of_lt (yan (g := b0) (o := .cells #[.int .i64 a1_0, .int .i64 a1_1, .int .i64 a1_2, .int .i64 a1_3, .int .i64 a1_4] 27 (0, 0)) (upB a8.out)) : b0 ≠ b2)); have n9_ := yaa ((by rw [hg]; exact Nat.ne_of_gt (yan (g := b0) (o := .cells #[.int .i64 a1_0, .int .i64 a1_1, .int .i64 a1_2, .int .i64 a1_3, .int .i64 a1_4] 27 (0, 0)) (upB a8.out)) : b2 ≠ b0)); clear a9; clear a8; clear HB; have a9 := n0_; have a8 := n1_; have HB := n2_; have b3 := n3_; have d0 := n4_; have d1 := n5_; have b8 := n6_; have b9 := n7_; have b4 := n8_; have b5 := n9_; clear n0_ n1_ n2_ n3_ n4_ n5_ n6_ n7_ n8_ n9_; clear hb hbox hg; have I3 := b7.out; have I4 := b6.out; have I5 := b4.out; have I6 := b5.out; have A8 : w90.cell? ⟨b0, 0, none⟩ = some (.int .i64 a1_0) := (yaf a8.out 0).trans rfl; have A9 : w90.cell? ⟨b0, 1, none⟩ = some (.int .i64 a1_1) := (yaf a8.out 1).trans rfl; have B0 : w90.cell? ⟨b0, 2, none⟩ = some (.int .i64 a1_2) := (yaf a8.out 2).trans rfl; have B1 : w90.cell? ⟨b0, 3, none⟩ = some (.int .i64 a1_3) := (yaf a8.out 3).trans rfl; have B2 : w90.cell? ⟨b0, 4, none⟩ = some (.int .i64 a1_4) := (yaf a8.out 4).trans rfl; have B3 := yac a8.out 0; have B4 := yac a8.out 1; have B5 := yac a8.out 2; have B6 := yac a8.out 3; have B7 := yac a8.out 4; have I7 := b8.out; have I8 := b9.out; have B8 : w90.cell? ⟨b1, 0, none⟩ = some (.int .i64 a0_0) := (yaf a9.out 0).trans rfl; have B9 : w90.cell? ⟨b1, 1, none⟩ = some (.int .i64 a0_1) := (yaf a9.out 1).trans rfl; have C0 : w90.cell? ⟨b1, 2, none⟩ = some (.slice A0_2 l0_2.length c0_2) := (yaf a9.out 2).trans rfl; have C1 := yac a9.out 0; have C2 := yac a9.out 1; have C3 := yac a9.out 2) | ((with_reducible refine gate_callee (f := 78) rfl ?_); refine goesL_ (some 51) rfl rfl Try.func78 (by kernel_rfl) rfl #[.agg #[.int .i64 a0_0, .int .i64 a0_1, .slice A0_2 l0_2.length c0_2], .agg #[.int .i64 a1_0, .int .i64 a1_1, .int .i64 a1_2, .int .i64 a1_3, .int .i64 a1_4]] rfl (by (try simp only [List.map_toArray, List.map_cons, List.map_nil]); first | done | rfl | (simp only [List.length_drop, List.length_take]; rfl)) ?_; (with_reducible refine (spec_l6Each.calls k a0_0 a0_1 _ _ l0_2 a1_0 a1_1 a1_2 a1_3 a1_4 d8 f0 j9 _ ?side1 ?side2 A87.out).mono ?_); (case side1 => repeat (first | exact (Kd.C_below HR0_2.out HB.out) | (with_reducible refine Kd.C_alloc ?_ _) | (with_reducible refine Kd.C_drewN ?_ _) | (with_reducible refine Kd.C_drew ?_))); (case side2 => exact HC0_2.out); rintro e w96 ⟨J8, rfl, ho0, hb⟩; refine ⟨_, rfl, ?_⟩; have n0_ := yaa (Kd.R_lower ho0 (yah (by repeat (first | (with_reducible first | exact HB.out | apply yad | apply yab | apply yae | refine yag ?_ (Aside0.out ‹_›)) | exact HB.out)))); have n1_ := yaa (yai (g := b1) (o := .cells #[.int .i64 a0_0, .int .i64 a0_1, .slice A0_2 l0_2.length c0_2] 25 (0, 0)) (upB a9.out) hb); have n2_ := yaa (yai (g := b0) (o := .cells #[.int .i64 a1_0, .int .i64 a1_1, .int .i64 a1_2, .int .i64 a1_3, .int .i64 a1_4] 27 (0, 0)) (upB a8.out) hb); have n3_ := yaa (yai (g := b2) (o := .cells #[.int .i64 0, .int .i64 0, .slice none 0 0] 25 (0, 0)) (upB b3.out) hb); have n4_ := yaa (yaj (by repeat (first | (with_reducible first | exact HB.out | apply yad | apply yab | apply yae | refine yag ?_ (Aside0.out ‹_›)) | exact HB.out)) hb); clear a9; clear a8; clear b3; clear HB; have k5 := n0_; have a9 := n1_; have a8 := n2_; have b3 := n3_; have HB := n4_; clear n0_ n1_ n2_ n3_ n4_; (try clear hb); (try clear hb2); (try clear hk); (try clear hi); (try clear ho0); have C4 : w96.cell? ⟨b2, 0, none⟩ = some (.int .i64 0) := (yaf b3.out 0).trans rfl; have C5 : w96.cell? ⟨b2, 1, none⟩ = some (.int .i64 0) := (yaf b3.out 1).trans rfl; have C6 : w96.cell? ⟨b2, 2, none⟩ = some (.slice none 0 0) := (yaf b3.out 2).trans rfl; have C7 := yac b3.out 0; have C8 := yac b3.out 1; have C9 := yac b3.out 2; obtain ⟨n2, n3, D5⟩ := Kd.R_slice k5.out; subst D5))
      refine bodyPost_ret (results_ct rfl _ _ b2 25 #[.int .i64 d8, .int .i64 f0, .slice n2 j9.length n3] (0, 0) _ rfl (by (with_reducible repeat (first | refine yak ?_ _ | refine yao ?_ | refine yal ?_ _)); refine blk_put (cs := #[.int .i64 d8, .int .i64 f0, .slice none 0 0]) ?_ 2 _ rfl; (with_reducible repeat (first | refine yak ?_ _ | refine yao ?_ | refine yal ?_ _)); refine blk_put (cs := #[.int .i64 d8, .int .i64 0, .slice none 0 0]) ?_ 1 _ rfl; (with_reducible repeat (first | refine yak ?_ _ | refine yao ?_ | refine yal ?_ _)); refine blk_put (cs := #[.int .i64 0, .int .i64 0, .slice none 0 0]) ?_ 0 _ rfl; exact upB b3.out) Try.underlying25 rfl (by kernel_rfl)) rfl ?_
      exact ⟨_, by first | rfl | (simp [errW_none, errW_some] <;> rfl) | (simp [*, errW_none, errW_some] <;> rfl), by (with_reducible repeat (first | apply Kd.R_alloc | apply Kd.R_drewN | apply Kd.R_drew)); exact Kd.R_mono (Kd.R_far (p := ⟨b2, 2, none⟩) (Kd.R_far (p := ⟨b2, 1, none⟩) (Kd.R_far (p := ⟨b2, 0, none⟩) (Kd.R_types k5.out b3.out (by decide)) (fun _ hk => hk.2) (.int .i64 d8)) (fun _ hk => hk.2) (.int .i64 f0)) (fun _ hk => hk.2) (.slice n2 j9.length n3)) (fun _ hk => trivial), by repeat (first | (with_reducible first | exact HB.out | apply yad | apply yab | apply yae | refine yag ?_ (Aside0.out ‹_›)) | exact HB.out)⟩

end Go.Proofs.Ytoifpgkfpdeglaa.X

namespace Go.Proofs.Ytoifpgkfpdeglaa.X
open Go.RowKit Go.Proofs.YtoifpgkfpdeglaaW.PrintWords Go.Proofs.YtoifpgkfpdeglaaW.PrintLast Go.Proofs.YtoifpgkfpdeglaaW.PrintMore
attribute [local go_sem] max2_int min2_int max_two min_two max_three min_three max_four min_four
set_option linter.unusedVariables false
set_option linter.unusedSimpArgs false

open Go.Proofs.YtoifpgkfpdeglaaW.PrintWords.Aside0 renaming mk → yaa
open Go.Proofs.YtoifpgkfpdeglaaW.PrintWords renaming pw_below_drewN → yab, below_alloc → yac, below_drew1 → yad, blk_frozen → yae, blk_cell → yaf, below_set → yag, blk_below → yah, below_size → yai, below_step → yaj

/-! ### spec_OpDo: function 12 -/
def spec_OpDo.f (k : Nat) (a0_0 : Int) (a0_1 : Int) (l0_2 : List (S36)) (a1_0 : Int) (a1_1 : Int) (a1_2 : Int) (a1_3 : Int) (a1_4 : Int) : Option (Int × Int × (List (S36)) × Bool) := (spec_RasOk.f k a0_0 a0_1 l0_2).bind fun t104 => (if t104 = true then ((spec_OpOk.f a1_0 a1_1 a1_2 a1_3 a1_4).bind fun t105 => (if t105 = true then ((spec_l6Do.f k a0_0 a0_1 l0_2 a1_0 a1_1 a1_2 a1_3 a1_4).bind fun bt106 => (some (bt106.1, bt106.2.1, bt106.2.2.1, bt106.2.2.2))) else (some (0, 0, ([] : List (S36)), false)))) else (some (0, 0, ([] : List (S36)), false)))
set_option maxHeartbeats 8000000 in
set_option maxRecDepth 100000 in
theorem spec_OpDo.calls (k : Nat) (a0_0 : Int) (a0_1 : Int) (A0_2 : Option Addr) (c0_2 : Nat) (l0_2 : List (S36)) (a1_0 : Int) (a1_1 : Int) (a1_2 : Int) (a1_3 : Int) (a1_4 : Int) (r1 : Int) (r2 : Int) (r3 : List (S36)) (r4 : Bool) (w : World) (hr0_2 : Kd.C k36 w A0_2 l0_2.length l0_2) (hc0_2 : l0_2.length ≤ c0_2) (h : spec_OpDo.f k a0_0 a0_1 l0_2 a1_0 a1_1 a1_2 a1_3 a1_4 = some (r1, r2, r3, r4)) :
  Calls Try.prog 12 #[.agg #[.int .i64 a0_0, .int .i64 a0_1, .slice A0_2 l0_2.length c0_2], .agg #[.int .i64 a1_0, .int .i64 a1_1, .int .i64 a1_2, .int .i64 a1_3, .int .i64 a1_4]] w fun e w' => ∃ v2_ : Value, e = .returned (.tuple #[.agg #[.int .i64 r1, .int .i64 r2, v2_], .bool r4]) ∧ Kd.R k36 36 w' w.heap.size (fun _ => True) v2_ r3 ∧ Below w.heap.size w w' := by
 have hu25 := Try.underlying25
 have hu27 := Try.underlying27
 have HR0_2 := yaa hr0_2
 have HC0_2 := yaa hc0_2
 clear hr0_2 hc0_2
 have HB := yaa (Below.refl w.heap.size w)
 have H : ((spec_RasOk.f k a0_0 a0_1 l0_2).bind fun c5 => (if c5 = true then ((spec_OpOk.f a1_0 a1_1 a1_2 a1_3 a1_4).bind fun c1 => (if c1 = true then ((spec_l6Do.f k a0_0 a0_1 l0_2 a1_0 a1_1 a1_2 a1_3 a1_4).bind fun b4 => (some (b4.1, b4.2.1, b4.2.2.1, b4.2.2.2))) else (some (0, 0, ([] : List (S36)), false)))) else (some (0, 0, ([] : List (S36)), false)))) = some (r1, r2, r3, r4) := h
 clear h
 replace H := Option.bind_eq_some_iff.mp H
 obtain ⟨c5, A30, H⟩ := H
 replace H : (if c5 = true then ((spec_OpOk.f a1_0 a1_1 a1_2 a1_3 a1_4).bind fun c1 => (if c1 = true then ((spec_l6Do.f k a0_0 a0_1 l0_2 a1_0 a1_1 a1_2 a1_3 a1_4).bind fun b4 => (some (b4.1, b4.2.1, b4.2.2.1, b4.2.2.2))) else (some (0, 0, ([] : List (S36)), false)))) else (some (0, 0, ([] : List (S36)), false))) = some (r1, r2, r3, r4) := H
 have A3 := yaa A30
 clear A30
 by_cases c4 : c5 = true
 ·
  subst c4
  have H1 : ((spec_OpOk.f a1_0 a1_1 a1_2 a1_3 a1_4).bind fun c1 => (if c1 = true then ((spec_l6Do.f k a0_0 a0_1 l0_2 a1_0 a1_1 a1_2 a1_3 a1_4).bind fun b4 => (some (b4.1, b4.2.1, b4.2.2.1, b4.2.2.2))) else (some (0, 0, ([] : List (S36)), false)))) = some (r1, r2, r3, r4) := by rw [if_pos rfl] at H; exact H
  clear H
  have H := H1
  clear H1
  replace H := Option.bind_eq_some_iff.mp H
  obtain ⟨c1, A50, H⟩ := H
  replace H : (if c1 = true then ((spec_l6Do.f k a0_0 a0_1 l0_2 a1_0 a1_1 a1_2 a1_3 a1_4).bind fun b4 => (some (b4.1, b4.2.1, b4.2.2.1, b4.2.2.2))) else (some (0, 0, ([] : List (S36)), false))) = some (r1, r2, r3, r4) := H
  have A5 := yaa A50
  clear A50
  by_cases c6 : c1 = true
  ·
   subst c6
   have H1 : ((spec_l6Do.f k a0_0 a0_1 l0_2 a1_0 a1_1 a1_2 a1_3 a1_4).bind fun b4 => (some (b4.1, b4.2.1, b4.2.2.1, b4.2.2.2))) = some (r1, r2, r3, r4) := by rw [if_pos rfl] at H; exact H
   clear H
   have H := H1
   clear H1
   replace H := Option.bind_eq_some_iff.mp H
   obtain ⟨⟨c2, c3, c7, d5⟩, A70, H⟩ := H
   replace H : (some (c2, c3, c7, d5)) = some (r1, r2, r3, r4) := H
   have A7 := yaa A70
   clear A70
   simp only [Option.some.injEq, Prod.mk.injEq] at H
   obtain ⟨rfl, rfl, rfl, rfl⟩ := H
   go_enter Try.func12, Try.ntmps12
   go_wp2_with (first | ((with_reducible refine gate_dst (N := 2) rfl ?_); refine box_event ?hg (N := 2) ?hd (cs := #[.int .i64 a0_0, .int .i64 a0_1, .slice A0_2 l0_2.length c0_2]) (t := 25) ?hr ?_; (case hd => rfl); (case hg => rfl); (case hr => first | (go_simp; done) | (go_simp; rfl)); intro b0 hg w8 hbox hb; have n0_ := yaa (yaj (by repeat (first | (with_reducible first | exact HB.out | apply yac | apply yab | apply yad) | exact HB.out)) hb); have n1_ := yaa (hbox); have n2_ := yaa ((by rw [hg]; exact (yai (by repeat (first | (with_reducible first | exact HB.out | apply yac | apply yab | apply yad) | exact HB.out))) : w.heap.size ≤ b0)); have n3_ := yaa ((by rw [hg]; exact (yai (by repeat (first | (with_reducible first | exact HB.out | apply yac | apply yab | apply yad) | exact HB.out))) : w.heap.size ≤ b0)); clear HB; have HB := n0_; have a8 := n1_; have c8 := n2_; have c9 := n3_; clear n0_ n1_ n2_ n3_; clear hb hbox hg) | ((with_reducible refine gate_dst (N := 3) rfl ?_); refine box_event ?hg (N := 3) ?hd (cs := #[.int .i64 a1_0, .int .i64 a1_1, .int .i64 a1_2, .int .i64 a1_3, .int .i64 a1_4]) (t := 27) ?hr ?_; (case hd => rfl); (case hg => rfl); (case hr => first | (go_simp; done) | (go_simp; rfl)); intro b1 hg w9 hbox hb; have n0_ := yaa (yah (g := b0) (o := .cells #[.int .i64 a0_0, .int .i64 a0_1, .slice A0_2 l0_2.length c0_2] 25 (0, 0)) (upB a8.out) hb); have n1_ := yaa (yaj (by repeat (first | (with_reducible first | exact HB.out | apply yac | apply yab | apply yad | refine yag ?_ (Aside0.out ‹_›)) | exact HB.out)) hb); have n2_ := yaa (hbox); have n3_ := yaa ((by rw [hg]; exact (yai (by repeat (first | (with_reducible first | exact HB.out | apply yac | apply yab | apply yad | refine yag ?_ (Aside0.out ‹_›)) | exact HB.out))) : w.heap.size ≤ b1)); have n4_ := yaa ((by rw [hg]; exact (yai (by repeat (first | (with_reducible first | exact HB.out | apply yac | apply yab | apply yad | refine yag ?_ (Aside0.out ‹_›)) | exact HB.out))) : w.heap.size ≤ b1)); have n5_ := yaa ((by rw [hg]; exact Nat.ne_of_lt (blk_lt (g := b0) (o := .cells #[.int .i64 a0_0, .int .i64 a0_1, .slice A0_2 l0_2.length c0_2] 25 (0, 0)) (upB a8.out)) : b0 ≠ b1)); have n6_ := yaa ((by rw [hg]; exact Nat.ne_of_gt (blk_lt (g := b0) (o := .cells #[.int .i64 a0_0, .int .i64 a0_1, .slice A0_2 l0_2.length c0_2] 25 (0, 0)) (upB a8.out)) : b1 ≠ b0)); clear a8; clear HB; have a8 := n0_; have HB := n1_; have a9 := n2_; have d0 := n3_; have d1 := n4_; have b5 := n5_; have b6 := n6_; clear n0_ n1_ n2_ n3_ n4_ n5_ n6_; clear hb hbox hg) | ((with_reducible refine gate_dst (N := 4) rfl ?_); refine box_event ?hg (N := 4) ?hd (cs := #[.int .i64 0, .int .i64 0, .slice none 0 0]) (t := 25) ?hr ?_; (case hd => rfl); (case hg => rfl); (case hr => first | (go_simp; done) | (go_simp; rfl)); intro b3 hg w10 hbox hb; have n0_ := yaa (yah (g := b0) (o := .cells #[.int .i64 a0_0, .int .i64 a0_1, .slice A0_2 l0_2.length c0_2] 25 (0, 0)) (upB a8.out) hb); have n1_ := yaa (yah (g := b1) (o := .cells #[.int .i64 a1_0, .int .i64 a1_1, .int .i64 a1_2, .int .i64 a1_3, .int .i64 a1_4] 27 (0, 0)) (upB a9.out) hb); have n2_ := yaa (yaj (by repeat (first | (with_reducible first | exact HB.out | apply yac | apply yab | apply yad | refine yag ?_ (Aside0.out ‹_›)) | exact HB.out)) hb); have n3_ := yaa (hbox); have n4_ := yaa ((by rw [hg]; exact (yai (by repeat (first | (with_reducible first | exact HB.out | apply yac | apply yab | apply yad | refine yag ?_ (Aside0.out ‹_›)) | exact HB.out))) : w.heap.size ≤ b3)); have n5_ := yaa ((by rw [hg]; exact (yai (by repeat (first | (with_reducible first | exact HB.out | apply yac | apply yab | apply yad | refine yag ?_ (Aside0.out ‹_›)) | exact HB.out))) : w.heap.size ≤ b3)); have n6_ := yaa ((by rw [hg]; exact Nat.ne_of_lt (blk_lt (g := b0) (o := .cells #[.int .i64 a0_0, .int .i64 a0_1, .slice A0_2 l0_2.length c0_2] 25 (0, 0)) (upB a8.out)) : b0 ≠ b3)); have n7_ := yaa ((by rw [hg]; exact Nat.ne_of_gt (blk_lt (g := b0) (o := .cells #[.int .i64 a0_0, .int .i64 a0_1, .slice A0_2 l0_2.length c0_2] 25 (0, 0)) (upB a8.out)) : b3 ≠ b0)); have n8_ := yaa ((by rw [hg]; exact Nat.ne_of_lt (blk_lt (g := b1) (o := .cells #[.int .i64 a1_0, .int .i64 a1_1, .int .i64 a1_2, .int .i64 a1_3, .int .i64 a1_4] 27 (0, 0)) (upB a9.out)) : b1 ≠ b3)); have n9_ := yaa ((by rw [hg]; exact Nat.ne_of_gt (blk_lt (g := b1) (o := .cells #[.int .i64 a1_0, .int .i64 a1_1, .int .i64 a1_2, .int .i64 a1_3, .int .i64 a1_4] 27 (0, 0)) (upB a9.out)) : b3 ≠ b1)); clear a8; clear a9; clear HB; have a8 := n0_; have a9 := n1_; have HB := n2_; have b2 := n3_; have d2 := n4_; have d3 := n5_; have b7 := n6_; have b8 := n7_; have b9 := n8_; have c0 := n9_; clear n0_ n1_ n2_ n3_ n4_ n5_ n6_ n7_ n8_ n9_; clear hb hbox hg; have l1 := b5.out; have l2 := b6.out; have l3 := b7.out; have l4 := b8.out; have d8 : w10.cell? ⟨b0, 0, none⟩ = some (.int .i64 a0_0) := (yaf a8.out 0).trans rfl; have d9 : w10.cell? ⟨b0, 1, none⟩ = some (.int .i64 a0_1) := (yaf a8.out 1).trans rfl; have e0 : w10.cell? ⟨b0, 2, none⟩ = some (.slice A0_2 l0_2.length c0_2) := (yaf a8.out 2).trans rfl; have e1 := yae a8.out 0; have e2 := yae a8.out 1; have e3 := yae a8.out 2) | ((with_reducible refine gate_callee (f := 16) rfl ?_); refine goesL_ (some 7) rfl rfl Try.func16 (by kernel_rfl) rfl #[.agg #[.int .i64 a0_0, .int .i64 a0_1, .slice A0_2 l0_2.length c0_2]] rfl (by (try simp only [List.map_toArray, List.map_cons, List.map_nil]); first | done | rfl | (simp only [List.length_drop, List.length_take]; rfl)) ?_; (with_reducible refine (spec_RasOk.calls k a0_0 a0_1 _ _ l0_2 true _ ?side1 ?side2 A3.out).mono ?_); (case side1 => repeat (first | exact (Kd.C_below HR0_2.out HB.out) | (with_reducible refine Kd.C_alloc ?_ _) | (with_reducible refine Kd.C_drewN ?_ _) | (with_reducible refine Kd.C_drew ?_))); (case side2 => exact HC0_2.out); rintro e w14 ⟨rfl, hb⟩; refine ⟨_, rfl, ?_⟩; have n0_ := yaa (yah (g := b0) (o := .cells #[.int .i64 a0_0, .int .i64 a0_1, .slice A0_2 l0_2.length c0_2] 25 (0, 0)) (upB a8.out) hb); have n1_ := yaa (yah (g := b1) (o := .cells #[.int .i64 a1_0, .int .i64 a1_1, .int .i64 a1_2, .int .i64 a1_3, .int .i64 a1_4] 27 (0, 0)) (upB a9.out) hb); have n2_ := yaa (yah (g := b3) (o := .cells #[.int .i64 0, .int .i64 0, .slice none 0 0] 25 (0, 0)) (upB b2.out) hb); have n3_ := yaa (yaj (by repeat (first | (with_reducible first | exact HB.out | apply yac | apply yab | apply yad | refine yag ?_ (Aside0.out ‹_›)) | exact HB.out)) hb); clear a8; clear a9; clear b2; clear HB; have a8 := n0_; have a9 := n1_; have b2 := n2_; have HB := n3_; clear n0_ n1_ n2_ n3_; (try clear hb); (try clear hb2); (try clear hk); (try clear hi); have l5 := b9.out; have l6 := c0.out; have e4 : w14.cell? ⟨b1, 0, none⟩ = some (.int .i64 a1_0) := (yaf a9.out 0).trans rfl; have e5 : w14.cell? ⟨b1, 1, none⟩ = some (.int .i64 a1_1) := (yaf a9.out 1).trans rfl; have e6 : w14.cell? ⟨b1, 2, none⟩ = some (.int .i64 a1_2) := (yaf a9.out 2).trans rfl; have e7 : w14.cell? ⟨b1, 3, none⟩ = some (.int .i64 a1_3) := (yaf a9.out 3).trans rfl; have e8 : w14.cell? ⟨b1, 4, none⟩ = some (.int .i64 a1_4) := (yaf a9.out 4).trans rfl; have e9 := yae a9.out 0; have f0 := yae a9.out 1; have f1 := yae a9.out 2; have f2 := yae a9.out 3; have f3 := yae a9.out 4) | (go_at_call 38; (with_reducible refine (spec_OpOk.calls a1_0 a1_1 a1_2 a1_3 a1_4 true _ A5.out).mono ?_); rintro e w17 ⟨rfl, hb⟩; have n0_ := yaa (yah (g := b0) (o := .cells #[.int .i64 a0_0, .int .i64 a0_1, .slice A0_2 l0_2.length c0_2] 25 (0, 0)) (upB a8.out) hb); have n1_ := yaa (yah (g := b1) (o := .cells #[.int .i64 a1_0, .int .i64 a1_1, .int .i64 a1_2, .int .i64 a1_3, .int .i64 a1_4] 27 (0, 0)) (upB a9.out) hb); have n2_ := yaa (yah (g := b3) (o := .cells #[.int .i64 0, .int .i64 0, .slice none 0 0] 25 (0, 0)) (upB b2.out) hb); have n3_ := yaa (yaj (by repeat (first | (with_reducible first | exact HB.out | apply yac | apply yab | apply yad | refine yag ?_ (Aside0.out ‹_›)) | exact HB.out)) hb); clear a8; clear a9; clear b2; clear HB; have a8 := n0_; have a9 := n1_; have b2 := n2_; have HB := n3_; clear n0_ n1_ n2_ n3_; (try clear hb); (try clear hb2); (try clear hk); (try clear hi); have f4 : w17.cell? ⟨b0, 0, none⟩ = some (.int .i64 a0_0) := (yaf a8.out 0).trans rfl; have f5 : w17.cell? ⟨b0, 1, none⟩ = some (.int .i64 a0_1) := (yaf a8.out 1).trans rfl; have f6 : w17.cell? ⟨b0, 2, none⟩ = some (.slice A0_2 l0_2.length c0_2) := (yaf a8.out 2).trans rfl; have f7 := yae a8.out 0; have f8 := yae a8.out 1; have f9 := yae a8.out 2; have g0 : w17.cell? ⟨b1, 0, none⟩ = some (.int .i64 a1_0) := (yaf a9.out 0).trans rfl; have g1 : w17.cell? ⟨b1, 1, none⟩ = some (.int .i64 a1_1) := (yaf a9.out 1).trans rfl; have g2 : w17.cell? ⟨b1, 2, none⟩ = some (.int .i64 a1_2) := (yaf a9.out 2).trans rfl; have g3 : w17.cell? ⟨b1, 3, none⟩ = some (.int .i64 a1_3) := (yaf a9.out 3).trans rfl; have g4 : w17.cell? ⟨b1, 4, none⟩ = some (.int .i64 a1_4) := (yaf a9.out 4).trans rfl; have g5 := yae a9.out 0; have g6 := yae a9.out 1; have g7 := yae a9.out 2; have g8 := yae a9.out 3; have g9 := yae a9.out 4) | ((with_reducible refine gate_callee (f := 39) rfl ?_); refine goesL_ (some 17) rfl rfl Try.func39 (by kernel_rfl) rfl #[.agg #[.int .i64 a0_0, .int .i64 a0_1, .slice A0_2 l0_2.length c0_2], .agg #[.int .i64 a1_0, .int .i64 a1_1, .int .i64 a1_2, .int .i64 a1_3, .int .i64 a1_4]] rfl (by (try simp only [List.map_toArray, List.map_cons, List.map_nil]); first | done | rfl | (simp only [List.length_drop, List.length_take]; rfl)) ?_; (with_reducible refine (spec_l6Do.calls k a0_0 a0_1 _ _ l0_2 a1_0 a1_1 a1_2 a1_3 a1_4 c2 c3 c7 d5 _ ?side1 ?side2 A7.out).mono ?_); (case side1 => repeat (first | exact (Kd.C_below HR0_2.out HB.out) | (with_reducible refine Kd.C_alloc ?_ _) | (with_reducible refine Kd.C_drewN ?_ _) | (with_reducible refine Kd.C_drew ?_))); (case side2 => exact HC0_2.out); rintro e w20 ⟨m9, rfl, ho0, hb⟩; refine ⟨_, rfl, ?_⟩; have n0_ := yaa (Kd.R_lower ho0 (yai (by repeat (first | (with_reducible first | exact HB.out | apply yac | apply yab | apply yad | refine yag ?_ (Aside0.out ‹_›)) | exact HB.out)))); have n1_ := yaa (yah (g := b0) (o := .cells #[.int .i64 a0_0, .int .i64 a0_1, .slice A0_2 l0_2.length c0_2] 25 (0, 0)) (upB a8.out) hb); have n2_ := yaa (yah (g := b1) (o := .cells #[.int .i64 a1_0, .int .i64 a1_1, .int .i64 a1_2, .int .i64 a1_3, .int .i64 a1_4] 27 (0, 0)) (upB a9.out) hb); have n3_ := yaa (yah (g := b3) (o := .cells #[.int .i64 0, .int .i64 0, .slice none 0 0] 25 (0, 0)) (upB b2.out) hb); have n4_ := yaa (yaj (by repeat (first | (with_reducible first | exact HB.out | apply yac | apply yab | apply yad | refine yag ?_ (Aside0.out ‹_›)) | exact HB.out)) hb); clear a8; clear a9; clear b2; clear HB; have d4 := n0_; have a8 := n1_; have a9 := n2_; have b2 := n3_; have HB := n4_; clear n0_ n1_ n2_ n3_ n4_; (try clear hb); (try clear hb2); (try clear hk); (try clear hi); (try clear ho0); have h0 : w20.cell? ⟨b3, 0, none⟩ = some (.int .i64 0) := (yaf b2.out 0).trans rfl; have h1 : w20.cell? ⟨b3, 1, none⟩ = some (.int .i64 0) := (yaf b2.out 1).trans rfl; have h2 : w20.cell? ⟨b3, 2, none⟩ = some (.slice none 0 0) := (yaf b2.out 2).trans rfl; have h3 := yae b2.out 0; have h4 := yae b2.out 1; have h5 := yae b2.out 2; obtain ⟨d6, d7, l0⟩ := Kd.R_slice d4.out; subst l0))
   refine bodyPost_ret (results_ct rfl _ _ b3 25 #[.int .i64 c2, .int .i64 c3, .slice d6 c7.length d7] (0, 0) _ rfl (by (with_reducible repeat (first | refine blk_drewN ?_ _ | refine blk_drew ?_ | refine blk_alloc ?_ _)); refine blk_put (cs := #[.int .i64 c2, .int .i64 c3, .slice none 0 0]) ?_ 2 _ rfl; (with_reducible repeat (first | refine blk_drewN ?_ _ | refine blk_drew ?_ | refine blk_alloc ?_ _)); refine blk_put (cs := #[.int .i64 c2, .int .i64 0, .slice none 0 0]) ?_ 1 _ rfl; (with_reducible repeat (first | refine blk_drewN ?_ _ | refine blk_drew ?_ | refine blk_alloc ?_ _)); refine blk_put (cs := #[.int .i64 0, .int .i64 0, .slice none 0 0]) ?_ 0 _ rfl; exact upB b2.out) Try.underlying25 rfl (by kernel_rfl)) rfl ?_
   exact ⟨_, by first | rfl | (simp [errW_none, errW_some] <;> rfl) | (simp [*, errW_none, errW_some] <;> rfl), by (with_reducible repeat (first | apply Kd.R_alloc | apply Kd.R_drewN | apply Kd.R_drew)); exact Kd.R_mono (Kd.R_far (p := ⟨b3, 2, none⟩) (Kd.R_far (p := ⟨b3, 1, none⟩) (Kd.R_far (p := ⟨b3, 0, none⟩) (Kd.R_types d4.out b2.out (by decide)) (fun _ hk => hk.2) (.int .i64 c2)) (fun _ hk => hk.2) (.int .i64 c3)) (fun _ hk => hk.2) (.slice d6 c7.length d7)) (fun _ hk => trivial), by repeat (first | (with_reducible first | exact HB.out | apply yac | apply yab | apply yad | refine yag ?_ (Aside0.out ‹_›)) | exact HB.out)⟩
  ·
   replace c6 := Bool.eq_false_iff.mpr c6
   subst c6
   have H1 : (some (0, 0, ([] : List (S36)), false)) = some (r1, r2, r3, r4) := by rw [if_neg (show ¬ (false = true) by decide)] at H; exact H
   clear H
   have H := H1
   clear H1
   simp only [Option.some.injEq, Prod.mk.injEq] at H
   obtain ⟨rfl, rfl, rfl, rfl⟩ := H
   go_enter Try.func12, Try.ntmps12
   go_wp2_with (first | ((with_reducible refine gate_dst (N := 2) rfl ?_); refine box_event ?hg (N := 2) ?hd (cs := #[.int .i64 a0_0, .int .i64 a0_1, .slice A0_2 l0_2.length c0_2]) (t := 25) ?hr ?_; (case hd => rfl); (case hg => rfl); (case hr => first | (go_simp; done) | (go_simp; rfl)); intro b0 hg w23 hbox hb; have n0_ := yaa (yaj (by repeat (first | (with_reducible first | exact HB.out | apply yac | apply yab | apply yad) | exact HB.out)) hb); have n1_ := yaa (hbox); have n2_ := yaa ((by rw [hg]; exact (yai (by repeat (first | (with_reducible first | exact HB.out | apply yac | apply yab | apply yad) | exact HB.out))) : w.heap.size ≤ b0)); have n3_ := yaa ((by rw [hg]; exact (yai (by repeat (first | (with_reducible first | exact HB.out | apply yac | apply yab | apply yad) | exact HB.out))) : w.heap.size ≤ b0)); clear HB; have HB := n0_; have a8 := n1_; have c8 := n2_; have c9 := n3_; clear n0_ n1_ n2_ n3_; clear hb hbox hg) | ((with_reducible refine gate_dst (N := 3) rfl ?_); refine box_event ?hg (N := 3) ?hd (cs := #[.int .i64 a1_0, .int .i64 a1_1, .int .i64 a1_2, .int .i64 a1_3, .int .i64 a1_4]) (t := 27) ?hr ?_; (case hd => rfl); (case hg => rfl); (case hr => first | (go_simp; done) | (go_simp; rfl)); intro b1 hg w24 hbox hb; have n0_ := yaa (yah (g := b0) (o := .cells #[.int .i64 a0_0, .int .i64 a0_1, .slice A0_2 l0_2.length c0_2] 25 (0, 0)) (upB a8.out) hb); have n1_ := yaa (yaj (by repeat (first | (with_reducible first | exact HB.out | apply yac | apply yab | apply yad | refine yag ?_ (Aside0.out ‹_›)) | exact HB.out)) hb); have n2_ := yaa (hbox); have n3_ := yaa ((by rw [hg]; exact (yai (by repeat (first | (with_reducible first | exact HB.out | apply yac | apply yab | apply yad | refine yag ?_ (Aside0.out ‹_›)) | exact HB.out))) : w.heap.size ≤ b1)); have n4_ := yaa ((by rw [hg]; exact (yai (by repeat (first | (with_reducible first | exact HB.out | apply yac | apply yab | apply yad | refine yag ?_ (Aside0.out ‹_›)) | exact HB.out))) : w.heap.size ≤ b1)); have n5_ := yaa ((by rw [hg]; exact Nat.ne_of_lt (blk_lt (g := b0) (o := .cells #[.int .i64 a0_0, .int .i64 a0_1, .slice A0_2 l0_2.length c0_2] 25 (0, 0)) (upB a8.out)) : b0 ≠ b1)); have n6_ := yaa ((by rw [hg]; exact Nat.ne_of_gt (blk_lt (g := b0) (o := .cells #[.int .i64 a0_0, .int .i64 a0_1, .slice A0_2 l0_2.length c0_2] 25 (0, 0)) (upB a8.out)) : b1 ≠ b0)); clear a8; clear HB; have a8 := n0_; have HB := n1_; have a9 := n2_; have d0 := n3_; have d1 := n4_; have b5 := n5_; have b6 := n6_; clear n0_ n1_ n2_ n3_ n4_ n5_ n6_; clear hb hbox hg) | ((with_reducible refine gate_dst (N := 4) rfl ?_); refine box_event ?hg (N := 4) ?hd (cs := #[.int .i64 0, .int .i64 0, .slice none 0 0]) (t := 25) ?hr ?_; (case hd => rfl); (case hg => rfl); (case hr => first | (go_simp; done) | (go_simp; rfl)); intro b3 hg w25 hbox hb; have n0_ := yaa (yah (g := b0) (o := .cells #[.int .i64 a0_0, .int .i64 a0_1, .slice A0_2 l0_2.length c0_2] 25 (0, 0)) (upB a8.out) hb); have n1_ := yaa (yah (g := b1) (o := .cells #[.int .i64 a1_0, .int .i64 a1_1, .int .i64 a1_2, .int .i64 a1_3, .int .i64 a1_4] 27 (0, 0)) (upB a9.out) hb); have n2_ := yaa (yaj (by repeat (first | (with_reducible first | exact HB.out | apply yac | apply yab | apply yad | refine yag ?_ (Aside0.out ‹_›)) | exact HB.out)) hb); have n3_ := yaa (hbox); have n4_ := yaa ((by rw [hg]; exact (yai (by repeat (first | (with_reducible first | exact HB.out | apply yac | apply yab | apply yad | refine yag ?_ (Aside0.out ‹_›)) | exact HB.out))) : w.heap.size ≤ b3)); have n5_ := yaa ((by rw [hg]; exact (yai (by repeat (first | (with_reducible first | exact HB.out | apply yac | apply yab | apply yad | refine yag ?_ (Aside0.out ‹_›)) | exact HB.out))) : w.heap.size ≤ b3)); have n6_ := yaa ((by rw [hg]; exact Nat.ne_of_lt (blk_lt (g := b0) (o := .cells #[.int .i64 a0_0, .int .i64 a0_1, .slice A0_2 l0_2.length c0_2] 25 (0, 0)) (upB a8.out)) : b0 ≠ b3)); have n7_ := yaa ((by rw [hg]; exact Nat.ne_of_gt (blk_lt (g := b0) (o := .cells #[.int .i64 a0_0, .int .i64 a0_1, .slice A0_2 l0_2.length c0_2] 25 (0, 0)) (upB a8.out)) : b3 ≠ b0)); have n8_ := yaa ((by rw [hg]; exact Nat.ne_of_lt (blk_lt (g := b1) (o := .cells #[.int .i64 a1_0, .int .i64 a1_1, .int .i64 a1_2, .int .i64 a1_3, .int .i64 a1_4] 27 (0, 0)) (upB a9.out)) : b1 ≠ b3)); have n9_ := yaa ((by rw [hg]; exact Nat.ne_of_gt (blk_lt (g := b1) (o := .cells #[.int .i64 a1_0, .int .i64 a1_1, .int .i64 a1_2, .int .i64 a1_3, .int .i64 a1_4] 27 (0, 0)) (upB a9.out)) : b3 ≠ b1)); clear a8; clear a9; clear HB; have a8 := n0_; have a9 := n1_; have HB := n2_; have b2 := n3_; have d2 := n4_; have d3 := n5_; have b7 := n6_; have b8 := n7_; have b9 := n8_; have c0 := n9_; clear n0_ n1_ n2_ n3_ n4_ n5_ n6_ n7_ n8_ n9_; clear hb hbox hg; have l7 := b5.out; have l8 := b6.out; have l9 := b7.out; have m0 := b8.out; have h6 : w25.cell? ⟨b0, 0, none⟩ = some (.int .i64 a0_0) := (yaf a8.out 0).trans rfl; have h7 : w25.cell? ⟨b0, 1, none⟩ = some (.int .i64 a0_1) := (yaf a8.out 1).trans rfl; have h8 : w25.cell? ⟨b0, 2, none⟩ = some (.slice A0_2 l0_2.length c0_2) := (yaf a8.out 2).trans rfl; have h9 := yae a8.out 0; have i0 := yae a8.out 1; have i1 := yae a8.out 2) | ((with_reducible refine gate_callee (f := 16) rfl ?_); refine goesL_ (some 7) rfl rfl Try.func16 (by kernel_rfl) rfl #[.agg #[.int .i64 a0_0, .int .i64 a0_1, .slice A0_2 l0_2.length c0_2]] rfl (by (try simp only [List.map_toArray, List.map_cons, List.map_nil]); first | done | rfl | (simp only [List.length_drop, List.length_take]; rfl)) ?_; (with_reducible refine (spec_RasOk.calls k a0_0 a0_1 _ _ l0_2 true _ ?side1 ?side2 A3.out).mono ?_); (case side1 => repeat (first | exact (Kd.C_below HR0_2.out HB.out) | (with_reducible refine Kd.C_alloc ?_ _) | (with_reducible refine Kd.C_drewN ?_ _) | (with_reducible refine Kd.C_drew ?_))); (case side2 => exact HC0_2.out); rintro e w29 ⟨rfl, hb⟩; refine ⟨_, rfl, ?_⟩; have n0_ := yaa (yah (g := b0) (o := .cells #[.int .i64 a0_0, .int .i64 a0_1, .slice A0_2 l0_2.length c0_2] 25 (0, 0)) (upB a8.out) hb); have n1_ := yaa (yah (g := b1) (o := .cells #[.int .i64 a1_0, .int .i64 a1_1, .int .i64 a1_2, .int .i64 a1_3, .int .i64 a1_4] 27 (0, 0)) (upB a9.out) hb); have n2_ := yaa (yah (g := b3) (o := .cells #[.int .i64 0, .int .i64 0, .slice none 0 0] 25 (0, 0)) (upB b2.out) hb); have n3_ := yaa (yaj (by repeat (first | (with_reducible first | exact HB.out | apply yac | apply yab | apply yad | refine yag ?_ (Aside0.out ‹_›)) | exact HB.out)) hb); clear a8; clear a9; clear b2; clear HB; have a8 := n0_; have a9 := n1_; have b2 := n2_; have HB := n3_; clear n0_ n1_ n2_ n3_; (try clear hb); (try clear hb2); (try clear hk); (try clear hi); have m1 := b9.out; have m2 := c0.out; have i2 : w29.cell? ⟨b1, 0, none⟩ = some (.int .i64 a1_0) := (yaf a9.out 0).trans rfl; have i3 : w29.cell? ⟨b1, 1, none⟩ = some (.int .i64 a1_1) := (yaf a9.out 1).trans rfl; have i4 : w29.cell? ⟨b1, 2, none⟩ = some (.int .i64 a1_2) := (yaf a9.out 2).trans rfl; have i5 : w29.cell? ⟨b1, 3, none⟩ = some (.int .i64 a1_3) := (yaf a9.out 3).trans rfl; have i6 : w29.cell? ⟨b1, 4, none⟩ = some (.int .i64 a1_4) := (yaf a9.out 4).trans rfl; have i7 := yae a9.out 0; have i8 := yae a9.out 1; have i9 := yae a9.out 2; have j0 := yae a9.out 3; have j1 := yae a9.out 4) | (go_at_call 38; (with_reducible refine (spec_OpOk.calls a1_0 a1_1 a1_2 a1_3 a1_4 false _ A5.out).mono ?_); rintro e w32 ⟨rfl, hb⟩; have n0_ := yaa (yah (g := b0) (o := .cells #[.int .i64 a0_0, .int .i64 a0_1, .slice A0_2 l0_2.length c0_2] 25 (0, 0)) (upB a8.out) hb); have n1_ := yaa (yah (g := b1) (o := .cells #[.int .i64 a1_0, .int .i64 a1_1, .int .i64 a1_2, .int .i64 a1_3, .int .i64 a1_4] 27 (0, 0)) (upB a9.out) hb); have n2_ := yaa (yah (g := b3) (o := .cells #[.int .i64 0, .int .i64 0, .slice none 0 0] 25 (0, 0)) (upB b2.out) hb); have n3_ := yaa (yaj (by repeat (first | (with_reducible first | exact HB.out | apply yac | apply yab | apply yad | refine yag ?_ (Aside0.out ‹_›)) | exact HB.out)) hb); clear a8; clear a9; clear b2; clear HB; have a8 := n0_; have a9 := n1_; have b2 := n2_; have HB := n3_; clear n0_ n1_ n2_ n3_; (try clear hb); (try clear hb2); (try clear hk); (try clear hi); have j2 : w32.cell? ⟨b3, 0, none⟩ = some (.int .i64 0) := (yaf b2.out 0).trans rfl; have j3 : w32.cell? ⟨b3, 1, none⟩ = some (.int .i64 0) := (yaf b2.out 1).trans rfl; have j4 : w32.cell? ⟨b3, 2, none⟩ = some (.slice none 0 0) := (yaf b2.out 2).trans rfl; have j5 := yae b2.out 0; have j6 := yae b2.out 1; have j7 := yae b2.out 2))
   refine bodyPost_ret (results_ct rfl _ _ b3 25 #[.int .i64 0, .int .i64 0, .slice none 0 0] (0, 0) _ rfl (by (with_reducible repeat (first | refine blk_drewN ?_ _ | refine blk_drew ?_ | refine blk_alloc ?_ _)); refine blk_put (cs := #[.int .i64 0, .int .i64 0, .slice none 0 0]) ?_ 2 _ rfl; (with_reducible repeat (first | refine blk_drewN ?_ _ | refine blk_drew ?_ | refine blk_alloc ?_ _)); refine blk_put (cs := #[.int .i64 0, .int .i64 0, .slice none 0 0]) ?_ 1 _ rfl; (with_reducible repeat (first | refine blk_drewN ?_ _ | refine blk_drew ?_ | refine blk_alloc ?_ _)); refine blk_put (cs := #[.int .i64 0, .int .i64 0, .slice none 0 0]) ?_ 0 _ rfl; exact upB b2.out) Try.underlying25 rfl (by kernel_rfl)) rfl ?_
   exact ⟨_, by first | rfl | (simp [errW_none, errW_some] <;> rfl) | (simp [*, errW_none, errW_some] <;> rfl), by first | exact Kd.R_nil _ _ _ _ _ | exact Kd.N_nil _ _ _ _ _ | exact Kd.V_nil _ _ _ _ _ | exact Kd.Q_nil _ _ _ _ _ | exact Kd.S_nil _ _ _ _ _, by repeat (first | (with_reducible first | exact HB.out | apply yac | apply yab | apply yad | refine yag ?_ (Aside0.out ‹_›)) | exact HB.out)⟩
 ·
  replace c4 := Bool.eq_false_iff.mpr c4
  subst c4
  have H1 : (some (0, 0, ([] : List (S36)), false)) = some (r1, r2, r3, r4) := by rw [if_neg (show ¬ (false = true) by decide)] at H; exact H
  clear H
  have H := H1
  clear H1
  simp only [Option.some.injEq, Prod.mk.injEq] at H
  obtain ⟨rfl, rfl, rfl, rfl⟩ := H
  go_enter Try.func12, Try.ntmps12
  go_wp2_with (first | ((with_reducible refine gate_dst (N := 2) rfl ?_); refine box_event ?hg (N := 2) ?hd (cs := #[.int .i64 a0_0, .int .i64 a0_1, .slice A0_2 l0_2.length c0_2]) (t := 25) ?hr ?_; (case hd => rfl); (case hg => rfl); (case hr => first | (go_simp; done) | (go_simp; rfl)); intro b0 hg w34 hbox hb; have n0_ := yaa (yaj (by repeat (first | (with_reducible first | exact HB.out | apply yac | apply yab | apply yad) | exact HB.out)) hb); have n1_ := yaa (hbox); have n2_ := yaa ((by rw [hg]; exact (yai (by repeat (first | (with_reducible first | exact HB.out | apply yac | apply yab | apply yad) | exact HB.out))) : w.heap.size ≤ b0)); have n3_ := yaa ((by rw [hg]; exact (yai (by repeat (first | (with_reducible first | exact HB.out | apply yac | apply yab | apply yad) | exact HB.out))) : w.heap.size ≤ b0)); clear HB; have HB := n0_; have a8 := n1_; have c8 := n2_; have c9 := n3_; clear n0_ n1_ n2_ n3_; clear hb hbox hg) | ((with_reducible refine gate_dst (N := 3) rfl ?_); refine box_event ?hg (N := 3) ?hd (cs := #[.int .i64 a1_0, .int .i64 a1_1, .int .i64 a1_2, .int .i64 a1_3, .int .i64 a1_4]) (t := 27) ?hr ?_; (case hd => rfl); (case hg => rfl); (case hr => first | (go_simp; done) | (go_simp; rfl)); intro b1 hg w35 hbox hb; have n0_ := yaa (yah (g := b0) (o := .cells #[.int .i64 a0_0, .int .i64 a0_1, .slice A0_2 l0_2.length c0_2] 25 (0, 0)) (upB a8.out) hb); have n1_ := yaa (yaj (by repeat (first | (with_reducible first | exact HB.out | apply yac | apply yab | apply yad | refine yag ?_ (Aside0.out ‹_›)) | exact HB.out)) hb); have n2_ := yaa (hbox); have n3_ := yaa ((by rw [hg]; exact (yai (by repeat (first | (with_reducible first | exact HB.out | apply yac | apply yab | apply yad | refine yag ?_ (Aside0.out ‹_›)) | exact HB.out))) : w.heap.size ≤ b1)); have n4_ := yaa ((by rw [hg]; exact (yai (by repeat (first | (with_reducible first | exact HB.out | apply yac | apply yab | apply yad | refine yag ?_ (Aside0.out ‹_›)) | exact HB.out))) : w.heap.size ≤ b1)); have n5_ := yaa ((by rw [hg]; exact Nat.ne_of_lt (blk_lt (g := b0) (o := .cells #[.int .i64 a0_0, .int .i64 a0_1, .slice A0_2 l0_2.length c0_2] 25 (0, 0)) (upB a8.out)) : b0 ≠ b1)); have n6_ := yaa ((by rw [hg]; exact Nat.ne_of_gt (blk_lt (g := b0) (o := .cells #[.int .i64 a0_0, .int .i64 a0_1, .slice A0_2 l0_2.length c0_2] 25 (0, 0)) (upB a8.out)) : b1 ≠ b0)); clear a8; clear HB; have a8 := n0_; have HB := n1_; have a9 := n2_; have d0 := n3_; have d1 := n4_; have b5 := n5_; have b6 := n6_; clear n0_ n1_ n2_ n3_ n4_ n5_ n6_; clear hb hbox hg) | ((with_reducible refine gate_dst (N := 4) rfl ?_); refine box_event ?hg (N := 4) ?hd (cs := #[.int .i64 0, .int .i64 0, .slice none 0 0]) (t := 25) ?hr ?_; (case hd => rfl); (case hg => rfl); (case hr => first | (go_simp; done) | (go_simp; rfl)); intro b3 hg w36 hbox hb; have n0_ := yaa (yah (g := b0) (o := .cells #[.int .i64 a0_0, .int .i64 a0_1, .slice A0_2 l0_2.length c0_2] 25 (0, 0)) (upB a8.out) hb); have n1_ := yaa (yah (g := b1) (o := .cells #[.int .i64 a1_0, .int .i64 a1_1, .int .i64 a1_2, .int .i64 a1_3, .int .i64 a1_4] 27 (0, 0)) (upB a9.out) hb); have n2_ := yaa (yaj (by repeat (first | (with_reducible first | exact HB.out | apply yac | apply yab | apply yad | refine yag ?_ (Aside0.out ‹_›)) | exact HB.out)) hb); have n3_ := yaa (hbox); have n4_ := yaa ((by rw [hg]; exact (yai (by repeat (first | (with_reducible first | exact HB.out | apply yac | apply yab | apply yad | refine yag ?_ (Aside0.out ‹_›)) | exact HB.out))) : w.heap.size ≤ b3)); have n5_ := yaa ((by rw [hg]; exact (yai (by repeat (first | (with_reducible first | exact HB.out | apply yac | apply yab | apply yad | refine yag ?_ (Aside0.out ‹_›)) | exact HB.out))) : w.heap.size ≤ b3)); have n6_ := yaa ((by rw [hg]; exact Nat.ne_of_lt (blk_lt (g := b0) (o := .cells #[.int .i64 a0_0, .int .i64 a0_1, .slice A0_2 l0_2.length c0_2] 25 (0, 0)) (upB a8.out)) : b0 ≠ b3)); have n7_ := yaa ((by rw [hg]; exact Nat.ne_of_gt (blk_lt (g := b0) (o := .cells #[.int .i64 a0_0, .int .i64 a0_1, .slice A0_2 l0_2.length c0_2] 25 (0, 0)) (upB a8.out)) : b3 ≠ b0)); have n8_ := yaa ((by rw [hg]; exact Nat.ne_of_lt (blk_lt (g := b1) (o := .cells #[.int .i64 a1_0, .int .i64 a1_1, .int .i64 a1_2, .int .i64 a1_3, .int .i64 a1_4] 27 (0, 0)) (upB a9.out)) : b1 ≠ b3)); have n9_ := yaa ((by rw [hg]; exact Nat.ne_of_gt (blk_lt (g := b1) (o := .cells #[.int .i64 a1_0, .int .i64 a1_1, .int .i64 a1_2, .int .i64 a1_3, .int .i64 a1_4] 27 (0, 0)) (upB a9.out)) : b3 ≠ b1)); clear a8; clear a9; clear HB; have a8 := n0_; have a9 := n1_; have HB := n2_; have b2 := n3_; have d2 := n4_; have d3 := n5_; have b7 := n6_; have b8 := n7_; have b9 := n8_; have c0 := n9_; clear n0_ n1_ n2_ n3_ n4_ n5_ n6_ n7_ n8_ n9_; clear hb hbox hg; have m3 := b5.out; have m4 := b6.out; have m5 := b7.out; have m6 := b8.out; have j8 : w36.cell? ⟨b0, 0, none⟩ = some (.int .i64 a0_0) := (yaf a8.out 0).trans rfl; have j9 : w36.cell? ⟨b0, 1, none⟩ = some (.int .i64 a0_1) := (yaf a8.out 1).trans rfl; have k0 : w36.cell? ⟨b0, 2, none⟩ = some (.slice A0_2 l0_2.length c0_2) := (yaf a8.out 2).trans rfl; have k1 := yae a8.out 0; have k2 := yae a8.out 1; have k3 := yae a8.out 2) | ((with_reducible refine gate_callee (f := 16) rfl ?_); refine goesL_ (some 7) rfl rfl Try.func16 (by kernel_rfl) rfl #[.agg #[.int .i64 a0_0, .int .i64 a0_1, .slice A0_2 l0_2.length c0_2]] rfl (by (try simp only [List.map_toArray, List.map_cons, List.map_nil]); first | done | rfl | (simp only [List.length_drop, List.length_take]; rfl)) ?_; (with_reducible refine (spec_RasOk.calls k a0_0 a0_1 _ _ l0_2 false _ ?side1 ?side2 A3.out).mono ?_); (case side1 => repeat (first | exact (Kd.C_below HR0_2.out HB.out) | (with_reducible refine Kd.C_alloc ?_ _) | (with_reducible refine Kd.C_drewN ?_ _) | (with_reducible refine Kd.C_drew ?_))); (case side2 => exact HC0_2.out); rintro e w40 ⟨rfl, hb⟩; refine ⟨_, rfl, ?_⟩; have n0_ := yaa (yah (g := b0) (o := .cells #[.int .i64 a0_0, .int .i64 a0_1, .slice A0_2 l0_2.length c0_2] 25 (0, 0)) (upB a8.out) hb); have n1_ := yaa (yah (g := b1) (o := .cells #[.int .i64 a1_0, .int .i64 a1_1, .int .i64 a1_2, .int .i64 a1_3, .int .i64 a1_4] 27 (0, 0)) (upB a9.out) hb); have n2_ := yaa (yah (g := b3) (o := .cells #[.int .i64 0, .int .i64 0, .slice none 0 0] 25 (0, 0)) (upB b2.out) hb); have n3_ := yaa (yaj (by repeat (first | (with_reducible first | exact HB.out | apply yac | apply yab | apply yad | refine yag ?_ (Aside0.out ‹_›)) | exact HB.out)) hb); clear a8; clear a9; clear b2; clear HB; have a8 := n0_; have a9 := n1_; have b2 := n2_; have HB := n3_; clear n0_ n1_ n2_ n3_; (try clear hb); (try clear hb2); (try clear hk); (try clear hi); have m7 := c0.out; have m8 := b9.out; have k4 : w40.cell? ⟨b3, 0, none⟩ = some (.int .i64 0) := (yaf b2.out 0).trans rfl; have k5 : w40.cell? ⟨b3, 1, none⟩ = some (.int .i64 0) := (yaf b2.out 1).trans rfl; have k6 : w40.cell? ⟨b3, 2, none⟩ = some (.slice none 0 0) := (yaf b2.out 2).trans rfl; have k7 := yae b2.out 0; have k8 := yae b2.out 1; have k9 := yae b2.out 2))
  refine bodyPost_ret (results_ct rfl _ _ b3 25 #[.int .i64 0, .int .i64 0, .slice none 0 0] (0, 0) _ rfl (by (with_reducible repeat (first | refine blk_drewN ?_ _ | refine blk_drew ?_ | refine blk_alloc ?_ _)); refine blk_put (cs := #[.int .i64 0, .int .i64 0, .slice none 0 0]) ?_ 2 _ rfl; (with_reducible repeat (first | refine blk_drewN ?_ _ | refine blk_drew ?_ | refine blk_alloc ?_ _)); refine blk_put (cs := #[.int .i64 0, .int .i64 0, .slice none 0 0]) ?_ 1 _ rfl; (with_reducible repeat (first | refine blk_drewN ?_ _ | refine blk_drew ?_ | refine blk_alloc ?_ _)); refine blk_put (cs := #[.int .i64 0, .int .i64 0, .slice none 0 0]) ?_ 0 _ rfl; exact upB b2.out) Try.underlying25 rfl (by kernel_rfl)) rfl ?_
  exact ⟨_, by first | rfl | (simp [errW_none, errW_some] <;> rfl) | (simp [*, errW_none, errW_some] <;> rfl), by first | exact Kd.R_nil _ _ _ _ _ | exact Kd.N_nil _ _ _ _ _ | exact Kd.V_nil _ _ _ _ _ | exact Kd.Q_nil _ _ _ _ _ | exact Kd.S_nil _ _ _ _ _, by repeat (first | (with_reducible first | exact HB.out | apply yac | apply yab | apply yad | refine yag ?_ (Aside0.out ‹_›)) | exact HB.out)⟩

end Go.Proofs.Ytoifpgkfpdeglaa.X

namespace Go.Proofs.Ytoifpgkfpdeglaa.X
open Go.RowKit Go.Proofs.YtoifpgkfpdeglaaW.PrintWords Go.Proofs.YtoifpgkfpdeglaaW.PrintLast Go.Proofs.YtoifpgkfpdeglaaW.PrintMore
attribute [local go_sem] max2_int min2_int max_two min_two max_three min_three max_four min_four
set_option linter.unusedVariables false
set_option linter.unusedSimpArgs false

/-! ### laws_szPixPixS: function 45 -/
def laws_szPixPixS.f (l0 : List (S94)) (a1 : Int) : Option (Int) := if (wrap64 (a1 - (l0.length : Int))) < 0 then (some (-1)) else (some (wrap64 (a1 - (l0.length : Int))))
set_option maxHeartbeats 8000000 in
set_option maxRecDepth 100000 in
theorem laws_szPixPixS.calls (A0 : Option Addr) (c0 : Nat) (l0 : List (S94)) (a1 : Int) (r : Int) (w : World) (hr0 : Kd.C k94 w A0 l0.length l0) (hc0 : l0.length ≤ c0) (h : laws_szPixPixS.f l0 a1 = some r) :
    Calls Try.prog 45 #[.slice A0 l0.length c0, .int .i64 a1] w fun e w' => e = .returned (.int .i64 r) ∧ Drawn0 w w' := by
  have HR0 := Aside0.mk hr0
  have HC0 := Aside0.mk hc0
  clear hr0 hc0
  have H : (if (wrap64 (a1 - (l0.length : Int))) < 0 then (some (-1)) else (some (wrap64 (a1 - (l0.length : Int))))) = some r := h
  clear h
  by_cases c3 : (wrap64 (a1 - (l0.length : Int))) < 0
  · rw [if_pos c3] at H
    have c3b0 : decide ((wrap64 (a1 - (l0.length : Int))) < 0) = true := decide_eq_true c3
    clear c3
    obtain rfl := Option.some.inj H
    go_enter Try.func45, Try.ntmps45
    go_wp2
    go_ret
    exact ⟨by first | rfl | (simp; done) | (simp [*]; done), by repeat (first | exact Drawn0.refl _ | apply Drawn0.step)⟩
  · rw [if_neg c3] at H
    have c3b0 : decide ((wrap64 (a1 - (l0.length : Int))) < 0) = false := decide_eq_false c3
    clear c3
    obtain rfl := Option.some.inj H
    go_enter Try.func45, Try.ntmps45
    go_wp2
    go_ret
    exact ⟨by first | rfl | (simp; done) | (simp [*]; done), by repeat (first | exact Drawn0.refl _ | apply Drawn0.step)⟩

end Go.Proofs.Ytoifpgkfpdeglaa.X

namespace Go.Proofs.Ytoifpgkfpdeglaa.X
open Go.RowKit Go.Proofs.YtoifpgkfpdeglaaW.PrintWords Go.Proofs.YtoifpgkfpdeglaaW.PrintLast Go.Proofs.YtoifpgkfpdeglaaW.PrintMore
attribute [local go_sem] max2_int min2_int max_two min_two max_three min_three max_four min_four
set_option linter.unusedVariables false
set_option linter.unusedSimpArgs false

/-! ### laws_szRasRaster: function 20 -/
def laws_szRasRaster.f (a0_0 : Int) (a0_1 : Int) (l0_2 : List (S94)) (a1 : Int) : Option (Int) := (laws_szPixPixS.f l0_2 a1).bind fun t102 => (if t102 < 0 then (some (-1)) else (some t102))
set_option maxHeartbeats 8000000 in
set_option maxRecDepth 100000 in
theorem laws_szRasRaster.calls (a0_0 : Int) (a0_1 : Int) (A0_2 : Option Addr) (c0_2 : Nat) (l0_2 : List (S94)) (a1 : Int) (r : Int) (w : World) (hr0_2 : Kd.C k94 w A0_2 l0_2.length l0_2) (hc0_2 : l0_2.length ≤ c0_2) (h : laws_szRasRaster.f a0_0 a0_1 l0_2 a1 = some r) :
  Calls Try.prog 20 #[.agg #[.int .i64 a0_0, .int .i64 a0_1, .slice A0_2 l0_2.length c0_2], .int .i64 a1] w fun e w' => e = .returned (.int .i64 r) ∧ Below w.heap.size w w' := by
 have hu44 := Try.underlying44
 have HR0_2 := Aside0.mk hr0_2
 have HC0_2 := Aside0.mk hc0_2
 clear hr0_2 hc0_2
 have HB := Aside0.mk (Below.refl w.heap.size w)
 have H : ((laws_szPixPixS.f l0_2 a1).bind fun a3 => (if a3 < 0 then (some (-1)) else (some a3))) = some r := h
 clear h
 replace H := Option.bind_eq_some_iff.mp H
 obtain ⟨a3, A30, H⟩ := H
 replace H : (if a3 < 0 then (some (-1)) else (some a3)) = some r := H
 have A3 := Aside0.mk A30
 clear A30
 by_cases c4 : a3 < 0
 ·
  rw [if_pos c4] at H
  have a6 : decide (a3 < 0) = true := decide_eq_true c4
  clear c4
  obtain rfl := Option.some.inj H
  go_enter Try.func20, Try.ntmps20
  go_wp2_with (first | ((with_reducible refine gate_dst (N := 2) rfl ?_); refine box_event ?hg (N := 2) ?hd (cs := #[.int .i64 a0_0, .int .i64 a0_1, .slice A0_2 l0_2.length c0_2]) (t := 44) ?hr ?_; (case hd => rfl); (case hg => rfl); (case hr => first | (go_simp; done) | (go_simp; rfl)); intro a2 hg w5 hbox hb; have n0_ := Aside0.mk (below_step (by repeat (first | (with_reducible first | exact HB.out | apply below_alloc | apply pw_below_drewN | apply below_drew1) | exact HB.out)) hb); have n1_ := Aside0.mk (hbox); have n2_ := Aside0.mk ((by rw [hg]; exact (below_size (by repeat (first | (with_reducible first | exact HB.out | apply below_alloc | apply pw_below_drewN | apply below_drew1) | exact HB.out))) : w.heap.size ≤ a2)); have n3_ := Aside0.mk ((by rw [hg]; exact (below_size (by repeat (first | (with_reducible first | exact HB.out | apply below_alloc | apply pw_below_drewN | apply below_drew1) | exact HB.out))) : w.heap.size ≤ a2)); clear HB; have HB := n0_; have a0 := n1_; have a4 := n2_; have a5 := n3_; clear n0_ n1_ n2_ n3_; clear hb hbox hg; have a7 : w5.cell? ⟨a2, 0, none⟩ = some (.int .i64 a0_0) := (blk_cell a0.out 0).trans rfl; have a8 : w5.cell? ⟨a2, 1, none⟩ = some (.int .i64 a0_1) := (blk_cell a0.out 1).trans rfl; have a9 : w5.cell? ⟨a2, 2, none⟩ = some (.slice A0_2 l0_2.length c0_2) := (blk_cell a0.out 2).trans rfl; have b0 := blk_frozen a0.out 0; have b1 := blk_frozen a0.out 1; have b2 := blk_frozen a0.out 2) | ((with_reducible refine gate_callee (f := 45) rfl ?_); refine goesL_ (some 8) rfl rfl Try.func45 (by kernel_rfl) rfl #[.slice A0_2 l0_2.length c0_2, .int .i64 a1] rfl (by (try simp only [List.map_toArray, List.map_cons, List.map_nil]); first | done | rfl | (simp only [List.length_drop, List.length_take]; rfl)) ?_; (with_reducible refine (laws_szPixPixS.calls _ _ l0_2 a1 a3 _ ?side1 ?side2 A3.out).mono ?_); (case side1 => repeat (first | exact (Kd.C_below HR0_2.out HB.out) | (with_reducible refine Kd.C_alloc ?_ _) | (with_reducible refine Kd.C_drewN ?_ _) | (with_reducible refine Kd.C_drew ?_))); (case side2 => exact HC0_2.out); rintro e w' ⟨rfl, ⟨nd, rfl⟩⟩; refine ⟨_, rfl, ?_⟩))
  go_ret
  exact ⟨by first | rfl | (simp [errW_none, errW_some] <;> rfl) | (simp [*, errW_none, errW_some] <;> rfl), by repeat (first | (with_reducible first | exact HB.out | apply below_alloc | apply pw_below_drewN | apply below_drew1 | refine below_set ?_ (Aside0.out ‹_›)) | exact HB.out)⟩
 ·
  rw [if_neg c4] at H
  have a6 : decide (a3 < 0) = false := decide_eq_false c4
  clear c4
  obtain rfl := Option.some.inj H
  go_enter Try.func20, Try.ntmps20
  go_wp2_with (first | ((with_reducible refine gate_dst (N := 2) rfl ?_); refine box_event ?hg (N := 2) ?hd (cs := #[.int .i64 a0_0, .int .i64 a0_1, .slice A0_2 l0_2.length c0_2]) (t := 44) ?hr ?_; (case hd => rfl); (case hg => rfl); (case hr => first | (go_simp; done) | (go_simp; rfl)); intro a2 hg w7 hbox hb; have n0_ := Aside0.mk (below_step (by repeat (first | (with_reducible first | exact HB.out | apply below_alloc | apply pw_below_drewN | apply below_drew1) | exact HB.out)) hb); have n1_ := Aside0.mk (hbox); have n2_ := Aside0.mk ((by rw [hg]; exact (below_size (by repeat (first | (with_reducible first | exact HB.out | apply below_alloc | apply pw_below_drewN | apply below_drew1) | exact HB.out))) : w.heap.size ≤ a2)); have n3_ := Aside0.mk ((by rw [hg]; exact (below_size (by repeat (first | (with_reducible first | exact HB.out | apply below_alloc | apply pw_below_drewN | apply below_drew1) | exact HB.out))) : w.heap.size ≤ a2)); clear HB; have HB := n0_; have a0 := n1_; have a4 := n2_; have a5 := n3_; clear n0_ n1_ n2_ n3_; clear hb hbox hg; have b3 : w7.cell? ⟨a2, 0, none⟩ = some (.int .i64 a0_0) := (blk_cell a0.out 0).trans rfl; have b4 : w7.cell? ⟨a2, 1, none⟩ = some (.int .i64 a0_1) := (blk_cell a0.out 1).trans rfl; have b5 : w7.cell? ⟨a2, 2, none⟩ = some (.slice A0_2 l0_2.length c0_2) := (blk_cell a0.out 2).trans rfl; have b6 := blk_frozen a0.out 0; have b7 := blk_frozen a0.out 1; have b8 := blk_frozen a0.out 2) | ((with_reducible refine gate_callee (f := 45) rfl ?_); refine goesL_ (some 8) rfl rfl Try.func45 (by kernel_rfl) rfl #[.slice A0_2 l0_2.length c0_2, .int .i64 a1] rfl (by (try simp only [List.map_toArray, List.map_cons, List.map_nil]); first | done | rfl | (simp only [List.length_drop, List.length_take]; rfl)) ?_; (with_reducible refine (laws_szPixPixS.calls _ _ l0_2 a1 a3 _ ?side1 ?side2 A3.out).mono ?_); (case side1 => repeat (first | exact (Kd.C_below HR0_2.out HB.out) | (with_reducible refine Kd.C_alloc ?_ _) | (with_reducible refine Kd.C_drewN ?_ _) | (with_reducible refine Kd.C_drew ?_))); (case side2 => exact HC0_2.out); rintro e w' ⟨rfl, ⟨nd, rfl⟩⟩; refine ⟨_, rfl, ?_⟩))
  go_ret
  exact ⟨by first | rfl | (simp [errW_none, errW_some] <;> rfl) | (simp [*, errW_none, errW_some] <;> rfl), by repeat (first | (with_reducible first | exact HB.out | apply below_alloc | apply pw_below_drewN | apply below_drew1 | refine below_set ?_ (Aside0.out ‹_›)) | exact HB.out)⟩

end Go.Proofs.Ytoifpgkfpdeglaa.X

namespace Go.Proofs.Ytoifpgkfpdeglaa.X
open Go.RowKit Go.Proofs.YtoifpgkfpdeglaaW.PrintWords Go.Proofs.YtoifpgkfpdeglaaW.PrintLast Go.Proofs.YtoifpgkfpdeglaaW.PrintMore
attribute [local go_sem] max2_int min2_int max_two min_two max_three min_three max_four min_four
set_option linter.unusedVariables false
set_option linter.unusedSimpArgs false

open Go.Proofs.YtoifpgkfpdeglaaW.PrintWords.Aside0 renaming mk → yaa
open Go.Proofs.YtoifpgkfpdeglaaW.PrintWords renaming pw_below_drewN → yab

/-! ### laws_toPixPix: function 79 -/
def laws_toPixPix.f (a0_0 : Int) (a0_1 : Int) (a0_2 : Int) (a0_3 : Int) : Option (Int × Int × Int × Int) := some (a0_0, a0_1, a0_2, a0_3)
set_option maxHeartbeats 8000000 in
set_option maxRecDepth 100000 in
theorem laws_toPixPix.calls (a0_0 : Int) (a0_1 : Int) (a0_2 : Int) (a0_3 : Int) (r1 : Int) (r2 : Int) (r3 : Int) (r4 : Int) (w : World) (h : laws_toPixPix.f a0_0 a0_1 a0_2 a0_3 = some (r1, r2, r3, r4)) :
  Calls Try.prog 79 #[.agg #[.int .i64 a0_0, .int .i64 a0_1, .int .i64 a0_2, .int .i64 a0_3]] w fun e w' => e = .returned (.agg #[.int .i64 r1, .int .i64 r2, .int .i64 r3, .int .i64 r4]) ∧ Below w.heap.size w w' := by
 have hu94 := Try.underlying94
 have hu36 := Try.underlying36
 have HB := yaa (Below.refl w.heap.size w)
 have H : (some (a0_0, a0_1, a0_2, a0_3)) = some (r1, r2, r3, r4) := h
 clear h
 simp only [Option.some.injEq, Prod.mk.injEq] at H
 obtain ⟨rfl, rfl, rfl, rfl⟩ := H
 go_enter Try.func79, Try.ntmps79
 go_wp2_with (first | ((with_reducible refine gate_dst (N := 1) rfl ?_); refine box_event ?hg (N := 1) ?hd (cs := #[.int .i64 a0_0, .int .i64 a0_1, .int .i64 a0_2, .int .i64 a0_3]) (t := 94) ?hr ?_; (case hd => rfl); (case hg => rfl); (case hr => first | (go_simp; done) | (go_simp; rfl)); intro a1 hg w2 hbox hb; have n0_ := yaa (below_step (by repeat (first | (with_reducible first | exact HB.out | apply below_alloc | apply yab | apply below_drew1) | exact HB.out)) hb); have n1_ := yaa (hbox); have n2_ := yaa ((by rw [hg]; exact (below_size (by repeat (first | (with_reducible first | exact HB.out | apply below_alloc | apply yab | apply below_drew1) | exact HB.out))) : w.heap.size ≤ a1)); have n3_ := yaa ((by rw [hg]; exact (below_size (by repeat (first | (with_reducible first | exact HB.out | apply below_alloc | apply yab | apply below_drew1) | exact HB.out))) : w.heap.size ≤ a1)); clear HB; have HB := n0_; have a0 := n1_; have d6 := n2_; have d7 := n3_; clear n0_ n1_ n2_ n3_; clear hb hbox hg) | ((with_reducible refine gate_dst (N := 2) rfl ?_); refine box_event ?hg (N := 2) ?hd (cs := #[.int .i64 0, .int .i64 0, .int .i64 0, .int .i64 0]) (t := 36) ?hr ?_; (case hd => rfl); (case hg => rfl); (case hr => first | (go_simp; done) | (go_simp; rfl)); intro a2 hg w3 hbox hb; have n0_ := yaa (blk_below (g := a1) (o := .cells #[.int .i64 a0_0, .int .i64 a0_1, .int .i64 a0_2, .int .i64 a0_3] 94 (0, 0)) (upB a0.out) hb); have n1_ := yaa (below_step (by repeat (first | (with_reducible first | exact HB.out | apply below_alloc | apply yab | apply below_drew1 | refine below_set ?_ (Aside0.out ‹_›)) | exact HB.out)) hb); have n2_ := yaa (hbox); have n3_ := yaa ((by rw [hg]; exact (below_size (by repeat (first | (with_reducible first | exact HB.out | apply below_alloc | apply yab | apply below_drew1 | refine below_set ?_ (Aside0.out ‹_›)) | exact HB.out))) : w.heap.size ≤ a2)); have n4_ := yaa ((by rw [hg]; exact (below_size (by repeat (first | (with_reducible first | exact HB.out | apply below_alloc | apply yab | apply below_drew1 | refine below_set ?_ (Aside0.out ‹_›)) | exact HB.out))) : w.heap.size ≤ a2)); have n5_ := yaa ((by rw [hg]; exact Nat.ne_of_lt (blk_lt (g := a1) (o := .cells #[.int .i64 a0_0, .int .i64 a0_1, .int .i64 a0_2, .int .i64 a0_3] 94 (0, 0)) (upB a0.out)) : a1 ≠ a2)); have n6_ := yaa ((by rw [hg]; exact Nat.ne_of_gt (blk_lt (g := a1) (o := .cells #[.int .i64 a0_0, .int .i64 a0_1, .int .i64 a0_2, .int .i64 a0_3] 94 (0, 0)) (upB a0.out)) : a2 ≠ a1)); clear a0; clear HB; have a0 := n0_; have HB := n1_; have a3 := n2_; have d8 := n3_; have d9 := n4_; have a7 := n5_; have a8 := n6_; clear n0_ n1_ n2_ n3_ n4_ n5_ n6_; clear hb hbox hg) | ((with_reducible refine gate_dst (N := 3) rfl ?_); refine box_event ?hg (N := 3) ?hd (cs := #[.int .i64 0, .int .i64 0, .int .i64 0, .int .i64 0]) (t := 36) ?hr ?_; (case hd => rfl); (case hg => rfl); (case hr => first | (go_simp; done) | (go_simp; rfl)); intro a5 hg w4 hbox hb; have n0_ := yaa (blk_below (g := a1) (o := .cells #[.int .i64 a0_0, .int .i64 a0_1, .int .i64 a0_2, .int .i64 a0_3] 94 (0, 0)) (upB a0.out) hb); have n1_ := yaa (blk_below (g := a2) (o := .cells #[.int .i64 0, .int .i64 0, .int .i64 0, .int .i64 0] 36 (0, 0)) (upB a3.out) hb); have n2_ := yaa (below_step (by repeat (first | (with_reducible first | exact HB.out | apply below_alloc | apply yab | apply below_drew1 | refine below_set ?_ (Aside0.out ‹_›)) | exact HB.out)) hb); have n3_ := yaa (hbox); have n4_ := yaa ((by rw [hg]; exact (below_size (by repeat (first | (with_reducible first | exact HB.out | apply below_alloc | apply yab | apply below_drew1 | refine below_set ?_ (Aside0.out ‹_›)) | exact HB.out))) : w.heap.size ≤ a5)); have n5_ := yaa ((by rw [hg]; exact (below_size (by repeat (first | (with_reducible first | exact HB.out | apply below_alloc | apply yab | apply below_drew1 | refine below_set ?_ (Aside0.out ‹_›)) | exact HB.out))) : w.heap.size ≤ a5)); have n6_ := yaa ((by rw [hg]; exact Nat.ne_of_lt (blk_lt (g := a1) (o := .cells #[.int .i64 a0_0, .int .i64 a0_1, .int .i64 a0_2, .int .i64 a0_3] 94 (0, 0)) (upB a0.out)) : a1 ≠ a5)); have n7_ := yaa ((by rw [hg]; exact Nat.ne_of_gt (blk_lt (g := a1) (o := .cells #[.int .i64 a0_0, .int .i64 a0_1, .int .i64 a0_2, .int .i64 a0_3] 94 (0, 0)) (upB a0.out)) : a5 ≠ a1)); have n8_ := yaa ((by rw [hg]; exact Nat.ne_of_lt (blk_lt (g := a2) (o := .cells #[.int .i64 0, .int .i64 0, .int .i64 0, .int .i64 0] 36 (0, 0)) (upB a3.out)) : a2 ≠ a5)); have n9_ := yaa ((by rw [hg]; exact Nat.ne_of_gt (blk_lt (g := a2) (o := .cells #[.int .i64 0, .int .i64 0, .int .i64 0, .int .i64 0] 36 (0, 0)) (upB a3.out)) : a5 ≠ a2)); clear a0; clear a3; clear HB; have a0 := n0_; have a3 := n1_; have HB := n2_; have a6 := n3_; have e0 := n4_; have e1 := n5_; have a9 := n6_; have b0 := n7_; have a4 := n8_; have b1 := n9_; clear n0_ n1_ n2_ n3_ n4_ n5_ n6_ n7_ n8_ n9_; clear hb hbox hg; have e2 := a7.out; have e3 := a8.out; have e4 := a9.out; have e5 := b0.out; have c0 : w4.cell? ⟨a1, 0, none⟩ = some (.int .i64 a0_0) := (blk_cell a0.out 0).trans rfl; have c1 : w4.cell? ⟨a1, 1, none⟩ = some (.int .i64 a0_1) := (blk_cell a0.out 1).trans rfl; have c2 : w4.cell? ⟨a1, 2, none⟩ = some (.int .i64 a0_2) := (blk_cell a0.out 2).trans rfl; have c3 : w4.cell? ⟨a1, 3, none⟩ = some (.int .i64 a0_3) := (blk_cell a0.out 3).trans rfl; have c4 := blk_frozen a0.out 0; have c5 := blk_frozen a0.out 1; have c6 := blk_frozen a0.out 2; have c7 := blk_frozen a0.out 3; have e6 := b1.out; have e7 := a4.out; have c8 : w4.cell? ⟨a5, 0, none⟩ = some (.int .i64 0) := (blk_cell a6.out 0).trans rfl; have c9 : w4.cell? ⟨a5, 1, none⟩ = some (.int .i64 0) := (blk_cell a6.out 1).trans rfl; have d0 : w4.cell? ⟨a5, 2, none⟩ = some (.int .i64 0) := (blk_cell a6.out 2).trans rfl; have d1 : w4.cell? ⟨a5, 3, none⟩ = some (.int .i64 0) := (blk_cell a6.out 3).trans rfl; have d2 := blk_frozen a6.out 0; have d3 := blk_frozen a6.out 1; have d4 := blk_frozen a6.out 2; have d5 := blk_frozen a6.out 3; have b2 : w4.cell? ⟨a2, 0, none⟩ = some (.int .i64 0) := (blk_cell a3.out 0).trans rfl; have b3 : w4.cell? ⟨a2, 1, none⟩ = some (.int .i64 0) := (blk_cell a3.out 1).trans rfl; have b4 : w4.cell? ⟨a2, 2, none⟩ = some (.int .i64 0) := (blk_cell a3.out 2).trans rfl; have b5 : w4.cell? ⟨a2, 3, none⟩ = some (.int .i64 0) := (blk_cell a3.out 3).trans rfl; have b6 := blk_frozen a3.out 0; have b7 := blk_frozen a3.out 1; have b8 := blk_frozen a3.out 2; have b9 := blk_frozen a3.out 3))
 refine bodyPost_ret (results_cell_row rfl _ _ a2 36 #[.int .i64 a0_0, .int .i64 a0_1, .int .i64 a0_2, .int .i64 a0_3] (0, 0) _ rfl (by (with_reducible repeat (first | refine blk_drewN ?_ _ | refine blk_drew ?_ | refine blk_alloc ?_ _)); refine blk_put (cs := #[.int .i64 a0_0, .int .i64 a0_1, .int .i64 a0_2, .int .i64 0]) ?_ 3 _ rfl; (with_reducible repeat (first | refine blk_drewN ?_ _ | refine blk_drew ?_ | refine blk_alloc ?_ _)); refine blk_put (cs := #[.int .i64 a0_0, .int .i64 a0_1, .int .i64 0, .int .i64 0]) ?_ 2 _ rfl; (with_reducible repeat (first | refine blk_drewN ?_ _ | refine blk_drew ?_ | refine blk_alloc ?_ _)); refine blk_put (cs := #[.int .i64 a0_0, .int .i64 0, .int .i64 0, .int .i64 0]) ?_ 1 _ rfl; (with_reducible repeat (first | refine blk_drewN ?_ _ | refine blk_drew ?_ | refine blk_alloc ?_ _)); refine blk_put (cs := #[.int .i64 0, .int .i64 0, .int .i64 0, .int .i64 0]) ?_ 0 _ rfl; (with_reducible repeat (first | refine blk_drewN ?_ _ | refine blk_drew ?_ | refine blk_alloc ?_ _)); refine blk_far ?_ a4.out _; (with_reducible repeat (first | refine blk_drewN ?_ _ | refine blk_drew ?_ | refine blk_alloc ?_ _)); refine blk_far ?_ a4.out _; (with_reducible repeat (first | refine blk_drewN ?_ _ | refine blk_drew ?_ | refine blk_alloc ?_ _)); refine blk_far ?_ a4.out _; (with_reducible repeat (first | refine blk_drewN ?_ _ | refine blk_drew ?_ | refine blk_alloc ?_ _)); refine blk_far ?_ a4.out _; exact upB a3.out) Try.underlying36 rfl (by kernel_rfl)) rfl ?_
 exact ⟨by first | rfl | (simp [errW_none, errW_some] <;> rfl) | (simp [*, errW_none, errW_some] <;> rfl), by repeat (first | (with_reducible first | exact HB.out | apply below_alloc | apply yab | apply below_drew1 | refine below_set ?_ (Aside0.out ‹_›)) | exact HB.out)⟩

end Go.Proofs.Ytoifpgkfpdeglaa.X

namespace Go.Proofs.Ytoifpgkfpdeglaa.X
open Go.RowKit Go.Proofs.YtoifpgkfpdeglaaW.PrintWords Go.Proofs.YtoifpgkfpdeglaaW.PrintLast Go.Proofs.YtoifpgkfpdeglaaW.PrintMore
attribute [local go_sem] max2_int min2_int max_two min_two max_three min_three max_four min_four
set_option linter.unusedVariables false
set_option linter.unusedSimpArgs false

open Go.Proofs.YtoifpgkfpdeglaaW.PrintWords.Aside0 renaming mk → yaa

/-! ### laws_toPixPixS: function 46 -/
def laws_toPixPixS.l0 : Nat → List (S94) → List (S36) → Int → Option ((List (S36)))
 | 0, _, _, _ => none
 | k + 1, x0, x3, x4 => if x4 < (x0.length : Int) then (if 0 ≤ x4 then ((laws_toPixPix.f ((rd_T94 x0 x4).f0) ((rd_T94 x0 x4).f1) ((rd_T94 x0 x4).f2) ((rd_T94 x0 x4).f3)).bind fun bt105 => (if x4 < (x3.length : Int) then (laws_toPixPixS.l0 k x0 (x3.set (x4 : Int).toNat (⟨bt105.1, bt105.2.1, bt105.2.2.1, bt105.2.2.2⟩ : S36)) (wrap64 (x4 + 1))) else (none))) else (none)) else (some x3)
def laws_toPixPixS.f (k : Nat) (l0 : List (S94)) : Option ((List (S36))) := if 0 ≤ (l0.length : Int) then (if ((l0.length : Int) : Int).toNat ≤ 8796093022208 then (laws_toPixPixS.l0 k l0 (List.replicate ((l0.length : Int) : Int).toNat z36) 0) else (none)) else (none)
set_option maxHeartbeats 8000000 in
set_option maxRecDepth 100000 in
theorem laws_toPixPixS.calls (k : Nat) (A0 : Option Addr) (c0 : Nat) (l0 : List (S94)) (r : List (S36)) (w : World) (hr0 : Kd.C k94 w A0 l0.length l0) (hc0 : l0.length ≤ c0) (h : laws_toPixPixS.f k l0 = some r) :
  Calls Try.prog 46 #[.slice A0 l0.length c0] w fun e w' => ∃ v0_ : Value, e = .returned (v0_) ∧ Kd.R k36 36 w' w.heap.size (fun _ => True) v0_ r ∧ Below w.heap.size w w' := by
 have hu94 := Try.underlying94
 have hu36 := Try.underlying36
 have HR0 := yaa hr0
 have HC0 := yaa hc0
 clear hr0 hc0
 have HB := yaa (Below.refl w.heap.size w)
 have H : (if 0 ≤ (l0.length : Int) then (if ((l0.length : Int) : Int).toNat ≤ 8796093022208 then (laws_toPixPixS.l0 k l0 (List.replicate ((l0.length : Int) : Int).toNat z36) 0) else (none)) else (none)) = some r := h
 clear h
 by_cases c2 : 0 ≤ (l0.length : Int)
 ·
  rw [if_pos c2] at H
  have c1 := eq_true c2
  have c5 : decide (0 ≤ (l0.length : Int)) = true := decide_eq_true c2
  clear c2
  by_cases c3 : ((l0.length : Int) : Int).toNat ≤ 8796093022208
  ·
   rw [if_pos c3] at H
   have c8 := eq_true c3
   have d0 : decide (((l0.length : Int) : Int).toNat ≤ 8796093022208) = true := decide_eq_true c3
   clear c3
   obtain ⟨y101, hy101⟩ : ∃ y_ : List (S36), y_ = (List.replicate ((l0.length : Int) : Int).toNat z36) := ⟨_, rfl⟩
   replace H : (laws_toPixPixS.l0 k l0 y101 0) = some r := by first | (rw [hy101]; with_reducible exact H) | (have H2_ := (Option.bind_some _ _).symm.trans H; rw [hy101]; with_reducible exact H2_) | (have H2_ := (Option.bind_some _ _).symm.trans H; with_reducible exact H2_) | with_reducible exact H | (rw [hy101]; exact H) | exact H
   have Ny101 := yaa hy101
   clear hy101
   have H' := yaa H
   clear H
   go_enter Try.func46, Try.ntmps46
   go_wp2_with (first | ((with_reducible refine gate_dst (N := 7) rfl ?_); refine Kd.R_make k36 _ 36 rfl (N := 7) rfl 23 _ _ rfl (l0.length : Int) rfl rfl Try.underlying23 (.agg #[(.int .i64 0), (.int .i64 0), (.int .i64 0), (.int .i64 0)]) 32 info36 rfl (by decide) (by omega) z36 (ok := fun _ => True) (okp := fun _ => True) (k36_mkM _ _ _ z36 ) (fun _ hk => hk) trivial (of_decide_eq_true (by first | (with_reducible assumption) | assumption)) (Nat.le_trans (Nat.mul_le_mul_right _ (of_decide_eq_true (by first | (with_reducible assumption) | assumption) : (l0.length : Int).toNat ≤ 8796093022208)) (by omega)) (Below.refl _ _) (Nat.le_refl _) ?_; intro d1 w4 ho5 hb hg_ hnew_; clear hg_ hnew_; (first | rw [← Ny101.out] at ho5 | (simp only [Int.reduceToNat] at ho5; rw [← Ny101.out] at ho5)); have n0_ := yaa (Kd.R_lower ho5 (below_size (by repeat (first | (with_reducible first | exact HB.out | apply below_alloc | apply pw_below_drewN | apply below_drew1) | exact HB.out)))); have n1_ := yaa (below_step (by repeat (first | (with_reducible first | exact HB.out | apply below_alloc | apply pw_below_drewN | apply below_drew1) | exact HB.out)) hb); clear HB; have b6 := n0_; have HB := n1_; clear n0_ n1_; clear hb ho5))
   (try simp only [Act.put, List.setIfInBounds_toArray, List.set_cons_zero, List.set_cons_succ])
   go_loopg [4] k (fun kq v4 w' => ∃ (a2 : List (S36)) (a1 : Int), v4 = .int .i64 a1 ∧ Aside0 (laws_toPixPixS.l0 kq l0 a2 a1 = some r) ∧ Aside0 (kq ≤ k) ∧ Aside0 (Kd.R k36 36 w' w.heap.size (fun _ => True) d1 a2) ∧ Aside0 (Below w.heap.size w w'))
   case atStart => exact ⟨(y101), (0), (by first | rfl | (simp; done) | (simp [*]; done)), H', ⟨Nat.le_refl _⟩, ⟨by exact upR b6.out⟩, ⟨by repeat (first | (with_reducible first | exact HB.out | apply below_alloc | apply pw_below_drewN | apply below_drew1) | exact HB.out)⟩⟩
   case round =>
    clear H'
    try clear c2
    try clear c1
    try clear c5
    try clear p2
    try clear c3
    try clear c8
    try clear d0
    try clear c4
    obtain ⟨a2, a1, rfl, HA, HK1, a3, HB⟩ := hrel
    cases gk with
    | zero => exact absurd HA.out (by simp [laws_toPixPixS.l0])
    | succ k1 =>
     have H := HA.out
     clear HA
     simp only [laws_toPixPixS.l0] at H
     by_cases c6 : a1 < (l0.length : Int)
     ·
      rw [if_pos c6] at H
      have d2 : decide (a1 < (l0.length : Int)) = true := decide_eq_true c6
      clear c6
      by_cases c7 : 0 ≤ a1
      ·
       rw [if_pos c7] at H
       have d8 : decide (0 ≤ a1) = true := decide_eq_true c7
       clear c7
       replace H := Option.bind_eq_some_iff.mp H
       obtain ⟨⟨a8, a9, b0, b1⟩, A80, H⟩ := H
       replace H : (if a1 < (a2.length : Int) then (laws_toPixPixS.l0 k1 l0 (a2.set (a1 : Int).toNat (⟨a8, a9, b0, b1⟩ : S36)) (wrap64 (a1 + 1))) else (none)) = some r := H
       have A8 := yaa A80
       clear A80
       by_cases c9 : a1 < (a2.length : Int)
       ·
        rw [if_pos c9] at H
        have d9 : decide (a1 < (a2.length : Int)) = true := decide_eq_true c9
        clear c9
        obtain ⟨y109, hy109⟩ : ∃ y_ : List (S36), y_ = (a2.set (a1 : Int).toNat (⟨a8, a9, b0, b1⟩ : S36)) := ⟨_, rfl⟩
        replace H : (laws_toPixPixS.l0 k1 l0 y109 (wrap64 (a1 + 1))) = some r := by first | (rw [hy109]; with_reducible exact H) | (have H2_ := (Option.bind_some _ _).symm.trans H; rw [hy109]; with_reducible exact H2_) | (have H2_ := (Option.bind_some _ _).symm.trans H; with_reducible exact H2_) | with_reducible exact H | (rw [hy109]; exact H) | exact H
        have Ny109 := yaa hy109
        clear hy109
        have H' := yaa H
        clear H
        have p104 : 0 ≤ (a1 : Int) := of_decide_eq_true (by first | (with_reducible assumption) | assumption)
        have q104 : a1 < (l0.length : Int) := of_decide_eq_true (by first | (with_reducible assumption) | assumption)
        obtain ⟨ad104, d3, a4, a5, a6, a7⟩ := at_T94 HR0.out a1 p104 q104
        cases d3
        replace a4 := (HB.out.cell (World.block_lt_of_cell? w _ a4)).trans a4
        replace a5 := (HB.out.cell (World.block_lt_of_cell? w _ a5)).trans a5
        replace a6 := (HB.out.cell (World.block_lt_of_cell? w _ a6)).trans a6
        replace a7 := (HB.out.cell (World.block_lt_of_cell? w _ a7)).trans a7
        replace p104 := eq_true p104
        replace q104 := eq_true q104
        go_wp2_with (first | ((with_reducible refine gate_callee (f := 79) rfl ?_); refine goesL_ (some 20) rfl rfl Try.func79 (by kernel_rfl) rfl #[.agg #[.int .i64 ((rd_T94 l0 a1).f0), .int .i64 ((rd_T94 l0 a1).f1), .int .i64 ((rd_T94 l0 a1).f2), .int .i64 ((rd_T94 l0 a1).f3)]] rfl (by (try simp only [List.map_toArray, List.map_cons, List.map_nil]); first | done | rfl | (simp only [List.length_drop, List.length_take]; rfl)) ?_; (with_reducible refine (laws_toPixPix.calls ((rd_T94 l0 a1).f0) ((rd_T94 l0 a1).f1) ((rd_T94 l0 a1).f2) ((rd_T94 l0 a1).f3) a8 a9 b0 b1 _ A8.out).mono ?_); rintro e w11 ⟨rfl, hb⟩; refine ⟨_, rfl, ?_⟩; have n0_ := yaa (Kd.R_below (upR a3.out) hb); have n1_ := yaa (below_step (by repeat (first | (with_reducible first | exact HB.out | apply below_alloc | apply pw_below_drewN | apply below_drew1) | exact HB.out)) hb); clear a3; clear HB; have a3 := n0_; have HB := n1_; clear n0_ n1_; (try clear hb); (try clear hb2); (try clear hk); (try clear hi); have p10 : 0 ≤ (a1 : Int) := of_decide_eq_true (by first | (with_reducible assumption) | assumption); have q10 : (a1 : Int) < ((a2.length : Int) : Int) := of_decide_eq_true (by first | (with_reducible assumption) | assumption); obtain ⟨go10, b7, b8, b9, gl10, e0, HG10⟩ := Kd.R_form a3.out (by omega); (first | cases b8 | (injection b8 with ea_ en_ ec_; (first | subst ea_ | (injection ea_ with ea_; subst ea_)); subst ec_; clear en_)); have GB10 := yaa b9; have GG10 := yaa HG10; clear b9 gl10 HG10; obtain ⟨e1, hcl10, hM10, hcc10, hfr10⟩ := Kd.R_elem a3.out z36 (a1 : Int) p10 q10; obtain rfl := k36_openM hM10; have d4 : w11.cell? ⟨go10, (a1 : Int).toNat * 4, none⟩ = some (.int .i64 ((rd_T36 a2 a1).f0)) := hcc10 0 _ rfl; have d5 : w11.cell? ⟨go10, (a1 : Int).toNat * 4 + 1, none⟩ = some (.int .i64 ((rd_T36 a2 a1).f1)) := hcc10 1 _ rfl; have d6 : w11.cell? ⟨go10, (a1 : Int).toNat * 4 + 2, none⟩ = some (.int .i64 ((rd_T36 a2 a1).f2)) := hcc10 2 _ rfl; have d7 : w11.cell? ⟨go10, (a1 : Int).toNat * 4 + 3, none⟩ = some (.int .i64 ((rd_T36 a2 a1).f3)) := hcc10 3 _ rfl; have hf10_0 : w11.frozen? ⟨go10, (a1 : Int).toNat * 4, none⟩ = false := hfr10 0; have hf10_1 : w11.frozen? ⟨go10, (a1 : Int).toNat * 4 + 1, none⟩ = false := hfr10 1; have hf10_2 : w11.frozen? ⟨go10, (a1 : Int).toNat * 4 + 2, none⟩ = false := hfr10 2; have hf10_3 : w11.frozen? ⟨go10, (a1 : Int).toNat * 4 + 3, none⟩ = false := hfr10 3; clear hcl10 hcc10 hfr10 hM10; replace p10 := eq_true p10; replace q10 := eq_true q10; have HX12 := yaa (show Kd.R k36 36 w11 w.heap.size (fun _ => True) (.slice (some ⟨go10, 0, none⟩) a2.length b7) a2 from (upR a3.out)); obtain ⟨e2, hcl12, hM12, hcc12, hfr12⟩ := Kd.R_elem HX12.out z36 (a1 : Int) (of_decide_eq_true (by first | (with_reducible assumption) | assumption)) (by have h_ : (a1 : Int) < ((a2.length : Int) : Int) := of_decide_eq_true (by first | (with_reducible assumption) | assumption); first | exact h_ | (have e_ := (Kd.R_reads' a3.out).1; omega) | simpa using h_); obtain rfl := k36_openM hM12; have HP12 := Kd.R_seg HX12.out (a1 : Int) (of_decide_eq_true (by first | (with_reducible assumption) | assumption)) (by have h_ : (a1 : Int) < ((a2.length : Int) : Int) := of_decide_eq_true (by first | (with_reducible assumption) | assumption); first | exact h_ | (have e_ := (Kd.R_reads' a3.out).1; omega) | simpa using h_) (seg := [.int .i64 a8, .int .i64 a9, .int .i64 b0, .int .i64 b1]) (j := 0) hcl12 hcc12 (show 4 ≤ 4 from by decide) (x' := (⟨a8, a9, b0, b1⟩ : S36)) (k36_mkM _ _ _ (⟨a8, a9, b0, b1⟩ : S36) ) (fun _ hk => hk); have b2 := hcc12 0 _ rfl; (try simp only [show (k36).sz = 4 from rfl, Nat.mul_one, Nat.add_zero] at b2); have hf12_0 := hfr12 0; (try simp only [show (k36).sz = 4 from rfl, Nat.mul_one, Nat.add_zero] at hf12_0); have b3 := hcc12 1 _ rfl; (try simp only [show (k36).sz = 4 from rfl, Nat.mul_one, Nat.add_zero] at b3); have hf12_1 := hfr12 1; (try simp only [show (k36).sz = 4 from rfl, Nat.mul_one, Nat.add_zero] at hf12_1); have b4 := hcc12 2 _ rfl; (try simp only [show (k36).sz = 4 from rfl, Nat.mul_one, Nat.add_zero] at b4); have hf12_2 := hfr12 2; (try simp only [show (k36).sz = 4 from rfl, Nat.mul_one, Nat.add_zero] at hf12_2); have b5 := hcc12 3 _ rfl; (try simp only [show (k36).sz = 4 from rfl, Nat.mul_one, Nat.add_zero] at b5); have hf12_3 := hfr12 3; (try simp only [show (k36).sz = 4 from rfl, Nat.mul_one, Nat.add_zero] at hf12_3); clear hcl12 hcc12 hfr12 hM12) | ((with_reducible refine gate_store (t := 36) (p := 21) rfl ?_); refine store_event (t := 36) (p := 21) (v := ?vo_w13) (w1 := ((((w11.setCell ⟨go10, (a1 : Int).toNat * 4, none⟩ (.int .i64 a8)).setCell ⟨go10, (a1 : Int).toNat * 4 + 1, none⟩ (.int .i64 a9)).setCell ⟨go10, (a1 : Int).toNat * 4 + 2, none⟩ (.int .i64 b0)).setCell ⟨go10, (a1 : Int).toNat * 4 + 3, none⟩ (.int .i64 b1))) ?hg ?ho ?hn ?hr ?_; (case ho => rfl); (case hg => rfl); (case hn => rfl); (case hr => first | (go_simp; done) | (go_simp; rfl)); intro w13 hw; have hg : w11.grownBy w13 (some go10) := (by rw [hw]; exact HP12.2); have hp_ : Kd.R k36 36 w13 w.heap.size (fun _ => True) (.slice (some ⟨go10, 0, none⟩) a2.length b7) y109 := (by rw [hw, Ny109.out]; exact HP12.1); clear HP12; have n0_ := yaa (hp_); have n1_ := yaa ((by rw [hw]; exact below_set (below_set (below_set (below_set (HB.out) GB10.out) GB10.out) GB10.out) GB10.out : Below w.heap.size w w13)); clear a3; clear HB; have a3 := n0_; have HB := n1_; clear n0_ n1_; clear hg hw hp_))
        go_roundg k1
        case measure => have := HK1.out; omega
        case rel => exact ⟨(y109), (wrap64 (a1 + 1)), (by first | rfl | (simp; done) | (simp [*]; done)), H', ⟨by have := HK1.out; omega⟩, ⟨by exact upR a3.out⟩, ⟨by repeat (first | (with_reducible first | exact HB.out | apply below_alloc | apply pw_below_drewN | apply below_drew1) | exact HB.out)⟩⟩
       ·
        rw [if_neg c9] at H
        exact absurd H (by simp)
      ·
       rw [if_neg c7] at H
       exact absurd H (by simp)
     ·
      rw [if_neg c6] at H
      have d2 : decide (a1 < (l0.length : Int)) = false := decide_eq_false c6
      clear c6
      obtain rfl := Option.some.inj H
      go_wp2
      go_ret
      exact ⟨_, by first | rfl | (simp [errW_none, errW_some] <;> rfl) | (simp [*, errW_none, errW_some] <;> rfl), by exact upR a3.out, by repeat (first | (with_reducible first | exact HB.out | apply below_alloc | apply pw_below_drewN | apply below_drew1) | exact HB.out)⟩
  ·
   rw [if_neg c3] at H
   exact absurd H (by simp)
 ·
  rw [if_neg c2] at H
  exact absurd H (by simp)

end Go.Proofs.Ytoifpgkfpdeglaa.X

namespace Go.Proofs.Ytoifpgkfpdeglaa.X
open Go.RowKit Go.Proofs.YtoifpgkfpdeglaaW.PrintWords Go.Proofs.YtoifpgkfpdeglaaW.PrintLast Go.Proofs.YtoifpgkfpdeglaaW.PrintMore
attribute [local go_sem] max2_int min2_int max_two min_two max_three min_three max_four min_four
set_option linter.unusedVariables false
set_option linter.unusedSimpArgs false

open Go.Proofs.YtoifpgkfpdeglaaW.PrintWords.Aside0 renaming mk → yaa
open Go.Proofs.YtoifpgkfpdeglaaW.PrintWords renaming pw_below_drewN → yab, below_alloc → yac, below_drew1 → yad

/-! ### laws_toRasRaster: function 21 -/
def laws_toRasRaster.f (k : Nat) (a0_0 : Int) (a0_1 : Int) (l0_2 : List (S94)) : Option (Int × Int × (List (S36))) := (laws_toPixPixS.f k l0_2).bind fun t104 => (some (a0_0, a0_1, t104))
set_option maxHeartbeats 8000000 in
set_option maxRecDepth 100000 in
theorem laws_toRasRaster.calls (k : Nat) (a0_0 : Int) (a0_1 : Int) (A0_2 : Option Addr) (c0_2 : Nat) (l0_2 : List (S94)) (r1 : Int) (r2 : Int) (r3 : List (S36)) (w : World) (hr0_2 : Kd.C k94 w A0_2 l0_2.length l0_2) (hc0_2 : l0_2.length ≤ c0_2) (h : laws_toRasRaster.f k a0_0 a0_1 l0_2 = some (r1, r2, r3)) :
  Calls Try.prog 21 #[.agg #[.int .i64 a0_0, .int .i64 a0_1, .slice A0_2 l0_2.length c0_2]] w fun e w' => ∃ v2_ : Value, e = .returned (.agg #[.int .i64 r1, .int .i64 r2, v2_]) ∧ Kd.R k36 36 w' w.heap.size (fun _ => True) v2_ r3 ∧ Below w.heap.size w w' := by
 have hu44 := Try.underlying44
 have hu25 := Try.underlying25
 have HR0_2 := yaa hr0_2
 have HC0_2 := yaa hc0_2
 clear hr0_2 hc0_2
 have HB := yaa (Below.refl w.heap.size w)
 have H : ((laws_toPixPixS.f k l0_2).bind fun b1 => (some (a0_0, a0_1, b1))) = some (r1, r2, r3) := h
 clear h
 replace H := Option.bind_eq_some_iff.mp H
 obtain ⟨b1, A20, H⟩ := H
 replace H : (some (a0_0, a0_1, b1)) = some (r1, r2, r3) := H
 have A2 := yaa A20
 clear A20
 simp only [Option.some.injEq, Prod.mk.injEq] at H
 obtain ⟨rfl, rfl, rfl⟩ := H
 go_enter Try.func21, Try.ntmps21
 go_wp2_with (first | ((with_reducible refine gate_dst (N := 1) rfl ?_); refine box_event ?hg (N := 1) ?hd (cs := #[.int .i64 a0_0, .int .i64 a0_1, .slice A0_2 l0_2.length c0_2]) (t := 44) ?hr ?_; (case hd => rfl); (case hg => rfl); (case hr => first | (go_simp; done) | (go_simp; rfl)); intro a5 hg w3 hbox hb; have n0_ := yaa (below_step (by repeat (first | (with_reducible first | exact HB.out | apply yac | apply yab | apply yad) | exact HB.out)) hb); have n1_ := yaa (hbox); have n2_ := yaa ((by rw [hg]; exact (below_size (by repeat (first | (with_reducible first | exact HB.out | apply yac | apply yab | apply yad) | exact HB.out))) : w.heap.size ≤ a5)); have n3_ := yaa ((by rw [hg]; exact (below_size (by repeat (first | (with_reducible first | exact HB.out | apply yac | apply yab | apply yad) | exact HB.out))) : w.heap.size ≤ a5)); clear HB; have HB := n0_; have a3 := n1_; have e4 := n2_; have e5 := n3_; clear n0_ n1_ n2_ n3_; clear hb hbox hg) | ((with_reducible refine gate_dst (N := 2) rfl ?_); refine box_event ?hg (N := 2) ?hd (cs := #[.int .i64 0, .int .i64 0, .slice none 0 0]) (t := 25) ?hr ?_; (case hd => rfl); (case hg => rfl); (case hr => first | (go_simp; done) | (go_simp; rfl)); intro a4 hg w4 hbox hb; have n0_ := yaa (blk_below (g := a5) (o := .cells #[.int .i64 a0_0, .int .i64 a0_1, .slice A0_2 l0_2.length c0_2] 44 (0, 0)) (upB a3.out) hb); have n1_ := yaa (below_step (by repeat (first | (with_reducible first | exact HB.out | apply yac | apply yab | apply yad | refine below_set ?_ (Aside0.out ‹_›)) | exact HB.out)) hb); have n2_ := yaa (hbox); have n3_ := yaa ((by rw [hg]; exact (below_size (by repeat (first | (with_reducible first | exact HB.out | apply yac | apply yab | apply yad | refine below_set ?_ (Aside0.out ‹_›)) | exact HB.out))) : w.heap.size ≤ a4)); have n4_ := yaa ((by rw [hg]; exact (below_size (by repeat (first | (with_reducible first | exact HB.out | apply yac | apply yab | apply yad | refine below_set ?_ (Aside0.out ‹_›)) | exact HB.out))) : w.heap.size ≤ a4)); have n5_ := yaa ((by rw [hg]; exact Nat.ne_of_lt (blk_lt (g := a5) (o := .cells #[.int .i64 a0_0, .int .i64 a0_1, .slice A0_2 l0_2.length c0_2] 44 (0, 0)) (upB a3.out)) : a5 ≠ a4)); have n6_ := yaa ((by rw [hg]; exact Nat.ne_of_gt (blk_lt (g := a5) (o := .cells #[.int .i64 a0_0, .int .i64 a0_1, .slice A0_2 l0_2.length c0_2] 44 (0, 0)) (upB a3.out)) : a4 ≠ a5)); clear a3; clear HB; have a3 := n0_; have HB := n1_; have a6 := n2_; have e6 := n3_; have e7 := n4_; have b2 := n5_; have b3 := n6_; clear n0_ n1_ n2_ n3_ n4_ n5_ n6_; clear hb hbox hg) | ((with_reducible refine gate_dst (N := 3) rfl ?_); refine box_event ?hg (N := 3) ?hd (cs := #[.int .i64 0, .int .i64 0, .slice none 0 0]) (t := 25) ?hr ?_; (case hd => rfl); (case hg => rfl); (case hr => first | (go_simp; done) | (go_simp; rfl)); intro a8 hg w5 hbox hb; have n0_ := yaa (blk_below (g := a5) (o := .cells #[.int .i64 a0_0, .int .i64 a0_1, .slice A0_2 l0_2.length c0_2] 44 (0, 0)) (upB a3.out) hb); have n1_ := yaa (blk_below (g := a4) (o := .cells #[.int .i64 0, .int .i64 0, .slice none 0 0] 25 (0, 0)) (upB a6.out) hb); have n2_ := yaa (below_step (by repeat (first | (with_reducible first | exact HB.out | apply yac | apply yab | apply yad | refine below_set ?_ (Aside0.out ‹_›)) | exact HB.out)) hb); have n3_ := yaa (hbox); have n4_ := yaa ((by rw [hg]; exact (below_size (by repeat (first | (with_reducible first | exact HB.out | apply yac | apply yab | apply yad | refine below_set ?_ (Aside0.out ‹_›)) | exact HB.out))) : w.heap.size ≤ a8)); have n5_ := yaa ((by rw [hg]; exact (below_size (by repeat (first | (with_reducible first | exact HB.out | apply yac | apply yab | apply yad | refine below_set ?_ (Aside0.out ‹_›)) | exact HB.out))) : w.heap.size ≤ a8)); have n6_ := yaa ((by rw [hg]; exact Nat.ne_of_lt (blk_lt (g := a5) (o := .cells #[.int .i64 a0_0, .int .i64 a0_1, .slice A0_2 l0_2.length c0_2] 44 (0, 0)) (upB a3.out)) : a5 ≠ a8)); have n7_ := yaa ((by rw [hg]; exact Nat.ne_of_gt (blk_lt (g := a5) (o := .cells #[.int .i64 a0_0, .int .i64 a0_1, .slice A0_2 l0_2.length c0_2] 44 (0, 0)) (upB a3.out)) : a8 ≠ a5)); have n8_ := yaa ((by rw [hg]; exact Nat.ne_of_lt (blk_lt (g := a4) (o := .cells #[.int .i64 0, .int .i64 0, .slice none 0 0] 25 (0, 0)) (upB a6.out)) : a4 ≠ a8)); have n9_ := yaa ((by rw [hg]; exact Nat.ne_of_gt (blk_lt (g := a4) (o := .cells #[.int .i64 0, .int .i64 0, .slice none 0 0] 25 (0, 0)) (upB a6.out)) : a8 ≠ a4)); clear a3; clear a6; clear HB; have a3 := n0_; have a6 := n1_; have HB := n2_; have a7 := n3_; have e8 := n4_; have e9 := n5_; have b0 := n6_; have b4 := n7_; have a9 := n8_; have b5 := n9_; clear n0_ n1_ n2_ n3_ n4_ n5_ n6_ n7_ n8_ n9_; clear hb hbox hg; have f0 := b2.out; have f1 := b3.out; have f2 := b0.out; have f3 := b4.out; have d7 : w5.cell? ⟨a5, 0, none⟩ = some (.int .i64 a0_0) := (blk_cell a3.out 0).trans rfl; have d8 : w5.cell? ⟨a5, 1, none⟩ = some (.int .i64 a0_1) := (blk_cell a3.out 1).trans rfl; have d9 : w5.cell? ⟨a5, 2, none⟩ = some (.slice A0_2 l0_2.length c0_2) := (blk_cell a3.out 2).trans rfl; have e0 := blk_frozen a3.out 0; have e1 := blk_frozen a3.out 1; have e2 := blk_frozen a3.out 2; have f4 := b5.out; have f5 := a9.out; have b9 : w5.cell? ⟨a8, 0, none⟩ = some (.int .i64 0) := (blk_cell a7.out 0).trans rfl; have c0 : w5.cell? ⟨a8, 1, none⟩ = some (.int .i64 0) := (blk_cell a7.out 1).trans rfl; have c1 : w5.cell? ⟨a8, 2, none⟩ = some (.slice none 0 0) := (blk_cell a7.out 2).trans rfl; have c2 := blk_frozen a7.out 0; have c3 := blk_frozen a7.out 1; have c4 := blk_frozen a7.out 2) | ((with_reducible refine gate_callee (f := 46) rfl ?_); refine goesL_ (some 12) rfl rfl Try.func46 (by kernel_rfl) rfl #[.slice A0_2 l0_2.length c0_2] rfl (by (try simp only [List.map_toArray, List.map_cons, List.map_nil]); first | done | rfl | (simp only [List.length_drop, List.length_take]; rfl)) ?_; (with_reducible refine (laws_toPixPixS.calls k _ _ l0_2 b1 _ ?side1 ?side2 A2.out).mono ?_); (case side1 => exact Kd.C_below HR0_2.out (by repeat (first | (with_reducible first | exact HB.out | apply yac | apply yab | apply yad | refine below_set ?_ (Aside0.out ‹_›)) | exact HB.out))); (case side2 => exact HC0_2.out); rintro e w11 ⟨f6, rfl, ho0, hb⟩; refine ⟨_, rfl, ?_⟩; have n0_ := yaa (Kd.R_lower ho0 (below_size (by repeat (first | (with_reducible first | exact HB.out | apply yac | apply yab | apply yad | refine below_set ?_ (Aside0.out ‹_›)) | exact HB.out)))); have n1_ := yaa (blk_below (g := a5) (o := .cells #[.int .i64 a0_0, .int .i64 a0_1, .slice A0_2 l0_2.length c0_2] 44 (0, 0)) (by (with_reducible repeat (first | refine blk_drewN ?_ _ | refine blk_drew ?_ | refine blk_alloc ?_ _)); refine blk_far ?_ b0.out _; (with_reducible repeat (first | refine blk_drewN ?_ _ | refine blk_drew ?_ | refine blk_alloc ?_ _)); refine blk_far ?_ b0.out _; exact upB a3.out) hb); have n2_ := yaa (blk_below (g := a4) (o := .cells #[.int .i64 0, .int .i64 0, .slice none 0 0] 25 (0, 0)) (by (with_reducible repeat (first | refine blk_drewN ?_ _ | refine blk_drew ?_ | refine blk_alloc ?_ _)); refine blk_far ?_ a9.out _; (with_reducible repeat (first | refine blk_drewN ?_ _ | refine blk_drew ?_ | refine blk_alloc ?_ _)); refine blk_far ?_ a9.out _; exact upB a6.out) hb); have n3_ := yaa (blk_below (g := a8) (o := .cells #[.int .i64 a0_0, .int .i64 a0_1, .slice none 0 0] 25 (0, 0)) (by (with_reducible repeat (first | refine blk_drewN ?_ _ | refine blk_drew ?_ | refine blk_alloc ?_ _)); refine blk_put (cs := #[.int .i64 a0_0, .int .i64 0, .slice none 0 0]) ?_ 1 _ rfl; (with_reducible repeat (first | refine blk_drewN ?_ _ | refine blk_drew ?_ | refine blk_alloc ?_ _)); refine blk_put (cs := #[.int .i64 0, .int .i64 0, .slice none 0 0]) ?_ 0 _ rfl; exact upB a7.out) hb); have n4_ := yaa (below_step (by repeat (first | (with_reducible first | exact HB.out | apply yac | apply yab | apply yad | refine below_set ?_ (Aside0.out ‹_›)) | exact HB.out)) hb); clear a3; clear a6; clear a7; clear HB; have b6 := n0_; have a3 := n1_; have a6 := n2_; have a7 := n3_; have HB := n4_; clear n0_ n1_ n2_ n3_ n4_; (try clear hb); (try clear hb2); (try clear hk); (try clear hi); (try clear ho0); obtain ⟨b7, b8, e3⟩ := Kd.R_slice b6.out; subst e3; have c5 : w11.cell? ⟨a8, 0, none⟩ = some (.int .i64 a0_0) := (blk_cell a7.out 0).trans rfl; have c6 : w11.cell? ⟨a8, 1, none⟩ = some (.int .i64 a0_1) := (blk_cell a7.out 1).trans rfl; have c7 : w11.cell? ⟨a8, 2, none⟩ = some (.slice none 0 0) := (blk_cell a7.out 2).trans rfl; have c8 := blk_frozen a7.out 0; have c9 := blk_frozen a7.out 1; have d0 := blk_frozen a7.out 2; have d1 : w11.cell? ⟨a4, 0, none⟩ = some (.int .i64 0) := (blk_cell a6.out 0).trans rfl; have d2 : w11.cell? ⟨a4, 1, none⟩ = some (.int .i64 0) := (blk_cell a6.out 1).trans rfl; have d3 : w11.cell? ⟨a4, 2, none⟩ = some (.slice none 0 0) := (blk_cell a6.out 2).trans rfl; have d4 := blk_frozen a6.out 0; have d5 := blk_frozen a6.out 1; have d6 := blk_frozen a6.out 2))
 refine bodyPost_ret (results_cell_row rfl _ _ a4 25 #[.int .i64 a0_0, .int .i64 a0_1, .slice b7 b1.length b8] (0, 0) _ rfl (by (with_reducible repeat (first | refine blk_drewN ?_ _ | refine blk_drew ?_ | refine blk_alloc ?_ _)); refine blk_put (cs := #[.int .i64 a0_0, .int .i64 a0_1, .slice none 0 0]) ?_ 2 _ rfl; (with_reducible repeat (first | refine blk_drewN ?_ _ | refine blk_drew ?_ | refine blk_alloc ?_ _)); refine blk_put (cs := #[.int .i64 a0_0, .int .i64 0, .slice none 0 0]) ?_ 1 _ rfl; (with_reducible repeat (first | refine blk_drewN ?_ _ | refine blk_drew ?_ | refine blk_alloc ?_ _)); refine blk_put (cs := #[.int .i64 0, .int .i64 0, .slice none 0 0]) ?_ 0 _ rfl; (with_reducible repeat (first | refine blk_drewN ?_ _ | refine blk_drew ?_ | refine blk_alloc ?_ _)); refine blk_far ?_ a9.out _; exact upB a6.out) Try.underlying25 rfl (by kernel_rfl)) rfl ?_
 exact ⟨_, by first | rfl | (simp [errW_none, errW_some] <;> rfl) | (simp [*, errW_none, errW_some] <;> rfl), by (with_reducible repeat (first | apply Kd.R_alloc | apply Kd.R_drewN | apply Kd.R_drew)); exact Kd.R_mono (Kd.R_far (p := ⟨a4, 2, none⟩) (Kd.R_far (p := ⟨a4, 1, none⟩) (Kd.R_far (p := ⟨a4, 0, none⟩) (Kd.R_far (p := ⟨a8, 2, none⟩) (Kd.R_types (Kd.R_types b6.out a7.out (by decide)) a6.out (by decide)) (fun _ hk => hk.1.2) (.slice b7 b1.length b8)) (fun _ hk => hk.2) (.int .i64 a0_0)) (fun _ hk => hk.2) (.int .i64 a0_1)) (fun _ hk => hk.2) (.slice b7 b1.length b8)) (fun _ hk => trivial), by repeat (first | (with_reducible first | exact HB.out | apply yac | apply yab | apply yad | refine below_set ?_ (Aside0.out ‹_›)) | exact HB.out)⟩

end Go.Proofs.Ytoifpgkfpdeglaa.X

namespace Go.Proofs.Ytoifpgkfpdeglaa.X
open Go.RowKit Go.Proofs.YtoifpgkfpdeglaaW.PrintWords Go.Proofs.YtoifpgkfpdeglaaW.PrintLast Go.Proofs.YtoifpgkfpdeglaaW.PrintMore
attribute [local go_sem] max2_int min2_int max_two min_two max_three min_three max_four min_four
set_option linter.unusedVariables false
set_option linter.unusedSimpArgs false

open Go.Proofs.YtoifpgkfpdeglaaW.PrintWords.Aside0 renaming mk → yaa
open Go.Proofs.YtoifpgkfpdeglaaW.PrintWords renaming pw_below_drewN → yab, blk_frozen → yac

/-! ### laws_toOpOp: function 22 -/
def laws_toOpOp.f (a0_0 : Int) (a0_1 : Int) (a0_2 : Int) (a0_3 : Int) (a0_4 : Int) : Option (Int × Int × Int × Int × Int) := some (a0_0, a0_1, a0_2, a0_3, a0_4)
set_option maxHeartbeats 8000000 in
set_option maxRecDepth 100000 in
theorem laws_toOpOp.calls (a0_0 : Int) (a0_1 : Int) (a0_2 : Int) (a0_3 : Int) (a0_4 : Int) (r1 : Int) (r2 : Int) (r3 : Int) (r4 : Int) (r5 : Int) (w : World) (h : laws_toOpOp.f a0_0 a0_1 a0_2 a0_3 a0_4 = some (r1, r2, r3, r4, r5)) :
  Calls Try.prog 22 #[.agg #[.int .i64 a0_0, .int .i64 a0_1, .int .i64 a0_2, .int .i64 a0_3, .int .i64 a0_4]] w fun e w' => e = .returned (.agg #[.int .i64 r1, .int .i64 r2, .int .i64 r3, .int .i64 r4, .int .i64 r5]) ∧ Below w.heap.size w w' := by
 have hu45 := Try.underlying45
 have hu27 := Try.underlying27
 have HB := yaa (Below.refl w.heap.size w)
 have H : (some (a0_0, a0_1, a0_2, a0_3, a0_4)) = some (r1, r2, r3, r4, r5) := h
 clear h
 simp only [Option.some.injEq, Prod.mk.injEq] at H
 obtain ⟨rfl, rfl, rfl, rfl, rfl⟩ := H
 go_enter Try.func22, Try.ntmps22
 go_wp2_with (first | ((with_reducible refine gate_dst (N := 1) rfl ?_); refine box_event ?hg (N := 1) ?hd (cs := #[.int .i64 a0_0, .int .i64 a0_1, .int .i64 a0_2, .int .i64 a0_3, .int .i64 a0_4]) (t := 45) ?hr ?_; (case hd => rfl); (case hg => rfl); (case hr => first | (go_simp; done) | (go_simp; rfl)); intro a1 hg w2 hbox hb; have n0_ := yaa (below_step (by repeat (first | (with_reducible first | exact HB.out | apply below_alloc | apply yab | apply below_drew1) | exact HB.out)) hb); have n1_ := yaa (hbox); have n2_ := yaa ((by rw [hg]; exact (below_size (by repeat (first | (with_reducible first | exact HB.out | apply below_alloc | apply yab | apply below_drew1) | exact HB.out))) : w.heap.size ≤ a1)); have n3_ := yaa ((by rw [hg]; exact (below_size (by repeat (first | (with_reducible first | exact HB.out | apply below_alloc | apply yab | apply below_drew1) | exact HB.out))) : w.heap.size ≤ a1)); clear HB; have HB := n0_; have a0 := n1_; have e2 := n2_; have e3 := n3_; clear n0_ n1_ n2_ n3_; clear hb hbox hg) | ((with_reducible refine gate_dst (N := 2) rfl ?_); refine box_event ?hg (N := 2) ?hd (cs := #[.int .i64 0, .int .i64 0, .int .i64 0, .int .i64 0, .int .i64 0]) (t := 27) ?hr ?_; (case hd => rfl); (case hg => rfl); (case hr => first | (go_simp; done) | (go_simp; rfl)); intro a4 hg w3 hbox hb; have n0_ := yaa (blk_below (g := a1) (o := .cells #[.int .i64 a0_0, .int .i64 a0_1, .int .i64 a0_2, .int .i64 a0_3, .int .i64 a0_4] 45 (0, 0)) (upB a0.out) hb); have n1_ := yaa (below_step (by repeat (first | (with_reducible first | exact HB.out | apply below_alloc | apply yab | apply below_drew1 | refine below_set ?_ (Aside0.out ‹_›)) | exact HB.out)) hb); have n2_ := yaa (hbox); have n3_ := yaa ((by rw [hg]; exact (below_size (by repeat (first | (with_reducible first | exact HB.out | apply below_alloc | apply yab | apply below_drew1 | refine below_set ?_ (Aside0.out ‹_›)) | exact HB.out))) : w.heap.size ≤ a4)); have n4_ := yaa ((by rw [hg]; exact (below_size (by repeat (first | (with_reducible first | exact HB.out | apply below_alloc | apply yab | apply below_drew1 | refine below_set ?_ (Aside0.out ‹_›)) | exact HB.out))) : w.heap.size ≤ a4)); have n5_ := yaa ((by rw [hg]; exact Nat.ne_of_lt (blk_lt (g := a1) (o := .cells #[.int .i64 a0_0, .int .i64 a0_1, .int .i64 a0_2, .int .i64 a0_3, .int .i64 a0_4] 45 (0, 0)) (upB a0.out)) : a1 ≠ a4)); have n6_ := yaa ((by rw [hg]; exact Nat.ne_of_gt (blk_lt (g := a1) (o := .cells #[.int .i64 a0_0, .int .i64 a0_1, .int .i64 a0_2, .int .i64 a0_3, .int .i64 a0_4] 45 (0, 0)) (upB a0.out)) : a4 ≠ a1)); clear a0; clear HB; have a0 := n0_; have HB := n1_; have a2 := n2_; have e4 := n3_; have e5 := n4_; have a7 := n5_; have a8 := n6_; clear n0_ n1_ n2_ n3_ n4_ n5_ n6_; clear hb hbox hg) | ((with_reducible refine gate_dst (N := 3) rfl ?_); refine box_event ?hg (N := 3) ?hd (cs := #[.int .i64 0, .int .i64 0, .int .i64 0, .int .i64 0, .int .i64 0]) (t := 27) ?hr ?_; (case hd => rfl); (case hg => rfl); (case hr => first | (go_simp; done) | (go_simp; rfl)); intro a5 hg w4 hbox hb; have n0_ := yaa (blk_below (g := a1) (o := .cells #[.int .i64 a0_0, .int .i64 a0_1, .int .i64 a0_2, .int .i64 a0_3, .int .i64 a0_4] 45 (0, 0)) (upB a0.out) hb); have n1_ := yaa (blk_below (g := a4) (o := .cells #[.int .i64 0, .int .i64 0, .int .i64 0, .int .i64 0, .int .i64 0] 27 (0, 0)) (upB a2.out) hb); have n2_ := yaa (below_step (by repeat (first | (with_reducible first | exact HB.out | apply below_alloc | apply yab | apply below_drew1 | refine below_set ?_ (Aside0.out ‹_›)) | exact HB.out)) hb); have n3_ := yaa (hbox); have n4_ := yaa ((by rw [hg]; exact (below_size (by repeat (first | (with_reducible first | exact HB.out | apply below_alloc | apply yab | apply below_drew1 | refine below_set ?_ (Aside0.out ‹_›)) | exact HB.out))) : w.heap.size ≤ a5)); have n5_ := yaa ((by rw [hg]; exact (below_size (by repeat (first | (with_reducible first | exact HB.out | apply below_alloc | apply yab | apply below_drew1 | refine below_set ?_ (Aside0.out ‹_›)) | exact HB.out))) : w.heap.size ≤ a5)); have n6_ := yaa ((by rw [hg]; exact Nat.ne_of_lt (blk_lt (g := a1) (o := .cells #[.int .i64 a0_0, .int .i64 a0_1, .int .i64 a0_2, .int .i64 a0_3, .int .i64 a0_4] 45 (0, 0)) (upB a0.out)) : a1 ≠ a5)); have n7_ := yaa ((by rw [hg]; exact Nat.ne_of_gt (blk_lt (g := a1) (o := .cells #[.int .i64 a0_0, .int .i64 a0_1, .int .i64 a0_2, .int .i64 a0_3, .int .i64 a0_4] 45 (0, 0)) (upB a0.out)) : a5 ≠ a1)); have n8_ := yaa ((by rw [hg]; exact Nat.ne_of_lt (blk_lt (g := a4) (o := .cells #[.int .i64 0, .int .i64 0, .int .i64 0, .int .i64 0, .int .i64 0] 27 (0, 0)) (upB a2.out)) : a4 ≠ a5)); have n9_ := yaa ((by rw [hg]; exact Nat.ne_of_gt (blk_lt (g := a4) (o := .cells #[.int .i64 0, .int .i64 0, .int .i64 0, .int .i64 0, .int .i64 0] 27 (0, 0)) (upB a2.out)) : a5 ≠ a4)); clear a0; clear a2; clear HB; have a0 := n0_; have a2 := n1_; have HB := n2_; have a6 := n3_; have e6 := n4_; have e7 := n5_; have a9 := n6_; have b0 := n7_; have a3 := n8_; have b1 := n9_; clear n0_ n1_ n2_ n3_ n4_ n5_ n6_ n7_ n8_ n9_; clear hb hbox hg; have e8 := a7.out; have e9 := a8.out; have f0 := a9.out; have f1 := b0.out; have c2 : w4.cell? ⟨a1, 0, none⟩ = some (.int .i64 a0_0) := (blk_cell a0.out 0).trans rfl; have c3 : w4.cell? ⟨a1, 1, none⟩ = some (.int .i64 a0_1) := (blk_cell a0.out 1).trans rfl; have c4 : w4.cell? ⟨a1, 2, none⟩ = some (.int .i64 a0_2) := (blk_cell a0.out 2).trans rfl; have c5 : w4.cell? ⟨a1, 3, none⟩ = some (.int .i64 a0_3) := (blk_cell a0.out 3).trans rfl; have c6 : w4.cell? ⟨a1, 4, none⟩ = some (.int .i64 a0_4) := (blk_cell a0.out 4).trans rfl; have c7 := yac a0.out 0; have c8 := yac a0.out 1; have c9 := yac a0.out 2; have d0 := yac a0.out 3; have d1 := yac a0.out 4; have f2 := b1.out; have f3 := a3.out; have d2 : w4.cell? ⟨a5, 0, none⟩ = some (.int .i64 0) := (blk_cell a6.out 0).trans rfl; have d3 : w4.cell? ⟨a5, 1, none⟩ = some (.int .i64 0) := (blk_cell a6.out 1).trans rfl; have d4 : w4.cell? ⟨a5, 2, none⟩ = some (.int .i64 0) := (blk_cell a6.out 2).trans rfl; have d5 : w4.cell? ⟨a5, 3, none⟩ = some (.int .i64 0) := (blk_cell a6.out 3).trans rfl; have d6 : w4.cell? ⟨a5, 4, none⟩ = some (.int .i64 0) := (blk_cell a6.out 4).trans rfl; have d7 := yac a6.out 0; have d8 := yac a6.out 1; have d9 := yac a6.out 2; have e0 := yac a6.out 3; have e1 := yac a6.out 4; have b2 : w4.cell? ⟨a4, 0, none⟩ = some (.int .i64 0) := (blk_cell a2.out 0).trans rfl; have b3 : w4.cell? ⟨a4, 1, none⟩ = some (.int .i64 0) := (blk_cell a2.out 1).trans rfl; have b4 : w4.cell? ⟨a4, 2, none⟩ = some (.int .i64 0) := (blk_cell a2.out 2).trans rfl; have b5 : w4.cell? ⟨a4, 3, none⟩ = some (.int .i64 0) := (blk_cell a2.out 3).trans rfl; have b6 : w4.cell? ⟨a4, 4, none⟩ = some (.int .i64 0) := (blk_cell a2.out 4).trans rfl; have b7 := yac a2.out 0; have b8 := yac a2.out 1; have b9 := yac a2.out 2; have c0 := yac a2.out 3; have c1 := yac a2.out 4))
 refine bodyPost_ret (results_cell_row rfl _ _ a4 27 #[.int .i64 a0_0, .int .i64 a0_1, .int .i64 a0_2, .int .i64 a0_3, .int .i64 a0_4] (0, 0) _ rfl (by (with_reducible repeat (first | refine blk_drewN ?_ _ | refine blk_drew ?_ | refine blk_alloc ?_ _)); refine blk_put (cs := #[.int .i64 a0_0, .int .i64 a0_1, .int .i64 a0_2, .int .i64 a0_3, .int .i64 0]) ?_ 4 _ rfl; (with_reducible repeat (first | refine blk_drewN ?_ _ | refine blk_drew ?_ | refine blk_alloc ?_ _)); refine blk_put (cs := #[.int .i64 a0_0, .int .i64 a0_1, .int .i64 a0_2, .int .i64 0, .int .i64 0]) ?_ 3 _ rfl; (with_reducible repeat (first | refine blk_drewN ?_ _ | refine blk_drew ?_ | refine blk_alloc ?_ _)); refine blk_put (cs := #[.int .i64 a0_0, .int .i64 a0_1, .int .i64 0, .int .i64 0, .int .i64 0]) ?_ 2 _ rfl; (with_reducible repeat (first | refine blk_drewN ?_ _ | refine blk_drew ?_ | refine blk_alloc ?_ _)); refine blk_put (cs := #[.int .i64 a0_0, .int .i64 0, .int .i64 0, .int .i64 0, .int .i64 0]) ?_ 1 _ rfl; (with_reducible repeat (first | refine blk_drewN ?_ _ | refine blk_drew ?_ | refine blk_alloc ?_ _)); refine blk_put (cs := #[.int .i64 0, .int .i64 0, .int .i64 0, .int .i64 0, .int .i64 0]) ?_ 0 _ rfl; (with_reducible repeat (first | refine blk_drewN ?_ _ | refine blk_drew ?_ | refine blk_alloc ?_ _)); refine blk_far ?_ a3.out _; (with_reducible repeat (first | refine blk_drewN ?_ _ | refine blk_drew ?_ | refine blk_alloc ?_ _)); refine blk_far ?_ a3.out _; (with_reducible repeat (first | refine blk_drewN ?_ _ | refine blk_drew ?_ | refine blk_alloc ?_ _)); refine blk_far ?_ a3.out _; (with_reducible repeat (first | refine blk_drewN ?_ _ | refine blk_drew ?_ | refine blk_alloc ?_ _)); refine blk_far ?_ a3.out _; (with_reducible repeat (first | refine blk_drewN ?_ _ | refine blk_drew ?_ | refine blk_alloc ?_ _)); refine blk_far ?_ a3.out _; exact upB a2.out) Try.underlying27 rfl (by kernel_rfl)) rfl ?_
 exact ⟨by first | rfl | (simp [errW_none, errW_some] <;> rfl) | (simp [*, errW_none, errW_some] <;> rfl), by repeat (first | (with_reducible first | exact HB.out | apply below_alloc | apply yab | apply below_drew1 | refine below_set ?_ (Aside0.out ‹_›)) | exact HB.out)⟩

end Go.Proofs.Ytoifpgkfpdeglaa.X

namespace Go.Proofs.Ytoifpgkfpdeglaa.X
open Go.RowKit Go.Proofs.YtoifpgkfpdeglaaW.PrintWords Go.Proofs.YtoifpgkfpdeglaaW.PrintLast Go.Proofs.YtoifpgkfpdeglaaW.PrintMore
attribute [local go_sem] max2_int min2_int max_two min_two max_three min_three max_four min_four
set_option linter.unusedVariables false
set_option linter.unusedSimpArgs false

open Go.Proofs.YtoifpgkfpdeglaaW.PrintWords renaming pw_below_drewN → yaa, below_alloc → yac, below_drew1 → yad, blk_frozen → yae, blk_cell → yaf, below_size → yag, below_set → yah
open Go.Proofs.YtoifpgkfpdeglaaW.PrintWords.Aside0 renaming mk → yab

/-! ### laws_eqPixPix: function 80 -/
def laws_eqPixPix.f (a0_0 : Int) (a0_1 : Int) (a0_2 : Int) (a0_3 : Int) (a1_0 : Int) (a1_1 : Int) (a1_2 : Int) (a1_3 : Int) : Option (Bool) := if a0_0 = a1_0 then (if a0_1 = a1_1 then (if a0_2 = a1_2 then (if a0_3 = a1_3 then (some true) else (some false)) else (some false)) else (some false)) else (some false)
set_option maxHeartbeats 8000000 in
set_option maxRecDepth 100000 in
theorem laws_eqPixPix.calls (a0_0 : Int) (a0_1 : Int) (a0_2 : Int) (a0_3 : Int) (a1_0 : Int) (a1_1 : Int) (a1_2 : Int) (a1_3 : Int) (r : Bool) (w : World) (h : laws_eqPixPix.f a0_0 a0_1 a0_2 a0_3 a1_0 a1_1 a1_2 a1_3 = some r) :
  Calls Try.prog 80 #[.agg #[.int .i64 a0_0, .int .i64 a0_1, .int .i64 a0_2, .int .i64 a0_3], .agg #[.int .i64 a1_0, .int .i64 a1_1, .int .i64 a1_2, .int .i64 a1_3]] w fun e w' => e = .returned (.bool r) ∧ Below w.heap.size w w' := by
 have hu36 := Try.underlying36
 have HB := yab (Below.refl w.heap.size w)
 have H : (if a0_0 = a1_0 then (if a0_1 = a1_1 then (if a0_2 = a1_2 then (if a0_3 = a1_3 then (some true) else (some false)) else (some false)) else (some false)) else (some false)) = some r := h
 clear h
 by_cases c3 : a0_0 = a1_0
 ·
  rw [if_pos c3] at H
  have j4 : (a0_0 == a1_0) = true := beq_iff_eq.mpr c3
  have j5 : (a0_0 != a1_0) = false := bne_eq_false_iff_eq.mpr c3
  clear c3
  by_cases c4 : a0_1 = a1_1
  ·
   rw [if_pos c4] at H
   have j6 : (a0_1 == a1_1) = true := beq_iff_eq.mpr c4
   have j7 : (a0_1 != a1_1) = false := bne_eq_false_iff_eq.mpr c4
   clear c4
   by_cases c5 : a0_2 = a1_2
   ·
    rw [if_pos c5] at H
    have j8 : (a0_2 == a1_2) = true := beq_iff_eq.mpr c5
    have j9 : (a0_2 != a1_2) = false := bne_eq_false_iff_eq.mpr c5
    clear c5
    by_cases c6 : a0_3 = a1_3
    ·
     rw [if_pos c6] at H
     have k0 : (a0_3 == a1_3) = true := beq_iff_eq.mpr c6
     have k1 : (a0_3 != a1_3) = false := bne_eq_false_iff_eq.mpr c6
     clear c6
     obtain rfl := Option.some.inj H
     go_enter Try.func80, Try.ntmps80
     go_wp2_with (first | ((with_reducible refine gate_dst (N := 2) rfl ?_); refine box_event ?hg (N := 2) ?hd (cs := #[.int .i64 a0_0, .int .i64 a0_1, .int .i64 a0_2, .int .i64 a0_3]) (t := 36) ?hr ?_; (case hd => rfl); (case hg => rfl); (case hr => first | (go_simp; done) | (go_simp; rfl)); intro a1 hg w7 hbox hb; have n0_ := yab (below_step (by repeat (first | (with_reducible first | exact HB.out | apply yac | apply yaa | apply yad) | exact HB.out)) hb); have n1_ := yab (hbox); have n2_ := yab ((by rw [hg]; exact (yag (by repeat (first | (with_reducible first | exact HB.out | apply yac | apply yaa | apply yad) | exact HB.out))) : w.heap.size ≤ a1)); have n3_ := yab ((by rw [hg]; exact (yag (by repeat (first | (with_reducible first | exact HB.out | apply yac | apply yaa | apply yad) | exact HB.out))) : w.heap.size ≤ a1)); clear HB; have HB := n0_; have a0 := n1_; have a6 := n2_; have a7 := n3_; clear n0_ n1_ n2_ n3_; clear hb hbox hg) | ((with_reducible refine gate_dst (N := 3) rfl ?_); refine box_event ?hg (N := 3) ?hd (cs := #[.int .i64 a1_0, .int .i64 a1_1, .int .i64 a1_2, .int .i64 a1_3]) (t := 36) ?hr ?_; (case hd => rfl); (case hg => rfl); (case hr => first | (go_simp; done) | (go_simp; rfl)); intro a2 hg w8 hbox hb; have n0_ := yab (blk_below (g := a1) (o := .cells #[.int .i64 a0_0, .int .i64 a0_1, .int .i64 a0_2, .int .i64 a0_3] 36 (0, 0)) (upB a0.out) hb); have n1_ := yab (below_step (by repeat (first | (with_reducible first | exact HB.out | apply yac | apply yaa | apply yad | refine yah ?_ (Aside0.out ‹_›)) | exact HB.out)) hb); have n2_ := yab (hbox); have n3_ := yab ((by rw [hg]; exact (yag (by repeat (first | (with_reducible first | exact HB.out | apply yac | apply yaa | apply yad | refine yah ?_ (Aside0.out ‹_›)) | exact HB.out))) : w.heap.size ≤ a2)); have n4_ := yab ((by rw [hg]; exact (yag (by repeat (first | (with_reducible first | exact HB.out | apply yac | apply yaa | apply yad | refine yah ?_ (Aside0.out ‹_›)) | exact HB.out))) : w.heap.size ≤ a2)); have n5_ := yab ((by rw [hg]; exact Nat.ne_of_lt (blk_lt (g := a1) (o := .cells #[.int .i64 a0_0, .int .i64 a0_1, .int .i64 a0_2, .int .i64 a0_3] 36 (0, 0)) (upB a0.out)) : a1 ≠ a2)); have n6_ := yab ((by rw [hg]; exact Nat.ne_of_gt (blk_lt (g := a1) (o := .cells #[.int .i64 a0_0, .int .i64 a0_1, .int .i64 a0_2, .int .i64 a0_3] 36 (0, 0)) (upB a0.out)) : a2 ≠ a1)); clear a0; clear HB; have a0 := n0_; have HB := n1_; have a3 := n2_; have a8 := n3_; have a9 := n4_; have a4 := n5_; have a5 := n6_; clear n0_ n1_ n2_ n3_ n4_ n5_ n6_; clear hb hbox hg; have l0 := a4.out; have l1 := a5.out; have b0 : w8.cell? ⟨a1, 0, none⟩ = some (.int .i64 a0_0) := (yaf a0.out 0).trans rfl; have b1 : w8.cell? ⟨a1, 1, none⟩ = some (.int .i64 a0_1) := (yaf a0.out 1).trans rfl; have b2 : w8.cell? ⟨a1, 2, none⟩ = some (.int .i64 a0_2) := (yaf a0.out 2).trans rfl; have b3 : w8.cell? ⟨a1, 3, none⟩ = some (.int .i64 a0_3) := (yaf a0.out 3).trans rfl; have b4 := yae a0.out 0; have b5 := yae a0.out 1; have b6 := yae a0.out 2; have b7 := yae a0.out 3; have b8 : w8.cell? ⟨a2, 0, none⟩ = some (.int .i64 a1_0) := (yaf a3.out 0).trans rfl; have b9 : w8.cell? ⟨a2, 1, none⟩ = some (.int .i64 a1_1) := (yaf a3.out 1).trans rfl; have c0 : w8.cell? ⟨a2, 2, none⟩ = some (.int .i64 a1_2) := (yaf a3.out 2).trans rfl; have c1 : w8.cell? ⟨a2, 3, none⟩ = some (.int .i64 a1_3) := (yaf a3.out 3).trans rfl; have c2 := yae a3.out 0; have c7 := yae a3.out 1; have c8 := yae a3.out 2; have c9 := yae a3.out 3))
     go_ret
     exact ⟨by first | rfl | (simp [errW_none, errW_some] <;> rfl) | (simp [*, errW_none, errW_some] <;> rfl), by repeat (first | (with_reducible first | exact HB.out | apply yac | apply yaa | apply yad | refine yah ?_ (Aside0.out ‹_›)) | exact HB.out)⟩
    ·
     rw [if_neg c6] at H
     have k0 : (a0_3 == a1_3) = false := beq_eq_false_iff_ne.mpr c6
     have k1 : (a0_3 != a1_3) = true := bne_iff_ne.mpr c6
     obtain rfl := Option.some.inj H
     go_enter Try.func80, Try.ntmps80
     go_wp2_with (first | ((with_reducible refine gate_dst (N := 2) rfl ?_); refine box_event ?hg (N := 2) ?hd (cs := #[.int .i64 a0_0, .int .i64 a0_1, .int .i64 a0_2, .int .i64 a0_3]) (t := 36) ?hr ?_; (case hd => rfl); (case hg => rfl); (case hr => first | (go_simp; done) | (go_simp; rfl)); intro a1 hg w12 hbox hb; have n0_ := yab (below_step (by repeat (first | (with_reducible first | exact HB.out | apply yac | apply yaa | apply yad) | exact HB.out)) hb); have n1_ := yab (hbox); have n2_ := yab ((by rw [hg]; exact (yag (by repeat (first | (with_reducible first | exact HB.out | apply yac | apply yaa | apply yad) | exact HB.out))) : w.heap.size ≤ a1)); have n3_ := yab ((by rw [hg]; exact (yag (by repeat (first | (with_reducible first | exact HB.out | apply yac | apply yaa | apply yad) | exact HB.out))) : w.heap.size ≤ a1)); clear HB; have HB := n0_; have a0 := n1_; have a6 := n2_; have a7 := n3_; clear n0_ n1_ n2_ n3_; clear hb hbox hg) | ((with_reducible refine gate_dst (N := 3) rfl ?_); refine box_event ?hg (N := 3) ?hd (cs := #[.int .i64 a1_0, .int .i64 a1_1, .int .i64 a1_2, .int .i64 a1_3]) (t := 36) ?hr ?_; (case hd => rfl); (case hg => rfl); (case hr => first | (go_simp; done) | (go_simp; rfl)); intro a2 hg w13 hbox hb; have n0_ := yab (blk_below (g := a1) (o := .cells #[.int .i64 a0_0, .int .i64 a0_1, .int .i64 a0_2, .int .i64 a0_3] 36 (0, 0)) (upB a0.out) hb); have n1_ := yab (below_step (by repeat (first | (with_reducible first | exact HB.out | apply yac | apply yaa | apply yad | refine yah ?_ (Aside0.out ‹_›)) | exact HB.out)) hb); have n2_ := yab (hbox); have n3_ := yab ((by rw [hg]; exact (yag (by repeat (first | (with_reducible first | exact HB.out | apply yac | apply yaa | apply yad | refine yah ?_ (Aside0.out ‹_›)) | exact HB.out))) : w.heap.size ≤ a2)); have n4_ := yab ((by rw [hg]; exact (yag (by repeat (first | (with_reducible first | exact HB.out | apply yac | apply yaa | apply yad | refine yah ?_ (Aside0.out ‹_›)) | exact HB.out))) : w.heap.size ≤ a2)); have n5_ := yab ((by rw [hg]; exact Nat.ne_of_lt (blk_lt (g := a1) (o := .cells #[.int .i64 a0_0, .int .i64 a0_1, .int .i64 a0_2, .int .i64 a0_3] 36 (0, 0)) (upB a0.out)) : a1 ≠ a2)); have n6_ := yab ((by rw [hg]; exact Nat.ne_of_gt (blk_lt (g := a1) (o := .cells #[.int .i64 a0_0, .int .i64 a0_1, .int .i64 a0_2, .int .i64 a0_3] 36 (0, 0)) (upB a0.out)) : a2 ≠ a1)); clear a0; clear HB; have a0 := n0_; have HB := n1_; have a3 := n2_; have a8 := n3_; have a9 := n4_; have a4 := n5_; have a5 := n6_; clear n0_ n1_ n2_ n3_ n4_ n5_ n6_; clear hb hbox hg; have k2 := a4.out; have k3 := a5.out; have d0 : w13.cell? ⟨a1, 0, none⟩ = some (.int .i64 a0_0) := (yaf a0.out 0).trans rfl; have d1 : w13.cell? ⟨a1, 1, none⟩ = some (.int .i64 a0_1) := (yaf a0.out 1).trans rfl; have d2 : w13.cell? ⟨a1, 2, none⟩ = some (.int .i64 a0_2) := (yaf a0.out 2).trans rfl; have d3 : w13.cell? ⟨a1, 3, none⟩ = some (.int .i64 a0_3) := (yaf a0.out 3).trans rfl; have d4 := yae a0.out 0; have d5 := yae a0.out 1; have d6 := yae a0.out 2; have d7 := yae a0.out 3; have d8 : w13.cell? ⟨a2, 0, none⟩ = some (.int .i64 a1_0) := (yaf a3.out 0).trans rfl; have d9 : w13.cell? ⟨a2, 1, none⟩ = some (.int .i64 a1_1) := (yaf a3.out 1).trans rfl; have e0 : w13.cell? ⟨a2, 2, none⟩ = some (.int .i64 a1_2) := (yaf a3.out 2).trans rfl; have e1 : w13.cell? ⟨a2, 3, none⟩ = some (.int .i64 a1_3) := (yaf a3.out 3).trans rfl; have e2 := yae a3.out 0; have e3 := yae a3.out 1; have e4 := yae a3.out 2; have e5 := yae a3.out 3))
     go_ret
     exact ⟨by first | rfl | (simp [errW_none, errW_some] <;> rfl) | (simp [*, errW_none, errW_some] <;> rfl), by repeat (first | (with_reducible first | exact HB.out | apply yac | apply yaa | apply yad | refine yah ?_ (Aside0.out ‹_›)) | exact HB.out)⟩
   ·
    rw [if_neg c5] at H
    have j8 : (a0_2 == a1_2) = false := beq_eq_false_iff_ne.mpr c5
    have j9 : (a0_2 != a1_2) = true := bne_iff_ne.mpr c5
    obtain rfl := Option.some.inj H
    go_enter Try.func80, Try.ntmps80
    go_wp2_with (first | ((with_reducible refine gate_dst (N := 2) rfl ?_); refine box_event ?hg (N := 2) ?hd (cs := #[.int .i64 a0_0, .int .i64 a0_1, .int .i64 a0_2, .int .i64 a0_3]) (t := 36) ?hr ?_; (case hd => rfl); (case hg => rfl); (case hr => first | (go_simp; done) | (go_simp; rfl)); intro a1 hg w17 hbox hb; have n0_ := yab (below_step (by repeat (first | (with_reducible first | exact HB.out | apply yac | apply yaa | apply yad) | exact HB.out)) hb); have n1_ := yab (hbox); have n2_ := yab ((by rw [hg]; exact (yag (by repeat (first | (with_reducible first | exact HB.out | apply yac | apply yaa | apply yad) | exact HB.out))) : w.heap.size ≤ a1)); have n3_ := yab ((by rw [hg]; exact (yag (by repeat (first | (with_reducible first | exact HB.out | apply yac | apply yaa | apply yad) | exact HB.out))) : w.heap.size ≤ a1)); clear HB; have HB := n0_; have a0 := n1_; have a6 := n2_; have a7 := n3_; clear n0_ n1_ n2_ n3_; clear hb hbox hg) | ((with_reducible refine gate_dst (N := 3) rfl ?_); refine box_event ?hg (N := 3) ?hd (cs := #[.int .i64 a1_0, .int .i64 a1_1, .int .i64 a1_2, .int .i64 a1_3]) (t := 36) ?hr ?_; (case hd => rfl); (case hg => rfl); (case hr => first | (go_simp; done) | (go_simp; rfl)); intro a2 hg w18 hbox hb; have n0_ := yab (blk_below (g := a1) (o := .cells #[.int .i64 a0_0, .int .i64 a0_1, .int .i64 a0_2, .int .i64 a0_3] 36 (0, 0)) (upB a0.out) hb); have n1_ := yab (below_step (by repeat (first | (with_reducible first | exact HB.out | apply yac | apply yaa | apply yad | refine yah ?_ (Aside0.out ‹_›)) | exact HB.out)) hb); have n2_ := yab (hbox); have n3_ := yab ((by rw [hg]; exact (yag (by repeat (first | (with_reducible first | exact HB.out | apply yac | apply yaa | apply yad | refine yah ?_ (Aside0.out ‹_›)) | exact HB.out))) : w.heap.size ≤ a2)); have n4_ := yab ((by rw [hg]; exact (yag (by repeat (first | (with_reducible first | exact HB.out | apply yac | apply yaa | apply yad | refine yah ?_ (Aside0.out ‹_›)) | exact HB.out))) : w.heap.size ≤ a2)); have n5_ := yab ((by rw [hg]; exact Nat.ne_of_lt (blk_lt (g := a1) (o := .cells #[.int .i64 a0_0, .int .i64 a0_1, .int .i64 a0_2, .int .i64 a0_3] 36 (0, 0)) (upB a0.out)) : a1 ≠ a2)); have n6_ := yab ((by rw [hg]; exact Nat.ne_of_gt (blk_lt (g := a1) (o := .cells #[.int .i64 a0_0, .int .i64 a0_1, .int .i64 a0_2, .int .i64 a0_3] 36 (0, 0)) (upB a0.out)) : a2 ≠ a1)); clear a0; clear HB; have a0 := n0_; have HB := n1_; have a3 := n2_; have a8 := n3_; have a9 := n4_; have a4 := n5_; have a5 := n6_; clear n0_ n1_ n2_ n3_ n4_ n5_ n6_; clear hb hbox hg; have k4 := a4.out; have k5 := a5.out; have e6 : w18.cell? ⟨a1, 0, none⟩ = some (.int .i64 a0_0) := (yaf a0.out 0).trans rfl; have e7 : w18.cell? ⟨a1, 1, none⟩ = some (.int .i64 a0_1) := (yaf a0.out 1).trans rfl; have e8 : w18.cell? ⟨a1, 2, none⟩ = some (.int .i64 a0_2) := (yaf a0.out 2).trans rfl; have e9 : w18.cell? ⟨a1, 3, none⟩ = some (.int .i64 a0_3) := (yaf a0.out 3).trans rfl; have f0 := yae a0.out 0; have f1 := yae a0.out 1; have f2 := yae a0.out 2; have f3 := yae a0.out 3; have f4 : w18.cell? ⟨a2, 0, none⟩ = some (.int .i64 a1_0) := (yaf a3.out 0).trans rfl; have f5 : w18.cell? ⟨a2, 1, none⟩ = some (.int .i64 a1_1) := (yaf a3.out 1).trans rfl; have f6 : w18.cell? ⟨a2, 2, none⟩ = some (.int .i64 a1_2) := (yaf a3.out 2).trans rfl; have f7 : w18.cell? ⟨a2, 3, none⟩ = some (.int .i64 a1_3) := (yaf a3.out 3).trans rfl; have f8 := yae a3.out 0; have f9 := yae a3.out 1; have g0 := yae a3.out 2; have g1 := yae a3.out 3))
    go_ret
    exact ⟨by first | rfl | (simp [errW_none, errW_some] <;> rfl) | (simp [*, errW_none, errW_some] <;> rfl), by repeat (first | (with_reducible first | exact HB.out | apply yac | apply yaa | apply yad | refine yah ?_ (Aside0.out ‹_›)) | exact HB.out)⟩
  ·
   rw [if_neg c4] at H
   have j6 : (a0_1 == a1_1) = false := beq_eq_false_iff_ne.mpr c4
   have j7 : (a0_1 != a1_1) = true := bne_iff_ne.mpr c4
   obtain rfl := Option.some.inj H
   go_enter Try.func80, Try.ntmps80
   go_wp2_with (first | ((with_reducible refine gate_dst (N := 2) rfl ?_); refine box_event ?hg (N := 2) ?hd (cs := #[.int .i64 a0_0, .int .i64 a0_1, .int .i64 a0_2, .int .i64 a0_3]) (t := 36) ?hr ?_; (case hd => rfl); (case hg => rfl); (case hr => first | (go_simp; done) | (go_simp; rfl)); intro a1 hg w22 hbox hb; have n0_ := yab (below_step (by repeat (first | (with_reducible first | exact HB.out | apply yac | apply yaa | apply yad) | exact HB.out)) hb); have n1_ := yab (hbox); have n2_ := yab ((by rw [hg]; exact (yag (by repeat (first | (with_reducible first | exact HB.out | apply yac | apply yaa | apply yad) | exact HB.out))) : w.heap.size ≤ a1)); have n3_ := yab ((by rw [hg]; exact (yag (by repeat (first | (with_reducible first | exact HB.out | apply yac | apply yaa | apply yad) | exact HB.out))) : w.heap.size ≤ a1)); clear HB; have HB := n0_; have a0 := n1_; have a6 := n2_; have a7 := n3_; clear n0_ n1_ n2_ n3_; clear hb hbox hg) | ((with_reducible refine gate_dst (N := 3) rfl ?_); refine box_event ?hg (N := 3) ?hd (cs := #[.int .i64 a1_0, .int .i64 a1_1, .int .i64 a1_2, .int .i64 a1_3]) (t := 36) ?hr ?_; (case hd => rfl); (case hg => rfl); (case hr => first | (go_simp; done) | (go_simp; rfl)); intro a2 hg w23 hbox hb; have n0_ := yab (blk_below (g := a1) (o := .cells #[.int .i64 a0_0, .int .i64 a0_1, .int .i64 a0_2, .int .i64 a0_3] 36 (0, 0)) (upB a0.out) hb); have n1_ := yab (below_step (by repeat (first | (with_reducible first | exact HB.out | apply yac | apply yaa | apply yad | refine yah ?_ (Aside0.out ‹_›)) | exact HB.out)) hb); have n2_ := yab (hbox); have n3_ := yab ((by rw [hg]; exact (yag (by repeat (first | (with_reducible first | exact HB.out | apply yac | apply yaa | apply yad | refine yah ?_ (Aside0.out ‹_›)) | exact HB.out))) : w.heap.size ≤ a2)); have n4_ := yab ((by rw [hg]; exact (yag (by repeat (first | (with_reducible first | exact HB.out | apply yac | apply yaa | apply yad | refine yah ?_ (Aside0.out ‹_›)) | exact HB.out))) : w.heap.size ≤ a2)); have n5_ := yab ((by rw [hg]; exact Nat.ne_of_lt (blk_lt (g := a1) (o := .cells #[.int .i64 a0_0, .int .i64 a0_1, .int .i64 a0_2, .int .i64 a0_3] 36 (0, 0)) (upB a0.out)) : a1 ≠ a2)); have n6_ := yab ((by rw [hg]; exact Nat.ne_of_gt (blk_lt (g := a1) (o := .cells #[.int .i64 a0_0, .int .i64 a0_1, .int .i64 a0_2, .int .i64 a0_3] 36 (0, 0)) (upB a0.out)) : a2 ≠ a1)); clear a0; clear HB; have a0 := n0_; have HB := n1_; have a3 := n2_; have a8 := n3_; have a9 := n4_; have a4 := n5_; have a5 := n6_; clear n0_ n1_ n2_ n3_ n4_ n5_ n6_; clear hb hbox hg; have k6 := a4.out; have k7 := a5.out; have g2 : w23.cell? ⟨a1, 0, none⟩ = some (.int .i64 a0_0) := (yaf a0.out 0).trans rfl; have g3 : w23.cell? ⟨a1, 1, none⟩ = some (.int .i64 a0_1) := (yaf a0.out 1).trans rfl; have g4 : w23.cell? ⟨a1, 2, none⟩ = some (.int .i64 a0_2) := (yaf a0.out 2).trans rfl; have g5 : w23.cell? ⟨a1, 3, none⟩ = some (.int .i64 a0_3) := (yaf a0.out 3).trans rfl; have g6 := yae a0.out 0; have g7 := yae a0.out 1; have g8 := yae a0.out 2; have g9 := yae a0.out 3; have h0 : w23.cell? ⟨a2, 0, none⟩ = some (.int .i64 a1_0) := (yaf a3.out 0).trans rfl; have h1 : w23.cell? ⟨a2, 1, none⟩ = some (.int .i64 a1_1) := (yaf a3.out 1).trans rfl; have h2 : w23.cell? ⟨a2, 2, none⟩ = some (.int .i64 a1_2) := (yaf a3.out 2).trans rfl; have h3 : w23.cell? ⟨a2, 3, none⟩ = some (.int .i64 a1_3) := (yaf a3.out 3).trans rfl; have h4 := yae a3.out 0; have h5 := yae a3.out 1; have h6 := yae a3.out 2; have h7 := yae a3.out 3))
   go_ret
   exact ⟨by first | rfl | (simp [errW_none, errW_some] <;> rfl) | (simp [*, errW_none, errW_some] <;> rfl), by repeat (first | (with_reducible first | exact HB.out | apply yac | apply yaa | apply yad | refine yah ?_ (Aside0.out ‹_›)) | exact HB.out)⟩
 ·
  rw [if_neg c3] at H
  have j4 : (a0_0 == a1_0) = false := beq_eq_false_iff_ne.mpr c3
  have j5 : (a0_0 != a1_0) = true := bne_iff_ne.mpr c3
  obtain rfl := Option.some.inj H
  go_enter Try.func80, Try.ntmps80
  go_wp2_with (first | ((with_reducible refine gate_dst (N := 2) rfl ?_); refine box_event ?hg (N := 2) ?hd (cs := #[.int .i64 a0_0, .int .i64 a0_1, .int .i64 a0_2, .int .i64 a0_3]) (t := 36) ?hr ?_; (case hd => rfl); (case hg => rfl); (case hr => first | (go_simp; done) | (go_simp; rfl)); intro a1 hg w27 hbox hb; have n0_ := yab (below_step (by repeat (first | (with_reducible first | exact HB.out | apply yac | apply yaa | apply yad) | exact HB.out)) hb); have n1_ := yab (hbox); have n2_ := yab ((by rw [hg]; exact (yag (by repeat (first | (with_reducible first | exact HB.out | apply yac | apply yaa | apply yad) | exact HB.out))) : w.heap.size ≤ a1)); have n3_ := yab ((by rw [hg]; exact (yag (by repeat (first | (with_reducible first | exact HB.out | apply yac | apply yaa | apply yad) | exact HB.out))) : w.heap.size ≤ a1)); clear HB; have HB := n0_; have a0 := n1_; have a6 := n2_; have a7 := n3_; clear n0_ n1_ n2_ n3_; clear hb hbox hg) | ((with_reducible refine gate_dst (N := 3) rfl ?_); refine box_event ?hg (N := 3) ?hd (cs := #[.int .i64 a1_0, .int .i64 a1_1, .int .i64 a1_2, .int .i64 a1_3]) (t := 36) ?hr ?_; (case hd => rfl); (case hg => rfl); (case hr => first | (go_simp; done) | (go_simp; rfl)); intro a2 hg w28 hbox hb; have n0_ := yab (blk_below (g := a1) (o := .cells #[.int .i64 a0_0, .int .i64 a0_1, .int .i64 a0_2, .int .i64 a0_3] 36 (0, 0)) (upB a0.out) hb); have n1_ := yab (below_step (by repeat (first | (with_reducible first | exact HB.out | apply yac | apply yaa | apply yad | refine yah ?_ (Aside0.out ‹_›)) | exact HB.out)) hb); have n2_ := yab (hbox); have n3_ := yab ((by rw [hg]; exact (yag (by repeat (first | (with_reducible first | exact HB.out | apply yac | apply yaa | apply yad | refine yah ?_ (Aside0.out ‹_›)) | exact HB.out))) : w.heap.size ≤ a2)); have n4_ := yab ((by rw [hg]; exact (yag (by repeat (first | (with_reducible first | exact HB.out | apply yac | apply yaa | apply yad | refine yah ?_ (Aside0.out ‹_›)) | exact HB.out))) : w.heap.size ≤ a2)); have n5_ := yab ((by rw [hg]; exact Nat.ne_of_lt (blk_lt (g := a1) (o := .cells #[.int .i64 a0_0, .int .i64 a0_1, .int .i64 a0_2, .int .i64 a0_3] 36 (0, 0)) (upB a0.out)) : a1 ≠ a2)); have n6_ := yab ((by rw [hg]; exact Nat.ne_of_gt (blk_lt (g := a1) (o := .cells #[.int .i64 a0_0, .int .i64 a0_1, .int .i64 a0_2, .int .i64 a0_3] 36 (0, 0)) (upB a0.out)) : a2 ≠ a1)); clear a0; clear HB; have a0 := n0_; have HB := n1_; have a3 := n2_; have a8 := n3_; have a9 := n4_; have a4 := n5_; have a5 := n6_; clear n0_ n1_ n2_ n3_ n4_ n5_ n6_; clear hb hbox hg; have k8 := a4.out; have k9 := a5.out; have h8 : w28.cell? ⟨a1, 0, none⟩ = some (.int .i64 a0_0) := (yaf a0.out 0).trans rfl; have h9 : w28.cell? ⟨a1, 1, none⟩ = some (.int .i64 a0_1) := (yaf a0.out 1).trans rfl; have i0 : w28.cell? ⟨a1, 2, none⟩ = some (.int .i64 a0_2) := (yaf a0.out 2).trans rfl; have i1 : w28.cell? ⟨a1, 3, none⟩ = some (.int .i64 a0_3) := (yaf a0.out 3).trans rfl; have i2 := yae a0.out 0; have i3 := yae a0.out 1; have i4 := yae a0.out 2; have i5 := yae a0.out 3; have i6 : w28.cell? ⟨a2, 0, none⟩ = some (.int .i64 a1_0) := (yaf a3.out 0).trans rfl; have i7 : w28.cell? ⟨a2, 1, none⟩ = some (.int .i64 a1_1) := (yaf a3.out 1).trans rfl; have i8 : w28.cell? ⟨a2, 2, none⟩ = some (.int .i64 a1_2) := (yaf a3.out 2).trans rfl; have i9 : w28.cell? ⟨a2, 3, none⟩ = some (.int .i64 a1_3) := (yaf a3.out 3).trans rfl; have j0 := yae a3.out 0; have j1 := yae a3.out 1; have j2 := yae a3.out 2; have j3 := yae a3.out 3))
  go_ret
  exact ⟨by first | rfl | (simp [errW_none, errW_some] <;> rfl) | (simp [*, errW_none, errW_some] <;> rfl), by repeat (first | (with_reducible first | exact HB.out | apply yac | apply yaa | apply yad | refine yah ?_ (Aside0.out ‹_›)) | exact HB.out)⟩

end Go.Proofs.Ytoifpgkfpdeglaa.X

namespace Go.Proofs.Ytoifpgkfpdeglaa.X
open Go.RowKit Go.Proofs.YtoifpgkfpdeglaaW.PrintWords Go.Proofs.YtoifpgkfpdeglaaW.PrintLast Go.Proofs.YtoifpgkfpdeglaaW.PrintMore
attribute [local go_sem] max2_int min2_int max_two min_two max_three min_three max_four min_four
set_option linter.unusedVariables false
set_option linter.unusedSimpArgs false

open Go.Proofs.Ytoifpgkfpdeglaa.X renaming rd_T36 → yaa

/-! ### laws_eqPixPixS: function 47 -/
abbrev q47_0 : Array Bool := #[false, false, false, false, false, false, false, false, false, false]
abbrev q47_1 : Array Bool := #[true, false, false, false, false, false, false, false, false, false]
abbrev q47_2 : Array Bool := #[true, true, false, false, false, false, false, false, false, false]
abbrev q47_3 : Array Bool := #[true, true, true, false, false, false, false, false, false, false]
abbrev q47_4 : Array Bool := #[true, true, true, false, true, false, false, false, false, false]
abbrev q47_5 : Array Bool := #[true, true, true, false, true, true, false, false, false, false]
abbrev q47_6 : Array Bool := #[true, true, true, false, true, true, true, false, false, false]
abbrev q47_7 : Array Bool := #[true, true, true, true, true, true, true, false, false, false]
abbrev q47_8 : Array Bool := #[true, true, true, true, true, true, true, true, false, false]
abbrev q47_9 : Array Bool := #[true, true, true, true, true, true, true, true, true, false]
abbrev q47_10 : Array Bool := #[true, true, true, true, true, true, true, true, true, true]
def laws_eqPixPixS.l0 : Nat → List (S36) → List (S36) → Int → Option (Bool)
 | 0, _, _, _ => none
 | k + 1, x0, x1, x5 => if x5 < (x0.length : Int) then (if 0 ≤ x5 then (if x5 < (x1.length : Int) then ((laws_eqPixPix.f ((rd_T36 x0 x5).f0) ((rd_T36 x0 x5).f1) ((rd_T36 x0 x5).f2) ((rd_T36 x0 x5).f3) ((rd_T36 x1 x5).f0) ((rd_T36 x1 x5).f1) ((rd_T36 x1 x5).f2) ((rd_T36 x1 x5).f3)).bind fun t103 => (if t103 = true then (laws_eqPixPixS.l0 k x0 x1 (wrap64 (x5 + 1))) else (some false))) else (none)) else (none)) else (some true)
def laws_eqPixPixS.f (k : Nat) (l0 : List (S36)) (l1 : List (S36)) : Option (Bool) := if (l0.length : Int) = (l1.length : Int) then (laws_eqPixPixS.l0 k l0 l1 0) else (some false)
def laws_eqPixPixS.T6 : Bool × List (List Nat × List Nat) := (true, [([], []), ([], []), ([0, 1], [0, 1]), ([2], [2]), ([], []), ([], []), ([4, 5], [4, 5]), ([6], [6]), ([3, 7], [3, 7]), ([8], [8])])
def laws_eqPixPixS.B6 : List Nat := [0, 0, 3, 7, 0, 0, 48, 112, 255, 511]
theorem laws_eqPixPixS.tab6 : rtab .any (opsOf Try.f47 6) = laws_eqPixPixS.T6 := by kernel_rfl
theorem laws_eqPixPixS.bits6 : waitsOk laws_eqPixPixS.T6.2 laws_eqPixPixS.B6 = true := by kernel_rfl
set_option maxHeartbeats 8000000 in
set_option maxRecDepth 100000 in
theorem laws_eqPixPixS.calls (k : Nat) (A0 : Option Addr) (c0 : Nat) (l0 : List (S36)) (A1 : Option Addr) (c1 : Nat) (l1 : List (S36)) (r : Bool) (w : World) (hr0 : Kd.C k36 w A0 l0.length l0) (hc0 : l0.length ≤ c0) (hr1 : Kd.C k36 w A1 l1.length l1) (hc1 : l1.length ≤ c1) (h : laws_eqPixPixS.f k l0 l1 = some r) :
  Calls Try.prog 47 #[.slice A0 l0.length c0, .slice A1 l1.length c1] w fun e w' => e = .returned (.bool r) ∧ Below w.heap.size w w' := by
 have hu36 := Try.underlying36
 have HR0 := Aside0.mk hr0
 have HC0 := Aside0.mk hc0
 clear hr0 hc0
 have HR1 := Aside0.mk hr1
 have HC1 := Aside0.mk hc1
 clear hr1 hc1
 have HB := Aside0.mk (Below.refl w.heap.size w)
 have H : (if (l0.length : Int) = (l1.length : Int) then (laws_eqPixPixS.l0 k l0 l1 0) else (some false)) = some r := h
 clear h
 by_cases c3 : (l0.length : Int) = (l1.length : Int)
 ·
  rw [if_pos c3] at H
  have c7 : ((l0.length : Int) == (l1.length : Int)) = true := beq_iff_eq.mpr c3
  have c9 : ((l0.length : Int) != (l1.length : Int)) = false := bne_eq_false_iff_eq.mpr c3
  have d0 : (l0.length == l1.length) = true := by first | simpa using c3 | (simp at c3 ⊢; omega)
  clear c3
  have H' := Aside0.mk H
  clear H
  go_enter Try.func47, Try.ntmps47
  go_wp2
  (try simp only [Act.put, List.setIfInBounds_toArray, List.set_cons_zero, List.set_cons_succ])
  go_loopg [5] k (fun kq v5 w' => ∃ (a2 : Int), v5 = .int .i64 a2 ∧ Aside0 (laws_eqPixPixS.l0 kq l0 l1 a2 = some r) ∧ Aside0 (kq ≤ k) ∧ Aside0 (Below w.heap.size w w'))
  case atStart => exact ⟨(0), (by first | rfl | (simp; done) | (simp [*]; done)), H', ⟨Nat.le_refl _⟩, ⟨by repeat (first | (with_reducible first | exact HB.out | apply below_alloc | apply pw_below_drewN | apply below_drew1) | exact HB.out)⟩⟩
  case round =>
   clear H'
   try clear c1
   try clear p2
   try clear c3
   try clear c7
   try clear c9
   try clear d0
   obtain ⟨a2, rfl, HA, HK1, HB⟩ := hrel
   cases gk with
   | zero => exact absurd HA.out (by simp [laws_eqPixPixS.l0])
   | succ k1 =>
    have H := HA.out
    clear HA
    simp only [laws_eqPixPixS.l0] at H
    by_cases c4 : a2 < (l0.length : Int)
    ·
     rw [if_pos c4] at H
     have d2 : decide (a2 < (l0.length : Int)) = true := decide_eq_true c4
     clear c4
     by_cases c5 : 0 ≤ a2
     ·
      rw [if_pos c5] at H
      have d3 : decide (0 ≤ a2) = true := decide_eq_true c5
      clear c5
      by_cases c6 : a2 < (l1.length : Int)
      ·
       rw [if_pos c6] at H
       have d4 : decide (a2 < (l1.length : Int)) = true := decide_eq_true c6
       clear c6
       replace H := Option.bind_eq_some_iff.mp H
       obtain ⟨d1, A70, H⟩ := H
       replace H : (if d1 = true then (laws_eqPixPixS.l0 k1 l0 l1 (wrap64 (a2 + 1))) else (some false)) = some r := H
       have A7 := Aside0.mk A70
       clear A70
       by_cases c8 : d1 = true
       ·
        subst c8
        have H1 : (laws_eqPixPixS.l0 k1 l0 l1 (wrap64 (a2 + 1))) = some r := by rw [if_pos rfl] at H; exact H
        clear H
        have H := H1
        clear H1
        have H' := Aside0.mk H
        clear H
        try go_wp2
        have n0_ := Aside0.mk (below_drew1 HB.out)
        clear HB
        have HB := n0_
        clear n0_
        have p101 : 0 ≤ (a2 : Int) := of_decide_eq_true (by first | (with_reducible assumption) | assumption)
        have q101 : a2 < (l0.length : Int) := of_decide_eq_true (by first | (with_reducible assumption) | assumption)
        obtain ⟨ad101, b9, a3, a4, a5, a6⟩ := at_T36 HR0.out a2 p101 q101
        have b1 := a6
        have b2 := a5
        have b3 := a4
        have b4 := a3
        cases b9
        replace a3 := (HB.out.cell (World.block_lt_of_cell? w _ a3)).trans a3
        replace a4 := (HB.out.cell (World.block_lt_of_cell? w _ a4)).trans a4
        replace a5 := (HB.out.cell (World.block_lt_of_cell? w _ a5)).trans a5
        replace a6 := (HB.out.cell (World.block_lt_of_cell? w _ a6)).trans a6
        replace p101 := eq_true p101
        replace q101 := eq_true q101
        have p102 : 0 ≤ (a2 : Int) := of_decide_eq_true (by first | (with_reducible assumption) | assumption)
        have q102 : a2 < (l1.length : Int) := of_decide_eq_true (by first | (with_reducible assumption) | assumption)
        obtain ⟨ad102, c2, a7, a8, a9, b0⟩ := at_T36 HR1.out a2 p102 q102
        have b5 := b0
        have b6 := a9
        have b7 := a8
        have b8 := a7
        cases c2
        replace a7 := (HB.out.cell (World.block_lt_of_cell? w _ a7)).trans a7
        replace a8 := (HB.out.cell (World.block_lt_of_cell? w _ a8)).trans a8
        replace a9 := (HB.out.cell (World.block_lt_of_cell? w _ a9)).trans a9
        replace b0 := (HB.out.cell (World.block_lt_of_cell? w _ b0)).trans b0
        replace p102 := eq_true p102
        replace q102 := eq_true q102
        refine start_ (n := 10) (S := fun w' => w'.cell? (ad101.add ((a2).toNat * 4)) = some (.int .i64 ((yaa l0 a2).f0)) ∧ w'.cell? ⟨(ad101.add ((a2).toNat * 4)).block, (ad101.add ((a2).toNat * 4)).off + 1, none⟩ = some (.int .i64 ((yaa l0 a2).f1)) ∧ w'.cell? ⟨(ad101.add ((a2).toNat * 4)).block, (ad101.add ((a2).toNat * 4)).off + 2, none⟩ = some (.int .i64 ((yaa l0 a2).f2)) ∧ w'.cell? ⟨(ad101.add ((a2).toNat * 4)).block, (ad101.add ((a2).toNat * 4)).off + 3, none⟩ = some (.int .i64 ((yaa l0 a2).f3)) ∧ w'.cell? (ad102.add ((a2).toNat * 4)) = some (.int .i64 ((yaa l1 a2).f0)) ∧ w'.cell? ⟨(ad102.add ((a2).toNat * 4)).block, (ad102.add ((a2).toNat * 4)).off + 1, none⟩ = some (.int .i64 ((yaa l1 a2).f1)) ∧ w'.cell? ⟨(ad102.add ((a2).toNat * 4)).block, (ad102.add ((a2).toNat * 4)).off + 2, none⟩ = some (.int .i64 ((yaa l1 a2).f2)) ∧ w'.cell? ⟨(ad102.add ((a2).toNat * 4)).block, (ad102.add ((a2).toNat * 4)).off + 3, none⟩ = some (.int .i64 ((yaa l1 a2).f3))) (ds := []) q47_0 (by kernel_rfl) rfl rfl ⟨((HB.out.cell (World.block_lt_of_cell? w _ b4)).trans b4), ((HB.out.cell (World.block_lt_of_cell? w _ b3)).trans b3), ((HB.out.cell (World.block_lt_of_cell? w _ b2)).trans b2), ((HB.out.cell (World.block_lt_of_cell? w _ b1)).trans b1), ((HB.out.cell (World.block_lt_of_cell? w _ b8)).trans b8), ((HB.out.cell (World.block_lt_of_cell? w _ b7)).trans b7), ((HB.out.cell (World.block_lt_of_cell? w _ b6)).trans b6), ((HB.out.cell (World.block_lt_of_cell? w _ b5)).trans b5)⟩ (fun hHeld => ?_); refine with_tabW laws_eqPixPixS.tab6 laws_eqPixPixS.bits6 (fun HT_ HW_ => ?_)
        generalize wr.drew = w9 at HB a3 a4 a5 a6 a7 a8 a9 b0 hHeld ⊢
        refine pz_ 0 17 q47_1 HT_ (by kernel_rfl) ?_
        refine pz_ 1 18 q47_2 HT_ (by kernel_rfl) ?_
        refine pz_ 2 19 q47_3 HT_ (by kernel_rfl) ?_
        refine pz_ 4 21 q47_4 HT_ (by kernel_rfl) ?_
        refine pz_ 5 22 q47_5 HT_ (by kernel_rfl) ?_
        refine pz_ 6 23 q47_6 HT_ (by kernel_rfl) ?_
        refine tz_ 3 20 q47_7 HT_ HW_ (by kernel_rfl) hHeld ?_
        refine tz_ 7 24 q47_8 HT_ HW_ (by kernel_rfl) hHeld ?_
        refine one_ (i := 8) (N := some 25) q47_9 rfl rfl (one_of HT_.out (by kernel_rfl)) (by decide) (fun K hK => ?_)
        refine goes_ Try.func80 (by kernel_rfl) rfl #[.agg #[.int .i64 ((yaa l0 a2).f0), .int .i64 ((yaa l0 a2).f1), .int .i64 ((yaa l0 a2).f2), .int .i64 ((yaa l0 a2).f3)], .agg #[.int .i64 ((yaa l1 a2).f0), .int .i64 ((yaa l1 a2).f1), .int .i64 ((yaa l1 a2).f2), .int .i64 ((yaa l1 a2).f3)]] (by rfl) rfl rfl (by (try simp only [List.map_toArray, List.map_cons, List.map_nil]); first | done | rfl | (simp only [List.length_drop, List.length_take]; rfl)) ?_
        with_reducible refine (laws_eqPixPix.calls ((yaa l0 a2).f0) ((yaa l0 a2).f1) ((yaa l0 a2).f2) ((yaa l0 a2).f3) ((yaa l1 a2).f0) ((yaa l1 a2).f1) ((yaa l1 a2).f2) ((yaa l1 a2).f3) true _ A7.out).mono ?_
        rintro e w10 ⟨rfl, hb⟩
        refine ⟨_, rfl, ?_⟩
        have n0_ := Aside0.mk (below_step (by repeat (first | (with_reducible first | exact HB.out | apply below_alloc | apply pw_below_drewN | apply below_drew1) | exact HB.out)) hb)
        clear HB
        have HB := n0_
        clear n0_
        (try clear hb)
        (try clear hb2)
        (try clear hk)
        (try clear hi)
        refine hK.out _ _ ⟨((HB.out.cell (World.block_lt_of_cell? w _ b4)).trans b4), ((HB.out.cell (World.block_lt_of_cell? w _ b3)).trans b3), ((HB.out.cell (World.block_lt_of_cell? w _ b2)).trans b2), ((HB.out.cell (World.block_lt_of_cell? w _ b1)).trans b1), ((HB.out.cell (World.block_lt_of_cell? w _ b8)).trans b8), ((HB.out.cell (World.block_lt_of_cell? w _ b7)).trans b7), ((HB.out.cell (World.block_lt_of_cell? w _ b6)).trans b6), ((HB.out.cell (World.block_lt_of_cell? w _ b5)).trans b5)⟩ (fun hHeld => ?_)
        clear hK K
        refine norm_ (a' := ?_) ?_ ?_
        rotate_left
        ·
         show Act.put _ (some 25) _ = _
         simp only [Act.put, List.setIfInBounds_toArray, List.set_cons_zero, List.set_cons_succ, i64_w, i32_w]
         rfl
        refine pz_ 9 26 q47_10 HT_ (by kernel_rfl) ?_
        refine done_ (done_of HT_.out (by kernel_rfl)) ?_
        try go_wp2
        go_roundg k1
        case measure => have := HK1.out; omega
        case rel => exact ⟨(wrap64 (a2 + 1)), (by first | rfl | (simp; done) | (simp [*]; done)), H', ⟨by have := HK1.out; omega⟩, ⟨by repeat (first | (with_reducible first | exact HB.out | apply below_alloc | apply pw_below_drewN | apply below_drew1) | exact HB.out)⟩⟩
       ·
        replace c8 := Bool.eq_false_iff.mpr c8
        subst c8
        have H1 : (some false) = some r := by rw [if_neg (show ¬ (false = true) by decide)] at H; exact H
        clear H
        have H := H1
        clear H1
        obtain rfl := Option.some.inj H
        try go_wp2
        have n0_ := Aside0.mk (below_drew1 HB.out)
        clear HB
        have HB := n0_
        clear n0_
        have p101 : 0 ≤ (a2 : Int) := of_decide_eq_true (by first | (with_reducible assumption) | assumption)
        have q101 : a2 < (l0.length : Int) := of_decide_eq_true (by first | (with_reducible assumption) | assumption)
        obtain ⟨ad101, b9, a3, a4, a5, a6⟩ := at_T36 HR0.out a2 p101 q101
        have b1 := a6
        have b2 := a5
        have b3 := a4
        have b4 := a3
        cases b9
        replace a3 := (HB.out.cell (World.block_lt_of_cell? w _ a3)).trans a3
        replace a4 := (HB.out.cell (World.block_lt_of_cell? w _ a4)).trans a4
        replace a5 := (HB.out.cell (World.block_lt_of_cell? w _ a5)).trans a5
        replace a6 := (HB.out.cell (World.block_lt_of_cell? w _ a6)).trans a6
        replace p101 := eq_true p101
        replace q101 := eq_true q101
        have p102 : 0 ≤ (a2 : Int) := of_decide_eq_true (by first | (with_reducible assumption) | assumption)
        have q102 : a2 < (l1.length : Int) := of_decide_eq_true (by first | (with_reducible assumption) | assumption)
        obtain ⟨ad102, c2, a7, a8, a9, b0⟩ := at_T36 HR1.out a2 p102 q102
        have b5 := b0
        have b6 := a9
        have b7 := a8
        have b8 := a7
        cases c2
        replace a7 := (HB.out.cell (World.block_lt_of_cell? w _ a7)).trans a7
        replace a8 := (HB.out.cell (World.block_lt_of_cell? w _ a8)).trans a8
        replace a9 := (HB.out.cell (World.block_lt_of_cell? w _ a9)).trans a9
        replace b0 := (HB.out.cell (World.block_lt_of_cell? w _ b0)).trans b0
        replace p102 := eq_true p102
        replace q102 := eq_true q102
        refine start_ (n := 10) (S := fun w' => w'.cell? (ad101.add ((a2).toNat * 4)) = some (.int .i64 ((yaa l0 a2).f0)) ∧ w'.cell? ⟨(ad101.add ((a2).toNat * 4)).block, (ad101.add ((a2).toNat * 4)).off + 1, none⟩ = some (.int .i64 ((yaa l0 a2).f1)) ∧ w'.cell? ⟨(ad101.add ((a2).toNat * 4)).block, (ad101.add ((a2).toNat * 4)).off + 2, none⟩ = some (.int .i64 ((yaa l0 a2).f2)) ∧ w'.cell? ⟨(ad101.add ((a2).toNat * 4)).block, (ad101.add ((a2).toNat * 4)).off + 3, none⟩ = some (.int .i64 ((yaa l0 a2).f3)) ∧ w'.cell? (ad102.add ((a2).toNat * 4)) = some (.int .i64 ((yaa l1 a2).f0)) ∧ w'.cell? ⟨(ad102.add ((a2).toNat * 4)).block, (ad102.add ((a2).toNat * 4)).off + 1, none⟩ = some (.int .i64 ((yaa l1 a2).f1)) ∧ w'.cell? ⟨(ad102.add ((a2).toNat * 4)).block, (ad102.add ((a2).toNat * 4)).off + 2, none⟩ = some (.int .i64 ((yaa l1 a2).f2)) ∧ w'.cell? ⟨(ad102.add ((a2).toNat * 4)).block, (ad102.add ((a2).toNat * 4)).off + 3, none⟩ = some (.int .i64 ((yaa l1 a2).f3))) (ds := []) q47_0 (by kernel_rfl) rfl rfl ⟨((HB.out.cell (World.block_lt_of_cell? w _ b4)).trans b4), ((HB.out.cell (World.block_lt_of_cell? w _ b3)).trans b3), ((HB.out.cell (World.block_lt_of_cell? w _ b2)).trans b2), ((HB.out.cell (World.block_lt_of_cell? w _ b1)).trans b1), ((HB.out.cell (World.block_lt_of_cell? w _ b8)).trans b8), ((HB.out.cell (World.block_lt_of_cell? w _ b7)).trans b7), ((HB.out.cell (World.block_lt_of_cell? w _ b6)).trans b6), ((HB.out.cell (World.block_lt_of_cell? w _ b5)).trans b5)⟩ (fun hHeld => ?_); refine with_tabW laws_eqPixPixS.tab6 laws_eqPixPixS.bits6 (fun HT_ HW_ => ?_)
        generalize wr.drew = w11 at HB a3 a4 a5 a6 a7 a8 a9 b0 hHeld ⊢
        refine pz_ 0 17 q47_1 HT_ (by kernel_rfl) ?_
        refine pz_ 1 18 q47_2 HT_ (by kernel_rfl) ?_
        refine pz_ 2 19 q47_3 HT_ (by kernel_rfl) ?_
        refine pz_ 4 21 q47_4 HT_ (by kernel_rfl) ?_
        refine pz_ 5 22 q47_5 HT_ (by kernel_rfl) ?_
        refine pz_ 6 23 q47_6 HT_ (by kernel_rfl) ?_
        refine tz_ 3 20 q47_7 HT_ HW_ (by kernel_rfl) hHeld ?_
        refine tz_ 7 24 q47_8 HT_ HW_ (by kernel_rfl) hHeld ?_
        refine one_ (i := 8) (N := some 25) q47_9 rfl rfl (one_of HT_.out (by kernel_rfl)) (by decide) (fun K hK => ?_)
        refine goes_ Try.func80 (by kernel_rfl) rfl #[.agg #[.int .i64 ((yaa l0 a2).f0), .int .i64 ((yaa l0 a2).f1), .int .i64 ((yaa l0 a2).f2), .int .i64 ((yaa l0 a2).f3)], .agg #[.int .i64 ((yaa l1 a2).f0), .int .i64 ((yaa l1 a2).f1), .int .i64 ((yaa l1 a2).f2), .int .i64 ((yaa l1 a2).f3)]] (by rfl) rfl rfl (by (try simp only [List.map_toArray, List.map_cons, List.map_nil]); first | done | rfl | (simp only [List.length_drop, List.length_take]; rfl)) ?_
        with_reducible refine (laws_eqPixPix.calls ((yaa l0 a2).f0) ((yaa l0 a2).f1) ((yaa l0 a2).f2) ((yaa l0 a2).f3) ((yaa l1 a2).f0) ((yaa l1 a2).f1) ((yaa l1 a2).f2) ((yaa l1 a2).f3) false _ A7.out).mono ?_
        rintro e w12 ⟨rfl, hb⟩
        refine ⟨_, rfl, ?_⟩
        have n0_ := Aside0.mk (below_step (by repeat (first | (with_reducible first | exact HB.out | apply below_alloc | apply pw_below_drewN | apply below_drew1) | exact HB.out)) hb)
        clear HB
        have HB := n0_
        clear n0_
        (try clear hb)
        (try clear hb2)
        (try clear hk)
        (try clear hi)
        refine hK.out _ _ ⟨((HB.out.cell (World.block_lt_of_cell? w _ b4)).trans b4), ((HB.out.cell (World.block_lt_of_cell? w _ b3)).trans b3), ((HB.out.cell (World.block_lt_of_cell? w _ b2)).trans b2), ((HB.out.cell (World.block_lt_of_cell? w _ b1)).trans b1), ((HB.out.cell (World.block_lt_of_cell? w _ b8)).trans b8), ((HB.out.cell (World.block_lt_of_cell? w _ b7)).trans b7), ((HB.out.cell (World.block_lt_of_cell? w _ b6)).trans b6), ((HB.out.cell (World.block_lt_of_cell? w _ b5)).trans b5)⟩ (fun hHeld => ?_)
        clear hK K
        refine norm_ (a' := ?_) ?_ ?_
        rotate_left
        ·
         show Act.put _ (some 25) _ = _
         simp only [Act.put, List.setIfInBounds_toArray, List.set_cons_zero, List.set_cons_succ, i64_w, i32_w]
         rfl
        refine pz_ 9 26 q47_10 HT_ (by kernel_rfl) ?_
        refine done_ (done_of HT_.out (by kernel_rfl)) ?_
        try go_wp2
        go_ret
        exact ⟨by first | rfl | (simp [errW_none, errW_some] <;> rfl) | (simp [*, errW_none, errW_some] <;> rfl), by repeat (first | (with_reducible first | exact HB.out | apply below_alloc | apply pw_below_drewN | apply below_drew1) | exact HB.out)⟩
      ·
       rw [if_neg c6] at H
       exact absurd H (by simp)
     ·
      rw [if_neg c5] at H
      exact absurd H (by simp)
    ·
     rw [if_neg c4] at H
     have d2 : decide (a2 < (l0.length : Int)) = false := decide_eq_false c4
     clear c4
     obtain rfl := Option.some.inj H
     go_wp2
     go_ret
     exact ⟨by first | rfl | (simp [errW_none, errW_some] <;> rfl) | (simp [*, errW_none, errW_some] <;> rfl), by repeat (first | (with_reducible first | exact HB.out | apply below_alloc | apply pw_below_drewN | apply below_drew1) | exact HB.out)⟩
 ·
  rw [if_neg c3] at H
  have c7 : ((l0.length : Int) == (l1.length : Int)) = false := beq_eq_false_iff_ne.mpr c3
  have c9 : ((l0.length : Int) != (l1.length : Int)) = true := bne_iff_ne.mpr c3
  have d0 : (l0.length == l1.length) = false := by first | simpa using c3 | (simp at c3 ⊢; omega)
  obtain rfl := Option.some.inj H
  go_enter Try.func47, Try.ntmps47
  go_wp2
  go_ret
  exact ⟨by first | rfl | (simp [errW_none, errW_some] <;> rfl) | (simp [*, errW_none, errW_some] <;> rfl), by repeat (first | (with_reducible first | exact HB.out | apply below_alloc | apply pw_below_drewN | apply below_drew1) | exact HB.out)⟩

end Go.Proofs.Ytoifpgkfpdeglaa.X

namespace Go.Proofs.Ytoifpgkfpdeglaa.X
open Go.RowKit Go.Proofs.YtoifpgkfpdeglaaW.PrintWords Go.Proofs.YtoifpgkfpdeglaaW.PrintLast Go.Proofs.YtoifpgkfpdeglaaW.PrintMore
attribute [local go_sem] max2_int min2_int max_two min_two max_three min_three max_four min_four
set_option linter.unusedVariables false
set_option linter.unusedSimpArgs false

open Go.Proofs.YtoifpgkfpdeglaaW.PrintWords.Aside0 renaming mk → yaa
open Go.Proofs.YtoifpgkfpdeglaaW.PrintWords renaming pw_below_drewN → yab, below_alloc → yac, below_drew1 → yad, blk_frozen → yae, blk_cell → yaf, below_size → yag, below_set → yah

/-! ### laws_eqRasRaster: function 23 -/
def laws_eqRasRaster.f (k : Nat) (a0_0 : Int) (a0_1 : Int) (l0_2 : List (S36)) (a1_0 : Int) (a1_1 : Int) (l1_2 : List (S36)) : Option (Bool) := if a0_0 = a1_0 then (if a0_1 = a1_1 then ((laws_eqPixPixS.f k l0_2 l1_2).bind fun t103 => (if t103 = true then (some true) else (some false))) else (some false)) else (some false)
set_option maxHeartbeats 8000000 in
set_option maxRecDepth 100000 in
theorem laws_eqRasRaster.calls (k : Nat) (a0_0 : Int) (a0_1 : Int) (A0_2 : Option Addr) (c0_2 : Nat) (l0_2 : List (S36)) (a1_0 : Int) (a1_1 : Int) (A1_2 : Option Addr) (c1_2 : Nat) (l1_2 : List (S36)) (r : Bool) (w : World) (hr0_2 : Kd.C k36 w A0_2 l0_2.length l0_2) (hc0_2 : l0_2.length ≤ c0_2) (hr1_2 : Kd.C k36 w A1_2 l1_2.length l1_2) (hc1_2 : l1_2.length ≤ c1_2) (h : laws_eqRasRaster.f k a0_0 a0_1 l0_2 a1_0 a1_1 l1_2 = some r) :
  Calls Try.prog 23 #[.agg #[.int .i64 a0_0, .int .i64 a0_1, .slice A0_2 l0_2.length c0_2], .agg #[.int .i64 a1_0, .int .i64 a1_1, .slice A1_2 l1_2.length c1_2]] w fun e w' => e = .returned (.bool r) ∧ Below w.heap.size w w' := by
 have hu25 := Try.underlying25
 have HR0_2 := yaa hr0_2
 have HC0_2 := yaa hc0_2
 clear hr0_2 hc0_2
 have HR1_2 := yaa hr1_2
 have HC1_2 := yaa hc1_2
 clear hr1_2 hc1_2
 have HB := yaa (Below.refl w.heap.size w)
 have H : (if a0_0 = a1_0 then (if a0_1 = a1_1 then ((laws_eqPixPixS.f k l0_2 l1_2).bind fun b6 => (if b6 = true then (some true) else (some false))) else (some false)) else (some false)) = some r := h
 clear h
 by_cases c3 : a0_0 = a1_0
 ·
  rw [if_pos c3] at H
  have g8 : (a0_0 == a1_0) = true := beq_iff_eq.mpr c3
  have g9 : (a0_0 != a1_0) = false := bne_eq_false_iff_eq.mpr c3
  clear c3
  by_cases c4 : a0_1 = a1_1
  ·
   rw [if_pos c4] at H
   have h0 : (a0_1 == a1_1) = true := beq_iff_eq.mpr c4
   have h1 : (a0_1 != a1_1) = false := bne_eq_false_iff_eq.mpr c4
   clear c4
   replace H := Option.bind_eq_some_iff.mp H
   obtain ⟨b6, A50, H⟩ := H
   replace H : (if b6 = true then (some true) else (some false)) = some r := H
   have A5 := yaa A50
   clear A50
   by_cases c6 : b6 = true
   ·
    subst c6
    have H1 : (some true) = some r := by rw [if_pos rfl] at H; exact H
    clear H
    have H := H1
    clear H1
    obtain rfl := Option.some.inj H
    go_enter Try.func23, Try.ntmps23
    go_wp2_with (first | ((with_reducible refine gate_dst (N := 2) rfl ?_); refine box_event ?hg (N := 2) ?hd (cs := #[.int .i64 a0_0, .int .i64 a0_1, .slice A0_2 l0_2.length c0_2]) (t := 25) ?hr ?_; (case hd => rfl); (case hg => rfl); (case hr => first | (go_simp; done) | (go_simp; rfl)); intro a7 hg w7 hbox hb; have n0_ := yaa (below_step (by repeat (first | (with_reducible first | exact HB.out | apply yac | apply yab | apply yad) | exact HB.out)) hb); have n1_ := yaa (hbox); have n2_ := yaa ((by rw [hg]; exact (yag (by repeat (first | (with_reducible first | exact HB.out | apply yac | apply yab | apply yad) | exact HB.out))) : w.heap.size ≤ a7)); have n3_ := yaa ((by rw [hg]; exact (yag (by repeat (first | (with_reducible first | exact HB.out | apply yac | apply yab | apply yad) | exact HB.out))) : w.heap.size ≤ a7)); clear HB; have HB := n0_; have a6 := n1_; have b2 := n2_; have b3 := n3_; clear n0_ n1_ n2_ n3_; clear hb hbox hg) | ((with_reducible refine gate_dst (N := 3) rfl ?_); refine box_event ?hg (N := 3) ?hd (cs := #[.int .i64 a1_0, .int .i64 a1_1, .slice A1_2 l1_2.length c1_2]) (t := 25) ?hr ?_; (case hd => rfl); (case hg => rfl); (case hr => first | (go_simp; done) | (go_simp; rfl)); intro a8 hg w8 hbox hb; have n0_ := yaa (blk_below (g := a7) (o := .cells #[.int .i64 a0_0, .int .i64 a0_1, .slice A0_2 l0_2.length c0_2] 25 (0, 0)) (upB a6.out) hb); have n1_ := yaa (below_step (by repeat (first | (with_reducible first | exact HB.out | apply yac | apply yab | apply yad | refine yah ?_ (Aside0.out ‹_›)) | exact HB.out)) hb); have n2_ := yaa (hbox); have n3_ := yaa ((by rw [hg]; exact (yag (by repeat (first | (with_reducible first | exact HB.out | apply yac | apply yab | apply yad | refine yah ?_ (Aside0.out ‹_›)) | exact HB.out))) : w.heap.size ≤ a8)); have n4_ := yaa ((by rw [hg]; exact (yag (by repeat (first | (with_reducible first | exact HB.out | apply yac | apply yab | apply yad | refine yah ?_ (Aside0.out ‹_›)) | exact HB.out))) : w.heap.size ≤ a8)); have n5_ := yaa ((by rw [hg]; exact Nat.ne_of_lt (blk_lt (g := a7) (o := .cells #[.int .i64 a0_0, .int .i64 a0_1, .slice A0_2 l0_2.length c0_2] 25 (0, 0)) (upB a6.out)) : a7 ≠ a8)); have n6_ := yaa ((by rw [hg]; exact Nat.ne_of_gt (blk_lt (g := a7) (o := .cells #[.int .i64 a0_0, .int .i64 a0_1, .slice A0_2 l0_2.length c0_2] 25 (0, 0)) (upB a6.out)) : a8 ≠ a7)); clear a6; clear HB; have a6 := n0_; have HB := n1_; have a9 := n2_; have b4 := n3_; have b5 := n4_; have b0 := n5_; have b1 := n6_; clear n0_ n1_ n2_ n3_ n4_ n5_ n6_; clear hb hbox hg; have h8 := b0.out; have h9 := b1.out; have b7 : w8.cell? ⟨a7, 0, none⟩ = some (.int .i64 a0_0) := (yaf a6.out 0).trans rfl; have b8 : w8.cell? ⟨a7, 1, none⟩ = some (.int .i64 a0_1) := (yaf a6.out 1).trans rfl; have b9 : w8.cell? ⟨a7, 2, none⟩ = some (.slice A0_2 l0_2.length c0_2) := (yaf a6.out 2).trans rfl; have c0 := yae a6.out 0; have c1 := yae a6.out 1; have c2 := yae a6.out 2; have c5 : w8.cell? ⟨a8, 0, none⟩ = some (.int .i64 a1_0) := (yaf a9.out 0).trans rfl; have c7 : w8.cell? ⟨a8, 1, none⟩ = some (.int .i64 a1_1) := (yaf a9.out 1).trans rfl; have c8 : w8.cell? ⟨a8, 2, none⟩ = some (.slice A1_2 l1_2.length c1_2) := (yaf a9.out 2).trans rfl; have c9 := yae a9.out 0; have d0 := yae a9.out 1; have d1 := yae a9.out 2) | ((with_reducible refine gate_callee (f := 47) rfl ?_); refine goesL_ (some 19) rfl rfl Try.func47 (by kernel_rfl) rfl #[.slice A0_2 l0_2.length c0_2, .slice A1_2 l1_2.length c1_2] rfl (by (try simp only [List.map_toArray, List.map_cons, List.map_nil]); first | done | rfl | (simp only [List.length_drop, List.length_take]; rfl)) ?_; (with_reducible refine (laws_eqPixPixS.calls k _ _ l0_2 _ _ l1_2 true _ ?side1 ?side2 ?side3 ?side4 A5.out).mono ?_); (case side1 => repeat (first | exact (Kd.C_below HR0_2.out HB.out) | (with_reducible refine Kd.C_alloc ?_ _) | (with_reducible refine Kd.C_drewN ?_ _) | (with_reducible refine Kd.C_drew ?_))); (case side2 => exact HC0_2.out); (case side3 => repeat (first | exact (Kd.C_below HR1_2.out HB.out) | (with_reducible refine Kd.C_alloc ?_ _) | (with_reducible refine Kd.C_drewN ?_ _) | (with_reducible refine Kd.C_drew ?_))); (case side4 => exact HC1_2.out); rintro e w12 ⟨rfl, hb⟩; refine ⟨_, rfl, ?_⟩; have n0_ := yaa (blk_below (g := a7) (o := .cells #[.int .i64 a0_0, .int .i64 a0_1, .slice A0_2 l0_2.length c0_2] 25 (0, 0)) (upB a6.out) hb); have n1_ := yaa (blk_below (g := a8) (o := .cells #[.int .i64 a1_0, .int .i64 a1_1, .slice A1_2 l1_2.length c1_2] 25 (0, 0)) (upB a9.out) hb); have n2_ := yaa (below_step (by repeat (first | (with_reducible first | exact HB.out | apply yac | apply yab | apply yad | refine yah ?_ (Aside0.out ‹_›)) | exact HB.out)) hb); clear a6; clear a9; clear HB; have a6 := n0_; have a9 := n1_; have HB := n2_; clear n0_ n1_ n2_; (try clear hb); (try clear hb2); (try clear hk); (try clear hi)))
    go_ret
    exact ⟨by first | rfl | (simp [errW_none, errW_some] <;> rfl) | (simp [*, errW_none, errW_some] <;> rfl), by repeat (first | (with_reducible first | exact HB.out | apply yac | apply yab | apply yad | refine yah ?_ (Aside0.out ‹_›)) | exact HB.out)⟩
   ·
    replace c6 := Bool.eq_false_iff.mpr c6
    subst c6
    have H1 : (some false) = some r := by rw [if_neg (show ¬ (false = true) by decide)] at H; exact H
    clear H
    have H := H1
    clear H1
    obtain rfl := Option.some.inj H
    go_enter Try.func23, Try.ntmps23
    go_wp2_with (first | ((with_reducible refine gate_dst (N := 2) rfl ?_); refine box_event ?hg (N := 2) ?hd (cs := #[.int .i64 a0_0, .int .i64 a0_1, .slice A0_2 l0_2.length c0_2]) (t := 25) ?hr ?_; (case hd => rfl); (case hg => rfl); (case hr => first | (go_simp; done) | (go_simp; rfl)); intro a7 hg w13 hbox hb; have n0_ := yaa (below_step (by repeat (first | (with_reducible first | exact HB.out | apply yac | apply yab | apply yad) | exact HB.out)) hb); have n1_ := yaa (hbox); have n2_ := yaa ((by rw [hg]; exact (yag (by repeat (first | (with_reducible first | exact HB.out | apply yac | apply yab | apply yad) | exact HB.out))) : w.heap.size ≤ a7)); have n3_ := yaa ((by rw [hg]; exact (yag (by repeat (first | (with_reducible first | exact HB.out | apply yac | apply yab | apply yad) | exact HB.out))) : w.heap.size ≤ a7)); clear HB; have HB := n0_; have a6 := n1_; have b2 := n2_; have b3 := n3_; clear n0_ n1_ n2_ n3_; clear hb hbox hg) | ((with_reducible refine gate_dst (N := 3) rfl ?_); refine box_event ?hg (N := 3) ?hd (cs := #[.int .i64 a1_0, .int .i64 a1_1, .slice A1_2 l1_2.length c1_2]) (t := 25) ?hr ?_; (case hd => rfl); (case hg => rfl); (case hr => first | (go_simp; done) | (go_simp; rfl)); intro a8 hg w14 hbox hb; have n0_ := yaa (blk_below (g := a7) (o := .cells #[.int .i64 a0_0, .int .i64 a0_1, .slice A0_2 l0_2.length c0_2] 25 (0, 0)) (upB a6.out) hb); have n1_ := yaa (below_step (by repeat (first | (with_reducible first | exact HB.out | apply yac | apply yab | apply yad | refine yah ?_ (Aside0.out ‹_›)) | exact HB.out)) hb); have n2_ := yaa (hbox); have n3_ := yaa ((by rw [hg]; exact (yag (by repeat (first | (with_reducible first | exact HB.out | apply yac | apply yab | apply yad | refine yah ?_ (Aside0.out ‹_›)) | exact HB.out))) : w.heap.size ≤ a8)); have n4_ := yaa ((by rw [hg]; exact (yag (by repeat (first | (with_reducible first | exact HB.out | apply yac | apply yab | apply yad | refine yah ?_ (Aside0.out ‹_›)) | exact HB.out))) : w.heap.size ≤ a8)); have n5_ := yaa ((by rw [hg]; exact Nat.ne_of_lt (blk_lt (g := a7) (o := .cells #[.int .i64 a0_0, .int .i64 a0_1, .slice A0_2 l0_2.length c0_2] 25 (0, 0)) (upB a6.out)) : a7 ≠ a8)); have n6_ := yaa ((by rw [hg]; exact Nat.ne_of_gt (blk_lt (g := a7) (o := .cells #[.int .i64 a0_0, .int .i64 a0_1, .slice A0_2 l0_2.length c0_2] 25 (0, 0)) (upB a6.out)) : a8 ≠ a7)); clear a6; clear HB; have a6 := n0_; have HB := n1_; have a9 := n2_; have b4 := n3_; have b5 := n4_; have b0 := n5_; have b1 := n6_; clear n0_ n1_ n2_ n3_ n4_ n5_ n6_; clear hb hbox hg; have h2 := b0.out; have h3 := b1.out; have d2 : w14.cell? ⟨a7, 0, none⟩ = some (.int .i64 a0_0) := (yaf a6.out 0).trans rfl; have d3 : w14.cell? ⟨a7, 1, none⟩ = some (.int .i64 a0_1) := (yaf a6.out 1).trans rfl; have d4 : w14.cell? ⟨a7, 2, none⟩ = some (.slice A0_2 l0_2.length c0_2) := (yaf a6.out 2).trans rfl; have d5 := yae a6.out 0; have d6 := yae a6.out 1; have d7 := yae a6.out 2; have d8 : w14.cell? ⟨a8, 0, none⟩ = some (.int .i64 a1_0) := (yaf a9.out 0).trans rfl; have d9 : w14.cell? ⟨a8, 1, none⟩ = some (.int .i64 a1_1) := (yaf a9.out 1).trans rfl; have e0 : w14.cell? ⟨a8, 2, none⟩ = some (.slice A1_2 l1_2.length c1_2) := (yaf a9.out 2).trans rfl; have e1 := yae a9.out 0; have e2 := yae a9.out 1; have e3 := yae a9.out 2) | ((with_reducible refine gate_callee (f := 47) rfl ?_); refine goesL_ (some 19) rfl rfl Try.func47 (by kernel_rfl) rfl #[.slice A0_2 l0_2.length c0_2, .slice A1_2 l1_2.length c1_2] rfl (by (try simp only [List.map_toArray, List.map_cons, List.map_nil]); first | done | rfl | (simp only [List.length_drop, List.length_take]; rfl)) ?_; (with_reducible refine (laws_eqPixPixS.calls k _ _ l0_2 _ _ l1_2 false _ ?side1 ?side2 ?side3 ?side4 A5.out).mono ?_); (case side1 => repeat (first | exact (Kd.C_below HR0_2.out HB.out) | (with_reducible refine Kd.C_alloc ?_ _) | (with_reducible refine Kd.C_drewN ?_ _) | (with_reducible refine Kd.C_drew ?_))); (case side2 => exact HC0_2.out); (case side3 => repeat (first | exact (Kd.C_below HR1_2.out HB.out) | (with_reducible refine Kd.C_alloc ?_ _) | (with_reducible refine Kd.C_drewN ?_ _) | (with_reducible refine Kd.C_drew ?_))); (case side4 => exact HC1_2.out); rintro e w18 ⟨rfl, hb⟩; refine ⟨_, rfl, ?_⟩; have n0_ := yaa (blk_below (g := a7) (o := .cells #[.int .i64 a0_0, .int .i64 a0_1, .slice A0_2 l0_2.length c0_2] 25 (0, 0)) (upB a6.out) hb); have n1_ := yaa (blk_below (g := a8) (o := .cells #[.int .i64 a1_0, .int .i64 a1_1, .slice A1_2 l1_2.length c1_2] 25 (0, 0)) (upB a9.out) hb); have n2_ := yaa (below_step (by repeat (first | (with_reducible first | exact HB.out | apply yac | apply yab | apply yad | refine yah ?_ (Aside0.out ‹_›)) | exact HB.out)) hb); clear a6; clear a9; clear HB; have a6 := n0_; have a9 := n1_; have HB := n2_; clear n0_ n1_ n2_; (try clear hb); (try clear hb2); (try clear hk); (try clear hi)))
    go_ret
    exact ⟨by first | rfl | (simp [errW_none, errW_some] <;> rfl) | (simp [*, errW_none, errW_some] <;> rfl), by repeat (first | (with_reducible first | exact HB.out | apply yac | apply yab | apply yad | refine yah ?_ (Aside0.out ‹_›)) | exact HB.out)⟩
  ·
   rw [if_neg c4] at H
   have h0 : (a0_1 == a1_1) = false := beq_eq_false_iff_ne.mpr c4
   have h1 : (a0_1 != a1_1) = true := bne_iff_ne.mpr c4
   obtain rfl := Option.some.inj H
   go_enter Try.func23, Try.ntmps23
   go_wp2_with (first | ((with_reducible refine gate_dst (N := 2) rfl ?_); refine box_event ?hg (N := 2) ?hd (cs := #[.int .i64 a0_0, .int .i64 a0_1, .slice A0_2 l0_2.length c0_2]) (t := 25) ?hr ?_; (case hd => rfl); (case hg => rfl); (case hr => first | (go_simp; done) | (go_simp; rfl)); intro a7 hg w19 hbox hb; have n0_ := yaa (below_step (by repeat (first | (with_reducible first | exact HB.out | apply yac | apply yab | apply yad) | exact HB.out)) hb); have n1_ := yaa (hbox); have n2_ := yaa ((by rw [hg]; exact (yag (by repeat (first | (with_reducible first | exact HB.out | apply yac | apply yab | apply yad) | exact HB.out))) : w.heap.size ≤ a7)); have n3_ := yaa ((by rw [hg]; exact (yag (by repeat (first | (with_reducible first | exact HB.out | apply yac | apply yab | apply yad) | exact HB.out))) : w.heap.size ≤ a7)); clear HB; have HB := n0_; have a6 := n1_; have b2 := n2_; have b3 := n3_; clear n0_ n1_ n2_ n3_; clear hb hbox hg) | ((with_reducible refine gate_dst (N := 3) rfl ?_); refine box_event ?hg (N := 3) ?hd (cs := #[.int .i64 a1_0, .int .i64 a1_1, .slice A1_2 l1_2.length c1_2]) (t := 25) ?hr ?_; (case hd => rfl); (case hg => rfl); (case hr => first | (go_simp; done) | (go_simp; rfl)); intro a8 hg w20 hbox hb; have n0_ := yaa (blk_below (g := a7) (o := .cells #[.int .i64 a0_0, .int .i64 a0_1, .slice A0_2 l0_2.length c0_2] 25 (0, 0)) (upB a6.out) hb); have n1_ := yaa (below_step (by repeat (first | (with_reducible first | exact HB.out | apply yac | apply yab | apply yad | refine yah ?_ (Aside0.out ‹_›)) | exact HB.out)) hb); have n2_ := yaa (hbox); have n3_ := yaa ((by rw [hg]; exact (yag (by repeat (first | (with_reducible first | exact HB.out | apply yac | apply yab | apply yad | refine yah ?_ (Aside0.out ‹_›)) | exact HB.out))) : w.heap.size ≤ a8)); have n4_ := yaa ((by rw [hg]; exact (yag (by repeat (first | (with_reducible first | exact HB.out | apply yac | apply yab | apply yad | refine yah ?_ (Aside0.out ‹_›)) | exact HB.out))) : w.heap.size ≤ a8)); have n5_ := yaa ((by rw [hg]; exact Nat.ne_of_lt (blk_lt (g := a7) (o := .cells #[.int .i64 a0_0, .int .i64 a0_1, .slice A0_2 l0_2.length c0_2] 25 (0, 0)) (upB a6.out)) : a7 ≠ a8)); have n6_ := yaa ((by rw [hg]; exact Nat.ne_of_gt (blk_lt (g := a7) (o := .cells #[.int .i64 a0_0, .int .i64 a0_1, .slice A0_2 l0_2.length c0_2] 25 (0, 0)) (upB a6.out)) : a8 ≠ a7)); clear a6; clear HB; have a6 := n0_; have HB := n1_; have a9 := n2_; have b4 := n3_; have b5 := n4_; have b0 := n5_; have b1 := n6_; clear n0_ n1_ n2_ n3_ n4_ n5_ n6_; clear hb hbox hg; have h4 := b0.out; have h5 := b1.out; have e4 : w20.cell? ⟨a7, 0, none⟩ = some (.int .i64 a0_0) := (yaf a6.out 0).trans rfl; have e5 : w20.cell? ⟨a7, 1, none⟩ = some (.int .i64 a0_1) := (yaf a6.out 1).trans rfl; have e6 : w20.cell? ⟨a7, 2, none⟩ = some (.slice A0_2 l0_2.length c0_2) := (yaf a6.out 2).trans rfl; have e7 := yae a6.out 0; have e8 := yae a6.out 1; have e9 := yae a6.out 2; have f0 : w20.cell? ⟨a8, 0, none⟩ = some (.int .i64 a1_0) := (yaf a9.out 0).trans rfl; have f1 : w20.cell? ⟨a8, 1, none⟩ = some (.int .i64 a1_1) := (yaf a9.out 1).trans rfl; have f2 : w20.cell? ⟨a8, 2, none⟩ = some (.slice A1_2 l1_2.length c1_2) := (yaf a9.out 2).trans rfl; have f3 := yae a9.out 0; have f4 := yae a9.out 1; have f5 := yae a9.out 2))
   go_ret
   exact ⟨by first | rfl | (simp [errW_none, errW_some] <;> rfl) | (simp [*, errW_none, errW_some] <;> rfl), by repeat (first | (with_reducible first | exact HB.out | apply yac | apply yab | apply yad | refine yah ?_ (Aside0.out ‹_›)) | exact HB.out)⟩
 ·
  rw [if_neg c3] at H
  have g8 : (a0_0 == a1_0) = false := beq_eq_false_iff_ne.mpr c3
  have g9 : (a0_0 != a1_0) = true := bne_iff_ne.mpr c3
  obtain rfl := Option.some.inj H
  go_enter Try.func23, Try.ntmps23
  go_wp2_with (first | ((with_reducible refine gate_dst (N := 2) rfl ?_); refine box_event ?hg (N := 2) ?hd (cs := #[.int .i64 a0_0, .int .i64 a0_1, .slice A0_2 l0_2.length c0_2]) (t := 25) ?hr ?_; (case hd => rfl); (case hg => rfl); (case hr => first | (go_simp; done) | (go_simp; rfl)); intro a7 hg w24 hbox hb; have n0_ := yaa (below_step (by repeat (first | (with_reducible first | exact HB.out | apply yac | apply yab | apply yad) | exact HB.out)) hb); have n1_ := yaa (hbox); have n2_ := yaa ((by rw [hg]; exact (yag (by repeat (first | (with_reducible first | exact HB.out | apply yac | apply yab | apply yad) | exact HB.out))) : w.heap.size ≤ a7)); have n3_ := yaa ((by rw [hg]; exact (yag (by repeat (first | (with_reducible first | exact HB.out | apply yac | apply yab | apply yad) | exact HB.out))) : w.heap.size ≤ a7)); clear HB; have HB := n0_; have a6 := n1_; have b2 := n2_; have b3 := n3_; clear n0_ n1_ n2_ n3_; clear hb hbox hg) | ((with_reducible refine gate_dst (N := 3) rfl ?_); refine box_event ?hg (N := 3) ?hd (cs := #[.int .i64 a1_0, .int .i64 a1_1, .slice A1_2 l1_2.length c1_2]) (t := 25) ?hr ?_; (case hd => rfl); (case hg => rfl); (case hr => first | (go_simp; done) | (go_simp; rfl)); intro a8 hg w25 hbox hb; have n0_ := yaa (blk_below (g := a7) (o := .cells #[.int .i64 a0_0, .int .i64 a0_1, .slice A0_2 l0_2.length c0_2] 25 (0, 0)) (upB a6.out) hb); have n1_ := yaa (below_step (by repeat (first | (with_reducible first | exact HB.out | apply yac | apply yab | apply yad | refine yah ?_ (Aside0.out ‹_›)) | exact HB.out)) hb); have n2_ := yaa (hbox); have n3_ := yaa ((by rw [hg]; exact (yag (by repeat (first | (with_reducible first | exact HB.out | apply yac | apply yab | apply yad | refine yah ?_ (Aside0.out ‹_›)) | exact HB.out))) : w.heap.size ≤ a8)); have n4_ := yaa ((by rw [hg]; exact (yag (by repeat (first | (with_reducible first | exact HB.out | apply yac | apply yab | apply yad | refine yah ?_ (Aside0.out ‹_›)) | exact HB.out))) : w.heap.size ≤ a8)); have n5_ := yaa ((by rw [hg]; exact Nat.ne_of_lt (blk_lt (g := a7) (o := .cells #[.int .i64 a0_0, .int .i64 a0_1, .slice A0_2 l0_2.length c0_2] 25 (0, 0)) (upB a6.out)) : a7 ≠ a8)); have n6_ := yaa ((by rw [hg]; exact Nat.ne_of_gt (blk_lt (g := a7) (o := .cells #[.int .i64 a0_0, .int .i64 a0_1, .slice A0_2 l0_2.length c0_2] 25 (0, 0)) (upB a6.out)) : a8 ≠ a7)); clear a6; clear HB; have a6 := n0_; have HB := n1_; have a9 := n2_; have b4 := n3_; have b5 := n4_; have b0 := n5_; have b1 := n6_; clear n0_ n1_ n2_ n3_ n4_ n5_ n6_; clear hb hbox hg; have h6 := b0.out; have h7 := b1.out; have f6 : w25.cell? ⟨a7, 0, none⟩ = some (.int .i64 a0_0) := (yaf a6.out 0).trans rfl; have f7 : w25.cell? ⟨a7, 1, none⟩ = some (.int .i64 a0_1) := (yaf a6.out 1).trans rfl; have f8 : w25.cell? ⟨a7, 2, none⟩ = some (.slice A0_2 l0_2.length c0_2) := (yaf a6.out 2).trans rfl; have f9 := yae a6.out 0; have g0 := yae a6.out 1; have g1 := yae a6.out 2; have g2 : w25.cell? ⟨a8, 0, none⟩ = some (.int .i64 a1_0) := (yaf a9.out 0).trans rfl; have g3 : w25.cell? ⟨a8, 1, none⟩ = some (.int .i64 a1_1) := (yaf a9.out 1).trans rfl; have g4 : w25.cell? ⟨a8, 2, none⟩ = some (.slice A1_2 l1_2.length c1_2) := (yaf a9.out 2).trans rfl; have g5 := yae a9.out 0; have g6 := yae a9.out 1; have g7 := yae a9.out 2))
  go_ret
  exact ⟨by first | rfl | (simp [errW_none, errW_some] <;> rfl) | (simp [*, errW_none, errW_some] <;> rfl), by repeat (first | (with_reducible first | exact HB.out | apply yac | apply yab | apply yad | refine yah ?_ (Aside0.out ‹_›)) | exact HB.out)⟩

end Go.Proofs.Ytoifpgkfpdeglaa.X

namespace Go.Proofs.Ytoifpgkfpdeglaa.X
open Go.RowKit Go.Proofs.YtoifpgkfpdeglaaW.PrintWords Go.Proofs.YtoifpgkfpdeglaaW.PrintLast Go.Proofs.YtoifpgkfpdeglaaW.PrintMore
attribute [local go_sem] max2_int min2_int max_two min_two max_three min_three max_four min_four
set_option linter.unusedVariables false
set_option linter.unusedSimpArgs false

open Go.Proofs.Ytoifpgkfpdeglaa.X renaming rd_T36 → yaa
open Go.Proofs.YtoifpgkfpdeglaaW.PrintWords.Aside0 renaming mk → yab

/-! ### laws_markPixPixS: function 48 -/
def laws_markPixPixS.l0 : Nat → List (S36) → Int → Int → Option (Int × (List (S36)))
 | 0, _, _, _ => none
 | k + 1, x0, x1, x5 => if x5 < (x0.length : Int) then (if 0 ≤ x5 then ((some (x0.set (x5 : Int).toNat (⟨x1, (rd_T36 x0 x5).f1, (rd_T36 x0 x5).f2, (rd_T36 x0 x5).f3⟩ : S36) : List (S36))).bind fun y101 => ((some (y101.set (x5 : Int).toNat (⟨(rd_T36 y101 x5).f0, wrap64 (x1 + 1), (rd_T36 y101 x5).f2, (rd_T36 y101 x5).f3⟩ : S36) : List (S36))).bind fun y102 => ((some (y102.set (x5 : Int).toNat (⟨(rd_T36 y102 x5).f0, (rd_T36 y102 x5).f1, wrap64 ((wrap64 (x1 + 1)) + 1), (rd_T36 y102 x5).f3⟩ : S36) : List (S36))).bind fun y103 => (laws_markPixPixS.l0 k (y103.set (x5 : Int).toNat (⟨(rd_T36 y103 x5).f0, (rd_T36 y103 x5).f1, (rd_T36 y103 x5).f2, wrap64 ((wrap64 ((wrap64 (x1 + 1)) + 1)) + 1)⟩ : S36)) (wrap64 ((wrap64 ((wrap64 ((wrap64 (x1 + 1)) + 1)) + 1)) + 1)) (wrap64 (x5 + 1)))))) else (none)) else (some (x1, x0))
def laws_markPixPixS.f (k : Nat) (l0 : List (S36)) (a1 : Int) : Option (Int × (List (S36))) := laws_markPixPixS.l0 k l0 a1 0
set_option maxHeartbeats 8000000 in
set_option maxRecDepth 100000 in
theorem laws_markPixPixS.calls (k : Nat) (P0_ : Nat → Prop) (u9000_ : Value) (l0 : List (S36)) (a1 : Int) (r1 : Int) (r2 : List (S36)) (w0 w : World) (hB : Below w0.heap.size w0 w) (ho0 : Kd.R k36 36 w w0.heap.size P0_ u9000_ l0) (h : laws_markPixPixS.f k l0 a1 = some (r1, r2)) :
  Calls Try.prog 48 #[u9000_, .int .i64 a1] w fun e w' => e = .returned (.int .i64 r1) ∧ Kd.R k36 36 w' w0.heap.size (fun k_ => (P0_ k_ ∨ w.heap.size ≤ k_)) u9000_ r2 ∧ Below w0.heap.size w0 w' ∧ Kept w w' (fun k_ => P0_ k_) := by
 have HO0 := yab (show Kd.R k36 36 w w0.heap.size (fun k_ => (P0_ k_ ∨ w.heap.size ≤ k_)) u9000_ l0 from Kd.R_mono ho0 (fun k_ hk => (.inl hk)))
 have HK := yab (Kept.refl w (fun k_ => P0_ k_))
 have HW0 := yab hB.size
 have HB := yab hB
 clear hB
 have H : (laws_markPixPixS.l0 k l0 a1 0) = some (r1, r2) := h
 clear h
 have H' := yab H
 clear H
 go_enter Try.func48, Try.ntmps48
 go_wp2
 (try simp only [Act.put, List.setIfInBounds_toArray, List.set_cons_zero, List.set_cons_succ])
 go_loopg [1, 5] k (fun kq v1 v5 w' => ∃ (a3 : List (S36)) (a4 : Int) (a2 : Int), v1 = .int .i64 a4 ∧ v5 = .int .i64 a2 ∧ Aside0 (laws_markPixPixS.l0 kq a3 a4 a2 = some (r1, r2)) ∧ Aside0 (kq ≤ k) ∧ Aside0 (Kd.R k36 36 w' w0.heap.size (fun k_ => (P0_ k_ ∨ w.heap.size ≤ k_)) u9000_ a3) ∧ Aside0 (Kept w w' (fun k_ => P0_ k_)) ∧ Aside0 (Below w0.heap.size w0 w'))
 case atStart => exact ⟨(l0), (a1), (0), (by first | rfl | (simp; done) | (simp [*]; done)), (by first | rfl | (simp; done) | (simp [*]; done)), H', ⟨Nat.le_refl _⟩, ⟨by exact upR HO0.out⟩, ⟨by repeat (first | (with_reducible first | exact HK.out | apply Kept.alloc | apply Kept.drewN | apply Kept.drew) | exact HK.out)⟩, ⟨by repeat (first | (with_reducible first | exact HB.out | apply below_alloc | apply pw_below_drewN | apply below_drew1) | exact HB.out)⟩⟩
 case round =>
  clear H'
  try clear p2
  obtain ⟨a3, a4, a2, rfl, rfl, HA, HK1, a5, HK, HB⟩ := hrel
  cases gk with
  | zero => exact absurd HA.out (by simp [laws_markPixPixS.l0])
  | succ k1 =>
   have H := HA.out
   clear HA
   simp only [laws_markPixPixS.l0] at H
   by_cases c3 : a2 < (a3.length : Int)
   ·
    rw [if_pos c3] at H
    have b0 : decide (a2 < (a3.length : Int)) = true := decide_eq_true c3
    clear c3
    by_cases c4 : 0 ≤ a2
    ·
     rw [if_pos c4] at H
     have d0 : decide (0 ≤ a2) = true := decide_eq_true c4
     clear c4
     obtain ⟨y101, hy101⟩ : ∃ y_ : List (S36), y_ = (a3.set (a2 : Int).toNat (⟨a4, (yaa a3 a2).f1, (yaa a3 a2).f2, (yaa a3 a2).f3⟩ : S36)) := ⟨_, rfl⟩
     replace H : ((some (y101.set (a2 : Int).toNat (⟨(yaa y101 a2).f0, wrap64 (a4 + 1), (yaa y101 a2).f2, (yaa y101 a2).f3⟩ : S36) : List (S36))).bind fun y102 => ((some (y102.set (a2 : Int).toNat (⟨(yaa y102 a2).f0, (yaa y102 a2).f1, wrap64 ((wrap64 (a4 + 1)) + 1), (yaa y102 a2).f3⟩ : S36) : List (S36))).bind fun y103 => (laws_markPixPixS.l0 k1 (y103.set (a2 : Int).toNat (⟨(yaa y103 a2).f0, (yaa y103 a2).f1, (yaa y103 a2).f2, wrap64 ((wrap64 ((wrap64 (a4 + 1)) + 1)) + 1)⟩ : S36)) (wrap64 ((wrap64 ((wrap64 ((wrap64 (a4 + 1)) + 1)) + 1)) + 1)) (wrap64 (a2 + 1))))) = some (r1, r2) := by first | (rw [hy101]; with_reducible exact H) | (have H2_ := (Option.bind_some _ _).symm.trans H; rw [hy101]; with_reducible exact H2_) | (have H2_ := (Option.bind_some _ _).symm.trans H; with_reducible exact H2_) | with_reducible exact H | (rw [hy101]; exact H) | exact H
     have Ny101 := yab hy101
     clear hy101
     obtain ⟨y102, hy102⟩ : ∃ y_ : List (S36), y_ = (y101.set (a2 : Int).toNat (⟨(yaa y101 a2).f0, wrap64 (a4 + 1), (yaa y101 a2).f2, (yaa y101 a2).f3⟩ : S36)) := ⟨_, rfl⟩
     replace H : ((some (y102.set (a2 : Int).toNat (⟨(yaa y102 a2).f0, (yaa y102 a2).f1, wrap64 ((wrap64 (a4 + 1)) + 1), (yaa y102 a2).f3⟩ : S36) : List (S36))).bind fun y103 => (laws_markPixPixS.l0 k1 (y103.set (a2 : Int).toNat (⟨(yaa y103 a2).f0, (yaa y103 a2).f1, (yaa y103 a2).f2, wrap64 ((wrap64 ((wrap64 (a4 + 1)) + 1)) + 1)⟩ : S36)) (wrap64 ((wrap64 ((wrap64 ((wrap64 (a4 + 1)) + 1)) + 1)) + 1)) (wrap64 (a2 + 1)))) = some (r1, r2) := by first | (rw [hy102]; with_reducible exact H) | (have H2_ := (Option.bind_some _ _).symm.trans H; rw [hy102]; with_reducible exact H2_) | (have H2_ := (Option.bind_some _ _).symm.trans H; with_reducible exact H2_) | with_reducible exact H | (rw [hy102]; exact H) | exact H
     have Ny102 := yab hy102
     clear hy102
     obtain ⟨y103, hy103⟩ : ∃ y_ : List (S36), y_ = (y102.set (a2 : Int).toNat (⟨(yaa y102 a2).f0, (yaa y102 a2).f1, wrap64 ((wrap64 (a4 + 1)) + 1), (yaa y102 a2).f3⟩ : S36)) := ⟨_, rfl⟩
     replace H : (laws_markPixPixS.l0 k1 (y103.set (a2 : Int).toNat (⟨(yaa y103 a2).f0, (yaa y103 a2).f1, (yaa y103 a2).f2, wrap64 ((wrap64 ((wrap64 (a4 + 1)) + 1)) + 1)⟩ : S36)) (wrap64 ((wrap64 ((wrap64 ((wrap64 (a4 + 1)) + 1)) + 1)) + 1)) (wrap64 (a2 + 1))) = some (r1, r2) := by first | (rw [hy103]; with_reducible exact H) | (have H2_ := (Option.bind_some _ _).symm.trans H; rw [hy103]; with_reducible exact H2_) | (have H2_ := (Option.bind_some _ _).symm.trans H; with_reducible exact H2_) | with_reducible exact H | (rw [hy103]; exact H) | exact H
     have Ny103 := yab hy103
     clear hy103
     obtain ⟨y104, hy104⟩ : ∃ y_ : List (S36), y_ = (y103.set (a2 : Int).toNat (⟨(yaa y103 a2).f0, (yaa y103 a2).f1, (yaa y103 a2).f2, wrap64 ((wrap64 ((wrap64 (a4 + 1)) + 1)) + 1)⟩ : S36)) := ⟨_, rfl⟩
     replace H : (laws_markPixPixS.l0 k1 y104 (wrap64 ((wrap64 ((wrap64 ((wrap64 (a4 + 1)) + 1)) + 1)) + 1)) (wrap64 (a2 + 1))) = some (r1, r2) := by first | (rw [hy104]; with_reducible exact H) | (have H2_ := (Option.bind_some _ _).symm.trans H; rw [hy104]; with_reducible exact H2_) | (have H2_ := (Option.bind_some _ _).symm.trans H; with_reducible exact H2_) | with_reducible exact H | (rw [hy104]; exact H) | exact H
     have Ny104 := yab hy104
     clear hy104
     have H' := yab H
     clear H
     obtain ⟨Ao9, co9, eo9⟩ := Kd.R_slice a5.out
     subst eo9
     have p5 : 0 ≤ (a2 : Int) := of_decide_eq_true (by first | (with_reducible assumption) | assumption)
     have q5 : (a2 : Int) < ((a3.length : Int) : Int) := of_decide_eq_true (by first | (with_reducible assumption) | assumption)
     obtain ⟨go5, co5, eo5, gb5, gl5, cl5, HG5⟩ := Kd.R_form a5.out (by omega)
     (first | cases eo5 | (injection eo5 with ea_ en_ ec_; (first | subst ea_ | (injection ea_ with ea_; subst ea_)); subst ec_; clear en_))
     have GB5 := yab gb5
     have GG5 := yab HG5
     clear gb5 gl5 HG5
     have HMgo5 := yab (show (P0_ go5 ∨ w.heap.size ≤ go5) from (a5.out.1 _ rfl))
     obtain ⟨ce5, hcl5, hM5, hcc5, hfr5⟩ := Kd.R_elem a5.out z36 (a2 : Int) p5 q5
     obtain rfl := k36_openM hM5
     have b2 : wr.cell? ⟨go5, (a2 : Int).toNat * 4, none⟩ = some (.int .i64 ((yaa a3 a2).f0)) := hcc5 0 _ rfl
     have b3 : wr.cell? ⟨go5, (a2 : Int).toNat * 4 + 1, none⟩ = some (.int .i64 ((yaa a3 a2).f1)) := hcc5 1 _ rfl
     have b4 : wr.cell? ⟨go5, (a2 : Int).toNat * 4 + 2, none⟩ = some (.int .i64 ((yaa a3 a2).f2)) := hcc5 2 _ rfl
     have b5 : wr.cell? ⟨go5, (a2 : Int).toNat * 4 + 3, none⟩ = some (.int .i64 ((yaa a3 a2).f3)) := hcc5 3 _ rfl
     have hf5_0 : wr.frozen? ⟨go5, (a2 : Int).toNat * 4, none⟩ = false := hfr5 0
     have hf5_1 : wr.frozen? ⟨go5, (a2 : Int).toNat * 4 + 1, none⟩ = false := hfr5 1
     have hf5_2 : wr.frozen? ⟨go5, (a2 : Int).toNat * 4 + 2, none⟩ = false := hfr5 2
     have hf5_3 : wr.frozen? ⟨go5, (a2 : Int).toNat * 4 + 3, none⟩ = false := hfr5 3
     clear hcl5 hcc5 hfr5 hM5
     replace p5 := eq_true p5
     replace q5 := eq_true q5
     have HX10 := yab (show Kd.R k36 36 wr w0.heap.size (fun k_ => (P0_ k_ ∨ w.heap.size ≤ k_)) (.slice (some ⟨go5, 0, none⟩) a3.length co9) a3 from (upR a5.out))
     obtain ⟨d1, hcl10, hM10, hcc10, hfr10⟩ := Kd.R_elem HX10.out z36 (a2 : Int) (of_decide_eq_true (by first | (with_reducible assumption) | assumption)) (by have h_ : (a2 : Int) < ((a3.length : Int) : Int) := of_decide_eq_true (by first | (with_reducible assumption) | assumption); first | exact h_ | (have e_ := (Kd.R_reads' a5.out).1; omega) | simpa using h_)
     obtain rfl := k36_openM hM10
     have HP10 := Kd.R_seg HX10.out (a2 : Int) (of_decide_eq_true (by first | (with_reducible assumption) | assumption)) (by have h_ : (a2 : Int) < ((a3.length : Int) : Int) := of_decide_eq_true (by first | (with_reducible assumption) | assumption); first | exact h_ | (have e_ := (Kd.R_reads' a5.out).1; omega) | simpa using h_) (seg := [.int .i64 a4]) (j := 0) hcl10 hcc10 (show 1 ≤ 4 from by decide) (x' := (⟨a4, (yaa a3 a2).f1, (yaa a3 a2).f2, (yaa a3 a2).f3⟩ : S36)) (k36_mkM _ _ _ (⟨a4, (yaa a3 a2).f1, (yaa a3 a2).f2, (yaa a3 a2).f3⟩ : S36) ) (fun _ hk => hk)
     have a6 := hcc10 0 _ rfl
     (try simp only [show (k36).sz = 4 from rfl, Nat.mul_one, Nat.add_zero] at a6)
     have hf10_0 := hfr10 0
     (try simp only [show (k36).sz = 4 from rfl, Nat.mul_one, Nat.add_zero] at hf10_0)
     clear hcl10 hcc10 hfr10 hM10
     go_wp2_with (first | ((with_reducible refine gate_store (t := 3) (p := 16) rfl ?_); refine store_event (t := 3) (p := 16) (v := ?vo_w11) (w1 := (wr.setCell ⟨go5, (a2 : Int).toNat * 4, none⟩ (.int .i64 a4))) ?hg ?ho ?hn ?hr ?_; (case ho => rfl); (case hg => rfl); (case hn => rfl); (case hr => first | (go_simp; done) | (go_simp; rfl)); intro w11 hw; have hg : wr.grownBy w11 (some go5) := (by rw [hw]; exact HP10.2); have hp_ : Kd.R k36 36 w11 w0.heap.size (fun k_ => (P0_ k_ ∨ w.heap.size ≤ k_)) (.slice (some ⟨go5, 0, none⟩) a3.length co9) y101 := (by rw [hw, Ny101.out]; exact HP10.1); clear HP10; have n0_ := yab (hp_); have n1_ := yab ((by rw [hw]; exact below_set (HB.out) GB5.out : Below w0.heap.size w0 w11)); have n2_ := yab (Kept.of_grown (S := (fun k_ => P0_ k_)) hg (by repeat (first | (with_reducible first | exact HK.out | apply Kept.alloc | apply Kept.drewN | apply Kept.drew) | exact HK.out)) (fun k_ e_ => (a5.out.1 k_ e_))); clear a5; clear HB; clear HK; have a5 := n0_; have HB := n1_; have HK := n2_; clear n0_ n1_ n2_; clear hg hw hp_; have p6 : 0 ≤ (a2 : Int) := of_decide_eq_true (by first | (with_reducible assumption) | assumption); have q6 : (a2 : Int) < ((a3.length : Int) : Int) := of_decide_eq_true (by first | (with_reducible assumption) | assumption); obtain ⟨ce6, hcl6, hM6, hcc6, hfr6⟩ := Kd.R_elem a5.out z36 (a2 : Int) p6 q6; obtain rfl := k36_openM hM6; have b6 : w11.cell? ⟨go5, (a2 : Int).toNat * 4, none⟩ = some (.int .i64 ((yaa y101 a2).f0)) := hcc6 0 _ rfl; have b7 : w11.cell? ⟨go5, (a2 : Int).toNat * 4 + 1, none⟩ = some (.int .i64 ((yaa y101 a2).f1)) := hcc6 1 _ rfl; have b8 : w11.cell? ⟨go5, (a2 : Int).toNat * 4 + 2, none⟩ = some (.int .i64 ((yaa y101 a2).f2)) := hcc6 2 _ rfl; have b9 : w11.cell? ⟨go5, (a2 : Int).toNat * 4 + 3, none⟩ = some (.int .i64 ((yaa y101 a2).f3)) := hcc6 3 _ rfl; have hf6_0 : w11.frozen? ⟨go5, (a2 : Int).toNat * 4, none⟩ = false := hfr6 0; have hf6_1 : w11.frozen? ⟨go5, (a2 : Int).toNat * 4 + 1, none⟩ = false := hfr6 1; have hf6_2 : w11.frozen? ⟨go5, (a2 : Int).toNat * 4 + 2, none⟩ = false := hfr6 2; have hf6_3 : w11.frozen? ⟨go5, (a2 : Int).toNat * 4 + 3, none⟩ = false := hfr6 3; clear hcl6 hcc6 hfr6 hM6; replace p6 := eq_true p6; replace q6 := eq_true q6; have HX12 := yab (show Kd.R k36 36 w11 w0.heap.size (fun k_ => (P0_ k_ ∨ w.heap.size ≤ k_)) (.slice (some ⟨go5, 0, none⟩) a3.length co9) y101 from (upR a5.out)); obtain ⟨d2, hcl12, hM12, hcc12, hfr12⟩ := Kd.R_elem HX12.out z36 (a2 : Int) (of_decide_eq_true (by first | (with_reducible assumption) | assumption)) (by have h_ : (a2 : Int) < ((a3.length : Int) : Int) := of_decide_eq_true (by first | (with_reducible assumption) | assumption); first | exact h_ | (have e_ := (Kd.R_reads' a5.out).1; omega) | simpa using h_); obtain rfl := k36_openM hM12; have HP12 := Kd.R_seg HX12.out (a2 : Int) (of_decide_eq_true (by first | (with_reducible assumption) | assumption)) (by have h_ : (a2 : Int) < ((a3.length : Int) : Int) := of_decide_eq_true (by first | (with_reducible assumption) | assumption); first | exact h_ | (have e_ := (Kd.R_reads' a5.out).1; omega) | simpa using h_) (seg := [.int .i64 (wrap64 (a4 + 1))]) (j := 1) hcl12 hcc12 (show 2 ≤ 4 from by decide) (x' := (⟨(yaa y101 a2).f0, wrap64 (a4 + 1), (yaa y101 a2).f2, (yaa y101 a2).f3⟩ : S36)) (k36_mkM _ _ _ (⟨(yaa y101 a2).f0, wrap64 (a4 + 1), (yaa y101 a2).f2, (yaa y101 a2).f3⟩ : S36) ) (fun _ hk => hk); have a7 := hcc12 1 _ rfl; (try simp only [show (k36).sz = 4 from rfl, Nat.mul_one, Nat.add_zero] at a7); have hf12_1 := hfr12 1; (try simp only [show (k36).sz = 4 from rfl, Nat.mul_one, Nat.add_zero] at hf12_1); clear hcl12 hcc12 hfr12 hM12) | ((with_reducible refine gate_store (t := 3) (p := 23) rfl ?_); refine store_event (t := 3) (p := 23) (v := ?vo_w13) (w1 := (w11.setCell ⟨go5, (a2 : Int).toNat * 4 + 1, none⟩ (.int .i64 (wrap64 (a4 + 1))))) ?hg ?ho ?hn ?hr ?_; (case ho => rfl); (case hg => rfl); (case hn => rfl); (case hr => first | (go_simp; done) | (go_simp; rfl)); intro w13 hw; have hg : w11.grownBy w13 (some go5) := (by rw [hw]; exact HP12.2); have hp_ : Kd.R k36 36 w13 w0.heap.size (fun k_ => (P0_ k_ ∨ w.heap.size ≤ k_)) (.slice (some ⟨go5, 0, none⟩) a3.length co9) y102 := (by rw [hw, Ny102.out]; exact HP12.1); clear HP12; have n0_ := yab (hp_); have n1_ := yab ((by rw [hw]; exact below_set (HB.out) GB5.out : Below w0.heap.size w0 w13)); have n2_ := yab (Kept.of_grown (S := (fun k_ => P0_ k_)) hg (by repeat (first | (with_reducible first | exact HK.out | apply Kept.alloc | apply Kept.drewN | apply Kept.drew) | exact HK.out)) (fun k_ e_ => (a5.out.1 k_ e_))); clear a5; clear HB; clear HK; have a5 := n0_; have HB := n1_; have HK := n2_; clear n0_ n1_ n2_; clear hg hw hp_; have p7 : 0 ≤ (a2 : Int) := of_decide_eq_true (by first | (with_reducible assumption) | assumption); have q7 : (a2 : Int) < ((a3.length : Int) : Int) := of_decide_eq_true (by first | (with_reducible assumption) | assumption); obtain ⟨ce7, hcl7, hM7, hcc7, hfr7⟩ := Kd.R_elem a5.out z36 (a2 : Int) p7 q7; obtain rfl := k36_openM hM7; have c0 : w13.cell? ⟨go5, (a2 : Int).toNat * 4, none⟩ = some (.int .i64 ((yaa y102 a2).f0)) := hcc7 0 _ rfl; have c1 : w13.cell? ⟨go5, (a2 : Int).toNat * 4 + 1, none⟩ = some (.int .i64 ((yaa y102 a2).f1)) := hcc7 1 _ rfl; have c2 : w13.cell? ⟨go5, (a2 : Int).toNat * 4 + 2, none⟩ = some (.int .i64 ((yaa y102 a2).f2)) := hcc7 2 _ rfl; have c5 : w13.cell? ⟨go5, (a2 : Int).toNat * 4 + 3, none⟩ = some (.int .i64 ((yaa y102 a2).f3)) := hcc7 3 _ rfl; have hf7_0 : w13.frozen? ⟨go5, (a2 : Int).toNat * 4, none⟩ = false := hfr7 0; have hf7_1 : w13.frozen? ⟨go5, (a2 : Int).toNat * 4 + 1, none⟩ = false := hfr7 1; have hf7_2 : w13.frozen? ⟨go5, (a2 : Int).toNat * 4 + 2, none⟩ = false := hfr7 2; have hf7_3 : w13.frozen? ⟨go5, (a2 : Int).toNat * 4 + 3, none⟩ = false := hfr7 3; clear hcl7 hcc7 hfr7 hM7; replace p7 := eq_true p7; replace q7 := eq_true q7; have HX14 := yab (show Kd.R k36 36 w13 w0.heap.size (fun k_ => (P0_ k_ ∨ w.heap.size ≤ k_)) (.slice (some ⟨go5, 0, none⟩) a3.length co9) y102 from (upR a5.out)); obtain ⟨d3, hcl14, hM14, hcc14, hfr14⟩ := Kd.R_elem HX14.out z36 (a2 : Int) (of_decide_eq_true (by first | (with_reducible assumption) | assumption)) (by have h_ : (a2 : Int) < ((a3.length : Int) : Int) := of_decide_eq_true (by first | (with_reducible assumption) | assumption); first | exact h_ | (have e_ := (Kd.R_reads' a5.out).1; omega) | simpa using h_); obtain rfl := k36_openM hM14; have HP14 := Kd.R_seg HX14.out (a2 : Int) (of_decide_eq_true (by first | (with_reducible assumption) | assumption)) (by have h_ : (a2 : Int) < ((a3.length : Int) : Int) := of_decide_eq_true (by first | (with_reducible assumption) | assumption); first | exact h_ | (have e_ := (Kd.R_reads' a5.out).1; omega) | simpa using h_) (seg := [.int .i64 (wrap64 ((wrap64 (a4 + 1)) + 1))]) (j := 2) hcl14 hcc14 (show 3 ≤ 4 from by decide) (x' := (⟨(yaa y102 a2).f0, (yaa y102 a2).f1, wrap64 ((wrap64 (a4 + 1)) + 1), (yaa y102 a2).f3⟩ : S36)) (k36_mkM _ _ _ (⟨(yaa y102 a2).f0, (yaa y102 a2).f1, wrap64 ((wrap64 (a4 + 1)) + 1), (yaa y102 a2).f3⟩ : S36) ) (fun _ hk => hk); have a8 := hcc14 2 _ rfl; (try simp only [show (k36).sz = 4 from rfl, Nat.mul_one, Nat.add_zero] at a8); have hf14_2 := hfr14 2; (try simp only [show (k36).sz = 4 from rfl, Nat.mul_one, Nat.add_zero] at hf14_2); clear hcl14 hcc14 hfr14 hM14) | ((with_reducible refine gate_store (t := 3) (p := 30) rfl ?_); refine store_event (t := 3) (p := 30) (v := ?vo_w15) (w1 := (w13.setCell ⟨go5, (a2 : Int).toNat * 4 + 2, none⟩ (.int .i64 (wrap64 ((wrap64 (a4 + 1)) + 1))))) ?hg ?ho ?hn ?hr ?_; (case ho => rfl); (case hg => rfl); (case hn => rfl); (case hr => first | (go_simp; done) | (go_simp; rfl)); intro w15 hw; have hg : w13.grownBy w15 (some go5) := (by rw [hw]; exact HP14.2); have hp_ : Kd.R k36 36 w15 w0.heap.size (fun k_ => (P0_ k_ ∨ w.heap.size ≤ k_)) (.slice (some ⟨go5, 0, none⟩) a3.length co9) y103 := (by rw [hw, Ny103.out]; exact HP14.1); clear HP14; have n0_ := yab (hp_); have n1_ := yab ((by rw [hw]; exact below_set (HB.out) GB5.out : Below w0.heap.size w0 w15)); have n2_ := yab (Kept.of_grown (S := (fun k_ => P0_ k_)) hg (by repeat (first | (with_reducible first | exact HK.out | apply Kept.alloc | apply Kept.drewN | apply Kept.drew) | exact HK.out)) (fun k_ e_ => (a5.out.1 k_ e_))); clear a5; clear HB; clear HK; have a5 := n0_; have HB := n1_; have HK := n2_; clear n0_ n1_ n2_; clear hg hw hp_; have p8 : 0 ≤ (a2 : Int) := of_decide_eq_true (by first | (with_reducible assumption) | assumption); have q8 : (a2 : Int) < ((a3.length : Int) : Int) := of_decide_eq_true (by first | (with_reducible assumption) | assumption); obtain ⟨ce8, hcl8, hM8, hcc8, hfr8⟩ := Kd.R_elem a5.out z36 (a2 : Int) p8 q8; obtain rfl := k36_openM hM8; have c6 : w15.cell? ⟨go5, (a2 : Int).toNat * 4, none⟩ = some (.int .i64 ((yaa y103 a2).f0)) := hcc8 0 _ rfl; have c7 : w15.cell? ⟨go5, (a2 : Int).toNat * 4 + 1, none⟩ = some (.int .i64 ((yaa y103 a2).f1)) := hcc8 1 _ rfl; have c8 : w15.cell? ⟨go5, (a2 : Int).toNat * 4 + 2, none⟩ = some (.int .i64 ((yaa y103 a2).f2)) := hcc8 2 _ rfl; have c9 : w15.cell? ⟨go5, (a2 : Int).toNat * 4 + 3, none⟩ = some (.int .i64 ((yaa y103 a2).f3)) := hcc8 3 _ rfl; have hf8_0 : w15.frozen? ⟨go5, (a2 : Int).toNat * 4, none⟩ = false := hfr8 0; have hf8_1 : w15.frozen? ⟨go5, (a2 : Int).toNat * 4 + 1, none⟩ = false := hfr8 1; have hf8_2 : w15.frozen? ⟨go5, (a2 : Int).toNat * 4 + 2, none⟩ = false := hfr8 2; have hf8_3 : w15.frozen? ⟨go5, (a2 : Int).toNat * 4 + 3, none⟩ = false := hfr8 3; clear hcl8 hcc8 hfr8 hM8; replace p8 := eq_true p8; replace q8 := eq_true q8; have HX16 := yab (show Kd.R k36 36 w15 w0.heap.size (fun k_ => (P0_ k_ ∨ w.heap.size ≤ k_)) (.slice (some ⟨go5, 0, none⟩) a3.length co9) y103 from (upR a5.out)); obtain ⟨d4, hcl16, hM16, hcc16, hfr16⟩ := Kd.R_elem HX16.out z36 (a2 : Int) (of_decide_eq_true (by first | (with_reducible assumption) | assumption)) (by have h_ : (a2 : Int) < ((a3.length : Int) : Int) := of_decide_eq_true (by first | (with_reducible assumption) | assumption); first | exact h_ | (have e_ := (Kd.R_reads' a5.out).1; omega) | simpa using h_); obtain rfl := k36_openM hM16; have HP16 := Kd.R_seg HX16.out (a2 : Int) (of_decide_eq_true (by first | (with_reducible assumption) | assumption)) (by have h_ : (a2 : Int) < ((a3.length : Int) : Int) := of_decide_eq_true (by first | (with_reducible assumption) | assumption); first | exact h_ | (have e_ := (Kd.R_reads' a5.out).1; omega) | simpa using h_) (seg := [.int .i64 (wrap64 ((wrap64 ((wrap64 (a4 + 1)) + 1)) + 1))]) (j := 3) hcl16 hcc16 (show 4 ≤ 4 from by decide) (x' := (⟨(yaa y103 a2).f0, (yaa y103 a2).f1, (yaa y103 a2).f2, wrap64 ((wrap64 ((wrap64 (a4 + 1)) + 1)) + 1)⟩ : S36)) (k36_mkM _ _ _ (⟨(yaa y103 a2).f0, (yaa y103 a2).f1, (yaa y103 a2).f2, wrap64 ((wrap64 ((wrap64 (a4 + 1)) + 1)) + 1)⟩ : S36) ) (fun _ hk => hk); have a9 := hcc16 3 _ rfl; (try simp only [show (k36).sz = 4 from rfl, Nat.mul_one, Nat.add_zero] at a9); have hf16_3 := hfr16 3; (try simp only [show (k36).sz = 4 from rfl, Nat.mul_one, Nat.add_zero] at hf16_3); clear hcl16 hcc16 hfr16 hM16) | ((with_reducible refine gate_store (t := 3) (p := 37) rfl ?_); refine store_event (t := 3) (p := 37) (v := ?vo_w17) (w1 := (w15.setCell ⟨go5, (a2 : Int).toNat * 4 + 3, none⟩ (.int .i64 (wrap64 ((wrap64 ((wrap64 (a4 + 1)) + 1)) + 1))))) ?hg ?ho ?hn ?hr ?_; (case ho => rfl); (case hg => rfl); (case hn => rfl); (case hr => first | (go_simp; done) | (go_simp; rfl)); intro w17 hw; have hg : w15.grownBy w17 (some go5) := (by rw [hw]; exact HP16.2); have hp_ : Kd.R k36 36 w17 w0.heap.size (fun k_ => (P0_ k_ ∨ w.heap.size ≤ k_)) (.slice (some ⟨go5, 0, none⟩) a3.length co9) y104 := (by rw [hw, Ny104.out]; exact HP16.1); clear HP16; have n0_ := yab (hp_); have n1_ := yab ((by rw [hw]; exact below_set (HB.out) GB5.out : Below w0.heap.size w0 w17)); have n2_ := yab (Kept.of_grown (S := (fun k_ => P0_ k_)) hg (by repeat (first | (with_reducible first | exact HK.out | apply Kept.alloc | apply Kept.drewN | apply Kept.drew) | exact HK.out)) (fun k_ e_ => (a5.out.1 k_ e_))); clear a5; clear HB; clear HK; have a5 := n0_; have HB := n1_; have HK := n2_; clear n0_ n1_ n2_; clear hg hw hp_))
     go_roundg k1
     case measure => have := HK1.out; omega
     case rel => exact ⟨(y104), (wrap64 ((wrap64 ((wrap64 ((wrap64 (a4 + 1)) + 1)) + 1)) + 1)), (wrap64 (a2 + 1)), (by first | rfl | (simp; done) | (simp [*]; done)), (by first | rfl | (simp; done) | (simp [*]; done)), H', ⟨by have := HK1.out; omega⟩, ⟨by exact upR a5.out⟩, ⟨by repeat (first | (with_reducible first | exact HK.out | apply Kept.alloc | apply Kept.drewN | apply Kept.drew) | exact HK.out)⟩, ⟨by repeat (first | (with_reducible first | exact HB.out | apply below_alloc | apply pw_below_drewN | apply below_drew1) | exact HB.out)⟩⟩
    ·
     rw [if_neg c4] at H
     exact absurd H (by simp)
   ·
    rw [if_neg c3] at H
    have b0 : decide (a2 < (a3.length : Int)) = false := decide_eq_false c3
    clear c3
    simp only [Option.some.injEq, Prod.mk.injEq] at H
    obtain ⟨rfl, rfl⟩ := H
    obtain ⟨d5, d6, b1⟩ := Kd.R_slice a5.out
    subst b1
    go_wp2
    go_ret
    exact ⟨by first | rfl | (simp [errW_none, errW_some] <;> rfl) | (simp [*, errW_none, errW_some] <;> rfl), by exact upR a5.out, by repeat (first | (with_reducible first | exact HB.out | apply below_alloc | apply pw_below_drewN | apply below_drew1) | exact HB.out), by repeat (first | (with_reducible first | exact HK.out | apply Kept.alloc | apply Kept.drewN | apply Kept.drew) | exact HK.out)⟩

end Go.Proofs.Ytoifpgkfpdeglaa.X

namespace Go.Proofs.Ytoifpgkfpdeglaa.X
open Go.RowKit Go.Proofs.YtoifpgkfpdeglaaW.PrintWords Go.Proofs.YtoifpgkfpdeglaaW.PrintLast Go.Proofs.YtoifpgkfpdeglaaW.PrintMore
attribute [local go_sem] max2_int min2_int max_two min_two max_three min_three max_four min_four
set_option linter.unusedVariables false
set_option linter.unusedSimpArgs false

/-! ### laws_markRasRaster: function 24 -/
def laws_markRasRaster.f (k : Nat) (a0_0 : Int) (a0_1 : Int) (l0_2 : List (S36)) (a1 : Int) : Option (Int × (List (S36))) := (laws_markPixPixS.f k l0_2 a1).bind fun bt102 => (some (bt102.1, bt102.2))
set_option maxHeartbeats 8000000 in
set_option maxRecDepth 100000 in
theorem laws_markRasRaster.calls (k : Nat) (a0_0 : Int) (a0_1 : Int) (P0_2_ : Nat → Prop) (u9000_ : Value) (l0_2 : List (S36)) (a1 : Int) (r1 : Int) (r2 : List (S36)) (w0 w : World) (hB : Below w0.heap.size w0 w) (ho0_2 : Kd.R k36 36 w w0.heap.size P0_2_ u9000_ l0_2) (h : laws_markRasRaster.f k a0_0 a0_1 l0_2 a1 = some (r1, r2)) :
  Calls Try.prog 24 #[.agg #[.int .i64 a0_0, .int .i64 a0_1, u9000_], .int .i64 a1] w fun e w' => e = .returned (.int .i64 r1) ∧ Kd.R k36 36 w' w0.heap.size (fun k_ => (P0_2_ k_ ∨ w.heap.size ≤ k_)) u9000_ r2 ∧ Below w0.heap.size w0 w' ∧ Kept w w' (fun k_ => P0_2_ k_) := by
 have hu25 := Try.underlying25
 have a4 := Aside0.mk (show Kd.R k36 36 w w0.heap.size (fun k_ => (P0_2_ k_ ∨ w.heap.size ≤ k_)) u9000_ l0_2 from Kd.R_mono ho0_2 (fun k_ hk => (.inl hk)))
 have HK := Aside0.mk (Kept.refl w (fun k_ => P0_2_ k_))
 have HW0 := Aside0.mk hB.size
 have HB := Aside0.mk hB
 clear hB
 have H : ((laws_markPixPixS.f k l0_2 a1).bind fun a7 => (some (a7.1, a7.2))) = some (r1, r2) := h
 clear h
 replace H := Option.bind_eq_some_iff.mp H
 obtain ⟨⟨a9, b0⟩, A30, H⟩ := H
 replace H : (some (a9, b0)) = some (r1, r2) := H
 have A3 := Aside0.mk A30
 clear A30
 simp only [Option.some.injEq, Prod.mk.injEq] at H
 obtain ⟨rfl, rfl⟩ := H
 obtain ⟨Ao4, co4, eo4⟩ := Kd.R_slice a4.out
 subst eo4
 go_enter Try.func24, Try.ntmps24
 go_wp2_with (first | ((with_reducible refine gate_dst (N := 2) rfl ?_); refine box_event ?hg (N := 2) ?hd (cs := #[.int .i64 a0_0, .int .i64 a0_1, .slice Ao4 l0_2.length co4]) (t := 25) ?hr ?_; (case hd => rfl); (case hg => rfl); (case hr => first | (go_simp; done) | (go_simp; rfl)); intro a6 hg w5 hbox hb; have n0_ := Aside0.mk (Kd.R_below (upR a4.out) hb); have n1_ := Aside0.mk (Kept.below (S := (fun k_ => P0_2_ k_)) (by repeat (first | (with_reducible first | exact HK.out | apply Kept.alloc | apply Kept.drewN | apply Kept.drew) | exact HK.out)) hb); have n2_ := Aside0.mk (below_step (by repeat (first | (with_reducible first | exact HB.out | apply below_alloc | apply pw_below_drewN | apply below_drew1) | exact HB.out)) hb); have n3_ := Aside0.mk (hbox); have n4_ := Aside0.mk ((by rw [hg]; exact (by first | exact HK.out.1 | exact (show Kept w _ (fun k_ => P0_2_ k_) from by repeat (first | (with_reducible first | exact HK.out | apply Kept.alloc | apply Kept.drewN | apply Kept.drew) | exact HK.out)).1) : w.heap.size ≤ a6)); have n5_ := Aside0.mk ((by rw [hg]; exact (below_size (by repeat (first | (with_reducible first | exact HB.out | apply below_alloc | apply pw_below_drewN | apply below_drew1) | exact HB.out))) : w0.heap.size ≤ a6)); clear a4; clear HK; clear HB; have a4 := n0_; have HK := n1_; have HB := n2_; have a5 := n3_; have a8 := n4_; have b7 := n5_; clear n0_ n1_ n2_ n3_ n4_ n5_; clear hb hbox hg; have b1 : w5.cell? ⟨a6, 0, none⟩ = some (.int .i64 a0_0) := (blk_cell a5.out 0).trans rfl; have b2 : w5.cell? ⟨a6, 1, none⟩ = some (.int .i64 a0_1) := (blk_cell a5.out 1).trans rfl; have b3 : w5.cell? ⟨a6, 2, none⟩ = some (.slice Ao4 l0_2.length co4) := (blk_cell a5.out 2).trans rfl; have b4 := blk_frozen a5.out 0; have b5 := blk_frozen a5.out 1; have b6 := blk_frozen a5.out 2) | ((with_reducible refine gate_callee (f := 48) rfl ?_); refine goesL_ (some 8) rfl rfl Try.func48 (by kernel_rfl) rfl #[.slice Ao4 l0_2.length co4, .int .i64 a1] rfl (by (try simp only [List.map_toArray, List.map_cons, List.map_nil]); first | done | rfl | (simp only [List.length_drop, List.length_take]; rfl)) ?_; (with_reducible refine (laws_markPixPixS.calls k (fun k_ => some k_ = (.slice Ao4 l0_2.length co4 : Value).ownBlock) (.slice Ao4 l0_2.length co4) l0_2 a1 a9 b0 w0 _ ?side1 ?side2 A3.out).mono ?_); (case side1 => repeat (first | (with_reducible first | exact HB.out | apply below_alloc | apply pw_below_drewN | apply below_drew1 | refine below_set ?_ (Aside0.out ‹_›)) | exact HB.out)); (case side2 => exact Kd.R_tight rfl a4.out); rintro e w7 ⟨rfl, hy0, hb, hkp⟩; refine ⟨_, rfl, ?_⟩; have n0_ := Aside0.mk (Kd.R_reok rfl hy0 (fun k_ e_ => a4.out.1 k_ e_)); have n1_ := Aside0.mk (blk_kept (upB a5.out) hkp (fun hs_ => (fun e_ => (Kd.R_ne a4.out a5.out (by decide)) e_) hs_)); have n2_ := Aside0.mk (Kept.then_ (S := (fun k_ => P0_2_ k_)) (by repeat (first | (with_reducible first | exact HK.out | apply Kept.alloc | apply Kept.drewN | apply Kept.drew | refine Kept.setCell ?_ (.inr a8.out) _) | exact HK.out)) hkp (fun k_ hs_ => (fun e_ => (a4.out.1 k_ e_.symm)) hs_)); have n3_ := Aside0.mk (hb); clear a4; clear a5; clear HK; clear HB; have a4 := n0_; have a5 := n1_; have HK := n2_; have HB := n3_; clear n0_ n1_ n2_ n3_; (try clear hb); (try clear hkp); (try clear hy0)))
 go_ret
 exact ⟨by first | rfl | (simp [errW_none, errW_some] <;> rfl) | (simp [*, errW_none, errW_some] <;> rfl), by exact upR a4.out, by repeat (first | (with_reducible first | exact HB.out | apply below_alloc | apply pw_below_drewN | apply below_drew1 | refine below_set ?_ (Aside0.out ‹_›)) | exact HB.out), by repeat (first | (with_reducible first | exact HK.out | apply Kept.alloc | apply Kept.drewN | apply Kept.drew | refine Kept.setCell ?_ (.inr a8.out) _) | exact HK.out)⟩

end Go.Proofs.Ytoifpgkfpdeglaa.X

namespace Go.Proofs.Ytoifpgkfpdeglaa.X
open Go.RowKit Go.Proofs.YtoifpgkfpdeglaaW.PrintWords Go.Proofs.YtoifpgkfpdeglaaW.PrintLast Go.Proofs.YtoifpgkfpdeglaaW.PrintMore
attribute [local go_sem] max2_int min2_int max_two min_two max_three min_three max_four min_four
set_option linter.unusedVariables false
set_option linter.unusedSimpArgs false

/-! ### laws_heldPixPixS: function 49 -/
def laws_heldPixPixS.l0 : Nat → List (S36) → Int → Int → Option (Int)
 | 0, _, _, _ => none
 | k + 1, x0, x1, x5 => if x5 < (x0.length : Int) then (if 0 ≤ x5 then (if ((rd_T36 x0 x5).f0) = x1 then (if ((rd_T36 x0 x5).f1) = (wrap64 (x1 + 1)) then (if ((rd_T36 x0 x5).f2) = (wrap64 ((wrap64 (x1 + 1)) + 1)) then (if ((rd_T36 x0 x5).f3) = (wrap64 ((wrap64 ((wrap64 (x1 + 1)) + 1)) + 1)) then (laws_heldPixPixS.l0 k x0 (wrap64 ((wrap64 ((wrap64 ((wrap64 (x1 + 1)) + 1)) + 1)) + 1)) (wrap64 (x5 + 1))) else (some (-1))) else (some (-1))) else (some (-1))) else (some (-1))) else (none)) else (some x1)
def laws_heldPixPixS.f (k : Nat) (l0 : List (S36)) (a1 : Int) : Option (Int) := laws_heldPixPixS.l0 k l0 a1 0
set_option maxHeartbeats 8000000 in
set_option maxRecDepth 100000 in
theorem laws_heldPixPixS.calls (k : Nat) (A0 : Option Addr) (c0 : Nat) (l0 : List (S36)) (a1 : Int) (r : Int) (w : World) (hr0 : Kd.C k36 w A0 l0.length l0) (hc0 : l0.length ≤ c0) (h : laws_heldPixPixS.f k l0 a1 = some r) :
  Calls Try.prog 49 #[.slice A0 l0.length c0, .int .i64 a1] w fun e w' => e = .returned (.int .i64 r) ∧ Drawn0 w w' := by
 have HR0 := Aside0.mk hr0
 have HC0 := Aside0.mk hc0
 clear hr0 hc0
 have H : (laws_heldPixPixS.l0 k l0 a1 0) = some r := h
 clear h
 have H' := Aside0.mk H
 clear H
 go_enter Try.func49, Try.ntmps49
 go_wp2
 (try simp only [Act.put, List.setIfInBounds_toArray, List.set_cons_zero, List.set_cons_succ])
 go_loopg [1, 5] k (fun kq v1 v5 w' => ∃ (a3 : Int) (a2 : Int), v1 = .int .i64 a3 ∧ v5 = .int .i64 a2 ∧ Aside0 (laws_heldPixPixS.l0 kq l0 a3 a2 = some r) ∧ Aside0 (kq ≤ k) ∧ Drawn0 w w')
 case atStart => exact ⟨(a1), (0), (by first | rfl | (simp; done) | (simp [*]; done)), (by first | rfl | (simp; done) | (simp [*]; done)), H', ⟨Nat.le_refl _⟩, by repeat (first | exact Drawn0.refl _ | apply Drawn0.step)⟩
 case round =>
  clear H'
  try clear p2
  obtain ⟨a3, a2, rfl, rfl, HA, HK1, ⟨m1, rfl⟩⟩ := hrel
  cases gk with
  | zero => exact absurd HA.out (by simp [laws_heldPixPixS.l0])
  | succ k1 =>
   have H := HA.out
   clear HA
   simp only [laws_heldPixPixS.l0] at H
   by_cases c3 : a2 < (l0.length : Int)
   ·
    rw [if_pos c3] at H
    have d1 : decide (a2 < (l0.length : Int)) = true := decide_eq_true c3
    clear c3
    by_cases c4 : 0 ≤ a2
    ·
     rw [if_pos c4] at H
     have e0 : decide (0 ≤ a2) = true := decide_eq_true c4
     clear c4
     by_cases c5 : ((rd_T36 l0 a2).f0) = a3
     ·
      rw [if_pos c5] at H
      have d2 : (((rd_T36 l0 a2).f0) == a3) = true := beq_iff_eq.mpr c5
      have d3 : (((rd_T36 l0 a2).f0) != a3) = false := bne_eq_false_iff_eq.mpr c5
      clear c5
      by_cases c6 : ((rd_T36 l0 a2).f1) = (wrap64 (a3 + 1))
      ·
       rw [if_pos c6] at H
       have d4 : (((rd_T36 l0 a2).f1) == (wrap64 (a3 + 1))) = true := beq_iff_eq.mpr c6
       have d5 : (((rd_T36 l0 a2).f1) != (wrap64 (a3 + 1))) = false := bne_eq_false_iff_eq.mpr c6
       clear c6
       by_cases c7 : ((rd_T36 l0 a2).f2) = (wrap64 ((wrap64 (a3 + 1)) + 1))
       ·
        rw [if_pos c7] at H
        have d6 : (((rd_T36 l0 a2).f2) == (wrap64 ((wrap64 (a3 + 1)) + 1))) = true := beq_iff_eq.mpr c7
        have d7 : (((rd_T36 l0 a2).f2) != (wrap64 ((wrap64 (a3 + 1)) + 1))) = false := bne_eq_false_iff_eq.mpr c7
        clear c7
        by_cases c8 : ((rd_T36 l0 a2).f3) = (wrap64 ((wrap64 ((wrap64 (a3 + 1)) + 1)) + 1))
        ·
         rw [if_pos c8] at H
         have d8 : (((rd_T36 l0 a2).f3) == (wrap64 ((wrap64 ((wrap64 (a3 + 1)) + 1)) + 1))) = true := beq_iff_eq.mpr c8
         have d9 : (((rd_T36 l0 a2).f3) != (wrap64 ((wrap64 ((wrap64 (a3 + 1)) + 1)) + 1))) = false := bne_eq_false_iff_eq.mpr c8
         clear c8
         have H' := Aside0.mk H
         clear H
         have p101 : 0 ≤ (a2 : Int) := of_decide_eq_true (by first | (with_reducible assumption) | assumption)
         have q101 : a2 < (l0.length : Int) := of_decide_eq_true (by first | (with_reducible assumption) | assumption)
         obtain ⟨ad101, a8, a4, a5, a6, a7⟩ := at_T36 HR0.out a2 p101 q101
         cases a8
         replace p101 := eq_true p101
         replace q101 := eq_true q101
         have p102 : 0 ≤ (a2 : Int) := of_decide_eq_true (by first | (with_reducible assumption) | assumption)
         have q102 : a2 < (l0.length : Int) := of_decide_eq_true (by first | (with_reducible assumption) | assumption)
         obtain ⟨ad102, b3, a9, b0, b1, b2⟩ := at_T36 HR0.out a2 p102 q102
         obtain rfl : ad101 = ad102 := (by injection b3)
         replace p102 := eq_true p102
         replace q102 := eq_true q102
         have p103 : 0 ≤ (a2 : Int) := of_decide_eq_true (by first | (with_reducible assumption) | assumption)
         have q103 : a2 < (l0.length : Int) := of_decide_eq_true (by first | (with_reducible assumption) | assumption)
         obtain ⟨ad103, b8, b4, b5, b6, b7⟩ := at_T36 HR0.out a2 p103 q103
         obtain rfl : ad101 = ad103 := (by injection b8)
         replace p103 := eq_true p103
         replace q103 := eq_true q103
         have p104 : 0 ≤ (a2 : Int) := of_decide_eq_true (by first | (with_reducible assumption) | assumption)
         have q104 : a2 < (l0.length : Int) := of_decide_eq_true (by first | (with_reducible assumption) | assumption)
         obtain ⟨ad104, d0, b9, c1, c2, c9⟩ := at_T36 HR0.out a2 p104 q104
         obtain rfl : ad101 = ad104 := (by injection d0)
         replace p104 := eq_true p104
         replace q104 := eq_true q104
         go_wp2
         go_roundg k1
         case measure => have := HK1.out; omega
         case rel => exact ⟨(wrap64 ((wrap64 ((wrap64 ((wrap64 (a3 + 1)) + 1)) + 1)) + 1)), (wrap64 (a2 + 1)), (by first | rfl | (simp; done) | (simp [*]; done)), (by first | rfl | (simp; done) | (simp [*]; done)), H', ⟨by have := HK1.out; omega⟩, by repeat (first | exact Drawn0.refl _ | apply Drawn0.step)⟩
        ·
         rw [if_neg c8] at H
         have d8 : (((rd_T36 l0 a2).f3) == (wrap64 ((wrap64 ((wrap64 (a3 + 1)) + 1)) + 1))) = false := beq_eq_false_iff_ne.mpr c8
         have d9 : (((rd_T36 l0 a2).f3) != (wrap64 ((wrap64 ((wrap64 (a3 + 1)) + 1)) + 1))) = true := bne_iff_ne.mpr c8
         obtain rfl := Option.some.inj H
         have p101 : 0 ≤ (a2 : Int) := of_decide_eq_true (by first | (with_reducible assumption) | assumption)
         have q101 : a2 < (l0.length : Int) := of_decide_eq_true (by first | (with_reducible assumption) | assumption)
         obtain ⟨ad101, a8, a4, a5, a6, a7⟩ := at_T36 HR0.out a2 p101 q101
         cases a8
         replace p101 := eq_true p101
         replace q101 := eq_true q101
         have p102 : 0 ≤ (a2 : Int) := of_decide_eq_true (by first | (with_reducible assumption) | assumption)
         have q102 : a2 < (l0.length : Int) := of_decide_eq_true (by first | (with_reducible assumption) | assumption)
         obtain ⟨ad102, b3, a9, b0, b1, b2⟩ := at_T36 HR0.out a2 p102 q102
         obtain rfl : ad101 = ad102 := (by injection b3)
         replace p102 := eq_true p102
         replace q102 := eq_true q102
         have p103 : 0 ≤ (a2 : Int) := of_decide_eq_true (by first | (with_reducible assumption) | assumption)
         have q103 : a2 < (l0.length : Int) := of_decide_eq_true (by first | (with_reducible assumption) | assumption)
         obtain ⟨ad103, b8, b4, b5, b6, b7⟩ := at_T36 HR0.out a2 p103 q103
         obtain rfl : ad101 = ad103 := (by injection b8)
         replace p103 := eq_true p103
         replace q103 := eq_true q103
         have p104 : 0 ≤ (a2 : Int) := of_decide_eq_true (by first | (with_reducible assumption) | assumption)
         have q104 : a2 < (l0.length : Int) := of_decide_eq_true (by first | (with_reducible assumption) | assumption)
         obtain ⟨ad104, d0, b9, c1, c2, c9⟩ := at_T36 HR0.out a2 p104 q104
         obtain rfl : ad101 = ad104 := (by injection d0)
         replace p104 := eq_true p104
         replace q104 := eq_true q104
         go_wp2
         go_ret
         exact ⟨by first | rfl | (simp; done) | (simp [*]; done), by repeat (first | exact Drawn0.refl _ | apply Drawn0.step)⟩
       ·
        rw [if_neg c7] at H
        have d6 : (((rd_T36 l0 a2).f2) == (wrap64 ((wrap64 (a3 + 1)) + 1))) = false := beq_eq_false_iff_ne.mpr c7
        have d7 : (((rd_T36 l0 a2).f2) != (wrap64 ((wrap64 (a3 + 1)) + 1))) = true := bne_iff_ne.mpr c7
        obtain rfl := Option.some.inj H
        have p101 : 0 ≤ (a2 : Int) := of_decide_eq_true (by first | (with_reducible assumption) | assumption)
        have q101 : a2 < (l0.length : Int) := of_decide_eq_true (by first | (with_reducible assumption) | assumption)
        obtain ⟨ad101, a8, a4, a5, a6, a7⟩ := at_T36 HR0.out a2 p101 q101
        cases a8
        replace p101 := eq_true p101
        replace q101 := eq_true q101
        have p102 : 0 ≤ (a2 : Int) := of_decide_eq_true (by first | (with_reducible assumption) | assumption)
        have q102 : a2 < (l0.length : Int) := of_decide_eq_true (by first | (with_reducible assumption) | assumption)
        obtain ⟨ad102, b3, a9, b0, b1, b2⟩ := at_T36 HR0.out a2 p102 q102
        obtain rfl : ad101 = ad102 := (by injection b3)
        replace p102 := eq_true p102
        replace q102 := eq_true q102
        have p103 : 0 ≤ (a2 : Int) := of_decide_eq_true (by first | (with_reducible assumption) | assumption)
        have q103 : a2 < (l0.length : Int) := of_decide_eq_true (by first | (with_reducible assumption) | assumption)
        obtain ⟨ad103, b8, b4, b5, b6, b7⟩ := at_T36 HR0.out a2 p103 q103
        obtain rfl : ad101 = ad103 := (by injection b8)
        replace p103 := eq_true p103
        replace q103 := eq_true q103
        go_wp2
        go_ret
        exact ⟨by first | rfl | (simp; done) | (simp [*]; done), by repeat (first | exact Drawn0.refl _ | apply Drawn0.step)⟩
      ·
       rw [if_neg c6] at H
       have d4 : (((rd_T36 l0 a2).f1) == (wrap64 (a3 + 1))) = false := beq_eq_false_iff_ne.mpr c6
       have d5 : (((rd_T36 l0 a2).f1) != (wrap64 (a3 + 1))) = true := bne_iff_ne.mpr c6
       obtain rfl := Option.some.inj H
       have p101 : 0 ≤ (a2 : Int) := of_decide_eq_true (by first | (with_reducible assumption) | assumption)
       have q101 : a2 < (l0.length : Int) := of_decide_eq_true (by first | (with_reducible assumption) | assumption)
       obtain ⟨ad101, a8, a4, a5, a6, a7⟩ := at_T36 HR0.out a2 p101 q101
       cases a8
       replace p101 := eq_true p101
       replace q101 := eq_true q101
       have p102 : 0 ≤ (a2 : Int) := of_decide_eq_true (by first | (with_reducible assumption) | assumption)
       have q102 : a2 < (l0.length : Int) := of_decide_eq_true (by first | (with_reducible assumption) | assumption)
       obtain ⟨ad102, b3, a9, b0, b1, b2⟩ := at_T36 HR0.out a2 p102 q102
       obtain rfl : ad101 = ad102 := (by injection b3)
       replace p102 := eq_true p102
       replace q102 := eq_true q102
       go_wp2
       go_ret
       exact ⟨by first | rfl | (simp; done) | (simp [*]; done), by repeat (first | exact Drawn0.refl _ | apply Drawn0.step)⟩
     ·
      rw [if_neg c5] at H
      have d2 : (((rd_T36 l0 a2).f0) == a3) = false := beq_eq_false_iff_ne.mpr c5
      have d3 : (((rd_T36 l0 a2).f0) != a3) = true := bne_iff_ne.mpr c5
      obtain rfl := Option.some.inj H
      have p101 : 0 ≤ (a2 : Int) := of_decide_eq_true (by first | (with_reducible assumption) | assumption)
      have q101 : a2 < (l0.length : Int) := of_decide_eq_true (by first | (with_reducible assumption) | assumption)
      obtain ⟨ad101, a8, a4, a5, a6, a7⟩ := at_T36 HR0.out a2 p101 q101
      cases a8
      replace p101 := eq_true p101
      replace q101 := eq_true q101
      go_wp2
      go_ret
      exact ⟨by first | rfl | (simp; done) | (simp [*]; done), by repeat (first | exact Drawn0.refl _ | apply Drawn0.step)⟩
    ·
     rw [if_neg c4] at H
     exact absurd H (by simp)
   ·
    rw [if_neg c3] at H
    have d1 : decide (a2 < (l0.length : Int)) = false := decide_eq_false c3
    clear c3
    obtain rfl := Option.some.inj H
    go_wp2
    go_ret
    exact ⟨by first | rfl | (simp; done) | (simp [*]; done), by repeat (first | exact Drawn0.refl _ | apply Drawn0.step)⟩

end Go.Proofs.Ytoifpgkfpdeglaa.X

namespace Go.Proofs.Ytoifpgkfpdeglaa.X
open Go.RowKit Go.Proofs.YtoifpgkfpdeglaaW.PrintWords Go.Proofs.YtoifpgkfpdeglaaW.PrintLast Go.Proofs.YtoifpgkfpdeglaaW.PrintMore
attribute [local go_sem] max2_int min2_int max_two min_two max_three min_three max_four min_four
set_option linter.unusedVariables false
set_option linter.unusedSimpArgs false

/-! ### laws_heldRasRaster: function 25 -/
def laws_heldRasRaster.f (k : Nat) (a0_0 : Int) (a0_1 : Int) (l0_2 : List (S36)) (a1 : Int) : Option (Int) := (laws_heldPixPixS.f k l0_2 a1).bind fun t102 => (if t102 < 0 then (some (-1)) else (some t102))
set_option maxHeartbeats 8000000 in
set_option maxRecDepth 100000 in
theorem laws_heldRasRaster.calls (k : Nat) (a0_0 : Int) (a0_1 : Int) (A0_2 : Option Addr) (c0_2 : Nat) (l0_2 : List (S36)) (a1 : Int) (r : Int) (w : World) (hr0_2 : Kd.C k36 w A0_2 l0_2.length l0_2) (hc0_2 : l0_2.length ≤ c0_2) (h : laws_heldRasRaster.f k a0_0 a0_1 l0_2 a1 = some r) :
  Calls Try.prog 25 #[.agg #[.int .i64 a0_0, .int .i64 a0_1, .slice A0_2 l0_2.length c0_2], .int .i64 a1] w fun e w' => e = .returned (.int .i64 r) ∧ Below w.heap.size w w' := by
 have hu25 := Try.underlying25
 have HR0_2 := Aside0.mk hr0_2
 have HC0_2 := Aside0.mk hc0_2
 clear hr0_2 hc0_2
 have HB := Aside0.mk (Below.refl w.heap.size w)
 have H : ((laws_heldPixPixS.f k l0_2 a1).bind fun a6 => (if a6 < 0 then (some (-1)) else (some a6))) = some r := h
 clear h
 replace H := Option.bind_eq_some_iff.mp H
 obtain ⟨a6, A30, H⟩ := H
 replace H : (if a6 < 0 then (some (-1)) else (some a6)) = some r := H
 have A3 := Aside0.mk A30
 clear A30
 by_cases c4 : a6 < 0
 ·
  rw [if_pos c4] at H
  have a9 : decide (a6 < 0) = true := decide_eq_true c4
  clear c4
  obtain rfl := Option.some.inj H
  go_enter Try.func25, Try.ntmps25
  go_wp2_with (first | ((with_reducible refine gate_dst (N := 2) rfl ?_); refine box_event ?hg (N := 2) ?hd (cs := #[.int .i64 a0_0, .int .i64 a0_1, .slice A0_2 l0_2.length c0_2]) (t := 25) ?hr ?_; (case hd => rfl); (case hg => rfl); (case hr => first | (go_simp; done) | (go_simp; rfl)); intro a5 hg w5 hbox hb; have n0_ := Aside0.mk (below_step (by repeat (first | (with_reducible first | exact HB.out | apply below_alloc | apply pw_below_drewN | apply below_drew1) | exact HB.out)) hb); have n1_ := Aside0.mk (hbox); have n2_ := Aside0.mk ((by rw [hg]; exact (below_size (by repeat (first | (with_reducible first | exact HB.out | apply below_alloc | apply pw_below_drewN | apply below_drew1) | exact HB.out))) : w.heap.size ≤ a5)); have n3_ := Aside0.mk ((by rw [hg]; exact (below_size (by repeat (first | (with_reducible first | exact HB.out | apply below_alloc | apply pw_below_drewN | apply below_drew1) | exact HB.out))) : w.heap.size ≤ a5)); clear HB; have HB := n0_; have a4 := n1_; have a7 := n2_; have a8 := n3_; clear n0_ n1_ n2_ n3_; clear hb hbox hg; have b0 : w5.cell? ⟨a5, 0, none⟩ = some (.int .i64 a0_0) := (blk_cell a4.out 0).trans rfl; have b1 : w5.cell? ⟨a5, 1, none⟩ = some (.int .i64 a0_1) := (blk_cell a4.out 1).trans rfl; have b2 : w5.cell? ⟨a5, 2, none⟩ = some (.slice A0_2 l0_2.length c0_2) := (blk_cell a4.out 2).trans rfl; have b3 := blk_frozen a4.out 0; have b4 := blk_frozen a4.out 1; have b5 := blk_frozen a4.out 2) | ((with_reducible refine gate_callee (f := 49) rfl ?_); refine goesL_ (some 8) rfl rfl Try.func49 (by kernel_rfl) rfl #[.slice A0_2 l0_2.length c0_2, .int .i64 a1] rfl (by (try simp only [List.map_toArray, List.map_cons, List.map_nil]); first | done | rfl | (simp only [List.length_drop, List.length_take]; rfl)) ?_; (with_reducible refine (laws_heldPixPixS.calls k _ _ l0_2 a1 a6 _ ?side1 ?side2 A3.out).mono ?_); (case side1 => repeat (first | exact (Kd.C_below HR0_2.out HB.out) | (with_reducible refine Kd.C_alloc ?_ _) | (with_reducible refine Kd.C_drewN ?_ _) | (with_reducible refine Kd.C_drew ?_))); (case side2 => exact HC0_2.out); rintro e w' ⟨rfl, ⟨nd, rfl⟩⟩; refine ⟨_, rfl, ?_⟩))
  go_ret
  exact ⟨by first | rfl | (simp [errW_none, errW_some] <;> rfl) | (simp [*, errW_none, errW_some] <;> rfl), by repeat (first | (with_reducible first | exact HB.out | apply below_alloc | apply pw_below_drewN | apply below_drew1 | refine below_set ?_ (Aside0.out ‹_›)) | exact HB.out)⟩
 ·
  rw [if_neg c4] at H
  have a9 : decide (a6 < 0) = false := decide_eq_false c4
  clear c4
  obtain rfl := Option.some.inj H
  go_enter Try.func25, Try.ntmps25
  go_wp2_with (first | ((with_reducible refine gate_dst (N := 2) rfl ?_); refine box_event ?hg (N := 2) ?hd (cs := #[.int .i64 a0_0, .int .i64 a0_1, .slice A0_2 l0_2.length c0_2]) (t := 25) ?hr ?_; (case hd => rfl); (case hg => rfl); (case hr => first | (go_simp; done) | (go_simp; rfl)); intro a5 hg w7 hbox hb; have n0_ := Aside0.mk (below_step (by repeat (first | (with_reducible first | exact HB.out | apply below_alloc | apply pw_below_drewN | apply below_drew1) | exact HB.out)) hb); have n1_ := Aside0.mk (hbox); have n2_ := Aside0.mk ((by rw [hg]; exact (below_size (by repeat (first | (with_reducible first | exact HB.out | apply below_alloc | apply pw_below_drewN | apply below_drew1) | exact HB.out))) : w.heap.size ≤ a5)); have n3_ := Aside0.mk ((by rw [hg]; exact (below_size (by repeat (first | (with_reducible first | exact HB.out | apply below_alloc | apply pw_below_drewN | apply below_drew1) | exact HB.out))) : w.heap.size ≤ a5)); clear HB; have HB := n0_; have a4 := n1_; have a7 := n2_; have a8 := n3_; clear n0_ n1_ n2_ n3_; clear hb hbox hg; have b6 : w7.cell? ⟨a5, 0, none⟩ = some (.int .i64 a0_0) := (blk_cell a4.out 0).trans rfl; have b7 : w7.cell? ⟨a5, 1, none⟩ = some (.int .i64 a0_1) := (blk_cell a4.out 1).trans rfl; have b8 : w7.cell? ⟨a5, 2, none⟩ = some (.slice A0_2 l0_2.length c0_2) := (blk_cell a4.out 2).trans rfl; have b9 := blk_frozen a4.out 0; have c0 := blk_frozen a4.out 1; have c1 := blk_frozen a4.out 2) | ((with_reducible refine gate_callee (f := 49) rfl ?_); refine goesL_ (some 8) rfl rfl Try.func49 (by kernel_rfl) rfl #[.slice A0_2 l0_2.length c0_2, .int .i64 a1] rfl (by (try simp only [List.map_toArray, List.map_cons, List.map_nil]); first | done | rfl | (simp only [List.length_drop, List.length_take]; rfl)) ?_; (with_reducible refine (laws_heldPixPixS.calls k _ _ l0_2 a1 a6 _ ?side1 ?side2 A3.out).mono ?_); (case side1 => repeat (first | exact (Kd.C_below HR0_2.out HB.out) | (with_reducible refine Kd.C_alloc ?_ _) | (with_reducible refine Kd.C_drewN ?_ _) | (with_reducible refine Kd.C_drew ?_))); (case side2 => exact HC0_2.out); rintro e w' ⟨rfl, ⟨nd, rfl⟩⟩; refine ⟨_, rfl, ?_⟩))
  go_ret
  exact ⟨by first | rfl | (simp [errW_none, errW_some] <;> rfl) | (simp [*, errW_none, errW_some] <;> rfl), by repeat (first | (with_reducible first | exact HB.out | apply below_alloc | apply pw_below_drewN | apply below_drew1 | refine below_set ?_ (Aside0.out ‹_›)) | exact HB.out)⟩

end Go.Proofs.Ytoifpgkfpdeglaa.X
