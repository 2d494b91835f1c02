/- Lemmas and contracts for the law FnAskOk, part 2: of the program's functions, and over data alone. No condition. -/
import Derived.Test.YtgpkkkmapgnhkaaMFnAskOk1
import Derived.Test.YtgpkkkmapgnhkaaWLast
import Derived.Test.YtgpkkkmapgnhkaaWTab
namespace Go.Proofs.Ytgpkkkmapgnhkaa.X
open Go.RowKit Go.Proofs.YtgpkkkmapgnhkaaW.PrintWords Go.Proofs.YtgpkkkmapgnhkaaW.PrintLast Go.Proofs.YtgpkkkmapgnhkaaW.PrintMore
attribute [local go_sem] max2_int min2_int max_two min_two max_three min_three max_four min_four   -- for this text's walks alone
set_option linter.unusedVariables false
set_option linter.unusedSimpArgs false

open Go.Proofs.YtgpkkkmapgnhkaaW.PrintWords.Aside0 renaming mk → yaa
open Go.Proofs.YtgpkkkmapgnhkaaW.PrintWords renaming blk_drewN → yab, blk_alloc → yac, blk_drew → yad, below_set → yae, blk_frozen → yag, pw_below_drewN → yah, keep_far → yam, blk_cell → yap, keep_drewN → yaq, keep_alloc → yar, below_alloc → yas, below_drew1 → yat, keep_drew → yav, blk_put → yaw, gate_callee → yay, blk_far → yaz
open Go.Proofs.Ytgpkkkmapgnhkaa.X.IsS143 renaming far → yaf, alloc → yai, drewN → yaj, set_1 → yak, drew → yan, ge → yax
open Go.Proofs.YtgpkkkmapgnhkaaW.PrintWords.KeepBut renaming set_ → yal, blk → yao, trans → yau

/-! ### spec_l20Op: function 125 -/
def spec_l20Op.j0 : Nat → Int → List Int → Int → Int → Int → Int → Int → Int → Option (Int × Int × Int × Int × Int × Int)
 | 0, _, _, _, _, _, _, _, _ => none
 | k + 1, x1, x1000, x1001, x105000, x105001, x105002, x105003, x105004 => (spec_l20Rd_odd.f k x1000 x1001 x1).bind fun bt123 => (if bt123.1 = true then ((spec_l20Rd_pick.f k x1000 bt123.2 4).bind fun bt125 => (if bt125.1 = 0 then ((some (([0, 9] : List Int) : List Int)).bind fun y127 => ((spec_l20Rd_pick.f k x1000 bt125.2 2).bind fun bt130 => (if 0 ≤ bt130.1 then (if bt130.1 < (y127.length : Int) then (some (rd y127 bt130.1, x105001, x105002, x105003, x105004, bt130.2)) else (none)) else (none)))) else (if bt125.1 = 1 then ((some (([(-1), 256] : List Int) : List Int)).bind fun y133 => ((spec_l20Rd_pick.f k x1000 bt125.2 2).bind fun bt136 => (if 0 ≤ bt136.1 then (if bt136.1 < (y133.length : Int) then (some (x105000, rd y133 bt136.1, x105002, x105003, x105004, bt136.2)) else (none)) else (none)))) else (if bt125.1 = 2 then ((some (([(-1), 256] : List Int) : List Int)).bind fun y139 => ((spec_l20Rd_pick.f k x1000 bt125.2 2).bind fun bt142 => (if 0 ≤ bt142.1 then (if bt142.1 < (y139.length : Int) then (some (x105000, x105001, x105002, rd y139 bt142.1, x105004, bt142.2)) else (none)) else (none)))) else ((some (([1, 7] : List Int) : List Int)).bind fun y145 => ((spec_l20Rd_pick.f k x1000 bt125.2 2).bind fun bt148 => (if 0 ≤ bt148.1 then (if bt148.1 < (y145.length : Int) then (some (x105000, x105001, x105002, x105003, rd y145 bt148.1, bt148.2)) else (none)) else (none)))))))) else (some (x105000, x105001, x105002, x105003, x105004, bt123.2)))
def spec_l20Op.f (k : Nat) (s0_0 : List Int) (s0_1 : Int) (a1 : Int) : Option (Int × Int × Int × Int × Int × Int) := (spec_l20Rd_pick.f k s0_0 s0_1 8).bind fun bt102 => (if (wrap64 (1 + bt102.1)) = 1 then ((spec_l20Rd_pick.f k s0_0 bt102.2 3).bind fun bt105 => ((spec_l20Rd_pick.f k s0_0 bt105.2 3).bind fun bt107 => ((spec_l20Rd_pick.f k s0_0 bt107.2 4).bind fun bt109 => ((spec_l20Rd_pick.f k s0_0 bt109.2 4).bind fun bt111 => (spec_l20Op.j0 k a1 s0_0 bt111.2 1 bt105.1 bt107.1 (wrap64 (1 + bt109.1)) (wrap64 (1 + bt111.1))))))) else (if (wrap64 (1 + bt102.1)) = 7 then ((spec_l20Rd_pick.f k s0_0 bt102.2 6).bind fun bt113 => ((spec_l20Rd_pick.f k s0_0 bt113.2 6).bind fun bt115 => (spec_l20Op.j0 k a1 s0_0 bt115.2 7 (wrap64 (1 + bt113.1)) (wrap64 (1 + bt115.1)) 0 0))) else (if (wrap64 (1 + bt102.1)) = 8 then ((spec_l20Rd_pick.f k s0_0 bt102.2 256).bind fun bt117 => ((spec_l20Rd_pick.f k s0_0 bt117.2 256).bind fun bt119 => ((spec_l20Rd_pick.f k s0_0 bt119.2 256).bind fun bt121 => (spec_l20Op.j0 k a1 s0_0 bt121.2 8 bt117.1 bt119.1 bt121.1 0)))) else (spec_l20Op.j0 k a1 s0_0 bt102.2 (wrap64 (1 + bt102.1)) 0 0 0 0))))
theorem spec_l20Op.mono_l : ∀ k, (∀ y0 y1 y2 y3 y4 y5 y6 y7, LeO (spec_l20Op.j0 k y0 y1 y2 y3 y4 y5 y6 y7) (spec_l20Op.j0 (k + 1) y0 y1 y2 y3 y4 y5 y6 y7))
 | 0 => fun _ _ _ _ _ _ _ _ r h => by simp [spec_l20Op.j0] at h
 | k + 1 => by
  have ih0 := spec_l20Op.mono_l k
  ·
   intro y0 y1 y2 y3 y4 y5 y6 y7
   unfold spec_l20Op.j0
   repeat' first
   | (with_reducible exact ih0 _ _ _ _ _ _ _ _)
   | (with_reducible exact spec_l20Rd_odd.mono _ _ _ _)
   | (with_reducible exact spec_l20Rd_pick.mono _ _ _ _)
   | (with_reducible exact LeO.refl _)
   | (with_reducible exact LeO.none _)
   | (with_reducible refine LeO.ite ?_ ?_)
   | (with_reducible refine LeO.bind ?_ (fun _ => ?_))
   | exact ih0 _ _ _ _ _ _ _ _
   | exact spec_l20Rd_odd.mono _ _ _ _
   | exact spec_l20Rd_pick.mono _ _ _ _
   | exact LeO.none _
   | refine LeO.ite ?_ ?_
   | refine LeO.bind ?_ (fun _ => ?_)
theorem spec_l20Op.mono : ∀ a0 a1 a2 k, LeO (spec_l20Op.f k a0 a1 a2) (spec_l20Op.f (k + 1) a0 a1 a2) := by
 intro a0 a1 a2 k
 have ih0 := spec_l20Op.mono_l k
 unfold spec_l20Op.f
 repeat' first
   | (with_reducible exact ih0 _ _ _ _ _ _ _ _)
   | (with_reducible exact spec_l20Rd_odd.mono _ _ _ _)
   | (with_reducible exact spec_l20Rd_pick.mono _ _ _ _)
   | (with_reducible exact LeO.refl _)
   | (with_reducible exact LeO.none _)
   | (with_reducible refine LeO.ite ?_ ?_)
   | (with_reducible refine LeO.bind ?_ (fun _ => ?_))
   | exact ih0 _ _ _ _ _ _ _ _
   | exact spec_l20Rd_odd.mono _ _ _ _
   | exact spec_l20Rd_pick.mono _ _ _ _
   | exact LeO.none _
   | refine LeO.ite ?_ ?_
   | refine LeO.bind ?_ (fun _ => ?_)
set_option maxHeartbeats 8000000 in
set_option maxRecDepth 100000 in
theorem spec_l20Op.calls (k : Nat) (g : Nat) (s0_0 : List Int) (s0_1 : Int) (a1 : Int) (r1 : Int) (r2 : Int) (r3 : Int) (r4 : Int) (r5 : Int) (r6 : Int) (w0 w : World) (hI : IsS143 w0 w g s0_0 s0_1) (hB : Below w0.heap.size w0 w) (h : spec_l20Op.f k s0_0 s0_1 a1 = some (r1, r2, r3, r4, r5, r6)) :
  Calls Try.prog 125 #[.pointer (some ⟨g, 0, none⟩), .int .i64 a1] w fun e w' => e = .returned (.agg #[.int .i64 r1, .int .i64 r2, .int .i64 r3, .int .i64 r4, .int .i64 r5]) ∧ IsS143 w0 w' g s0_0 r6 ∧ Below w0.heap.size w0 w' ∧ KeepBut w w' g none := by
 have hu146 := Try.underlying146
 have HI0 := yaa hI
 have HK := yaa (KeepBut.refl w g none)
 have HL := yaa hB.size
 clear hI
 have HW0 := yaa hB.size
 have HB := yaa hB
 clear hB
 have H : ((spec_l20Rd_pick.f k s0_0 s0_1 8).bind fun bt102 => (if (wrap64 (1 + bt102.1)) = 1 then ((spec_l20Rd_pick.f k s0_0 bt102.2 3).bind fun bt105 => ((spec_l20Rd_pick.f k s0_0 bt105.2 3).bind fun bt107 => ((spec_l20Rd_pick.f k s0_0 bt107.2 4).bind fun bt109 => ((spec_l20Rd_pick.f k s0_0 bt109.2 4).bind fun bt111 => (spec_l20Op.j0 k a1 s0_0 bt111.2 1 bt105.1 bt107.1 (wrap64 (1 + bt109.1)) (wrap64 (1 + bt111.1))))))) else (if (wrap64 (1 + bt102.1)) = 7 then ((spec_l20Rd_pick.f k s0_0 bt102.2 6).bind fun bt113 => ((spec_l20Rd_pick.f k s0_0 bt113.2 6).bind fun bt115 => (spec_l20Op.j0 k a1 s0_0 bt115.2 7 (wrap64 (1 + bt113.1)) (wrap64 (1 + bt115.1)) 0 0))) else (if (wrap64 (1 + bt102.1)) = 8 then ((spec_l20Rd_pick.f k s0_0 bt102.2 256).bind fun bt117 => ((spec_l20Rd_pick.f k s0_0 bt117.2 256).bind fun bt119 => ((spec_l20Rd_pick.f k s0_0 bt119.2 256).bind fun bt121 => (spec_l20Op.j0 k a1 s0_0 bt121.2 8 bt117.1 bt119.1 bt121.1 0)))) else (spec_l20Op.j0 k a1 s0_0 bt102.2 (wrap64 (1 + bt102.1)) 0 0 0 0))))) = some (r1, r2, r3, r4, r5, r6) := h
 clear h
 replace H := Option.bind_eq_some_iff.mp H
 obtain ⟨⟨t102, t103⟩, A30, H⟩ := H
 replace H : (if (wrap64 (1 + t102)) = 1 then ((spec_l20Rd_pick.f k s0_0 t103 3).bind fun bt105 => ((spec_l20Rd_pick.f k s0_0 bt105.2 3).bind fun bt107 => ((spec_l20Rd_pick.f k s0_0 bt107.2 4).bind fun bt109 => ((spec_l20Rd_pick.f k s0_0 bt109.2 4).bind fun bt111 => (spec_l20Op.j0 k a1 s0_0 bt111.2 1 bt105.1 bt107.1 (wrap64 (1 + bt109.1)) (wrap64 (1 + bt111.1))))))) else (if (wrap64 (1 + t102)) = 7 then ((spec_l20Rd_pick.f k s0_0 t103 6).bind fun bt113 => ((spec_l20Rd_pick.f k s0_0 bt113.2 6).bind fun bt115 => (spec_l20Op.j0 k a1 s0_0 bt115.2 7 (wrap64 (1 + bt113.1)) (wrap64 (1 + bt115.1)) 0 0))) else (if (wrap64 (1 + t102)) = 8 then ((spec_l20Rd_pick.f k s0_0 t103 256).bind fun bt117 => ((spec_l20Rd_pick.f k s0_0 bt117.2 256).bind fun bt119 => ((spec_l20Rd_pick.f k s0_0 bt119.2 256).bind fun bt121 => (spec_l20Op.j0 k a1 s0_0 bt121.2 8 bt117.1 bt119.1 bt121.1 0)))) else (spec_l20Op.j0 k a1 s0_0 t103 (wrap64 (1 + t102)) 0 0 0 0)))) = some (r1, r2, r3, r4, r5, r6) := H
 have A3 := yaa A30
 clear A30
 have HC4 := yaa H
 clear H
 go_enter Try.func125, Try.ntmps125
 go_upto_block 0 with (first | ((with_reducible refine gate_dst (N := 4) rfl ?_); refine box_event ?hg (N := 4) ?hd (cs := #[.int .i64 0, .int .i64 0, .int .i64 0, .int .i64 0, .int .i64 0]) (t := 146) ?hr ?_; (case hd => rfl); (case hg => rfl); (case hr => first | (go_simp; done) | (go_simp; rfl)); intro gb101 hg w5 hbox hb; have n0_ := yaa (IsS143.below (by repeat (first | (with_reducible first | exact HI0.out | apply yai | apply yaj | apply yan | apply yak) | exact HI0.out)) hb); have n1_ := yaa (yau (by repeat (first | (with_reducible first | exact HK.out | apply yal | apply yaq | apply yav | apply yar) | exact HK.out)) (KeepBut.of_below hb g none) (.inl rfl)); have n2_ := yaa (below_step (by repeat (first | (with_reducible first | exact HB.out | apply yas | apply yah | apply yat | refine yae ?_ (yax HI0.out)) | exact HB.out)) hb); have n3_ := yaa (hbox); have n4_ := yaa ((by rw [hg]; exact (keep_size (w := w) (g := g) (row := none) (by repeat (first | (with_reducible first | exact HK.out | apply yal | apply yaq | apply yav | apply yar) | exact HK.out))) : w.heap.size ≤ gb101)); have n5_ := yaa ((Nat.le_trans HW0.out (by rw [hg]; exact (keep_size (w := w) (g := g) (row := none) (by repeat (first | (with_reducible first | exact HK.out | apply yal | apply yaq | apply yav | apply yar) | exact HK.out))) : w.heap.size ≤ gb101) : w0.heap.size ≤ gb101)); have n6_ := yaa ((by rw [hg]; exact Nat.ne_of_lt (IsS143.lt (show IsS143 w0 _ g s0_0 s0_1 from by repeat (first | (with_reducible first | exact HI0.out | apply yai | apply yaj | apply yan | apply yak) | exact HI0.out))) : g ≠ gb101)); have n7_ := yaa ((by rw [hg]; exact Nat.ne_of_gt (IsS143.lt (show IsS143 w0 _ g s0_0 s0_1 from by repeat (first | (with_reducible first | exact HI0.out | apply yai | apply yaj | apply yan | apply yak) | exact HI0.out))) : gb101 ≠ g)); clear HI0; clear HK; clear HB; have HI0 := n0_; have HK := n1_; have HB := n2_; have BK101 := n3_; have GW101 := n4_; have GE101 := n5_; have NB0_101 := n6_; have NB101_0 := n7_; clear n0_ n1_ n2_ n3_ n4_ n5_ n6_ n7_; clear hb hbox hg) | ((with_reducible refine yay (f := 116) rfl ?_); refine goesL_ (some 7) rfl rfl Try.func116 (by kernel_rfl) rfl #[.pointer (some ⟨g, 0, none⟩), .int .i64 8] rfl (by (try simp only [List.map_toArray, List.map_cons, List.map_nil]); first | done | rfl | (simp only [List.length_drop, List.length_take]; rfl)) ?_; (with_reducible refine (spec_l20Rd_pick.calls k g s0_0 s0_1 8 t102 t103 w0 _ ?side1 ?side2 A3.out).mono ?_); (case side1 => repeat (first | (with_reducible first | exact HI0.out | apply yai | apply yaj | apply yan | apply yak | refine yaf ?_ NB0_101.out _) | exact HI0.out)); (case side2 => repeat (first | (with_reducible first | exact HB.out | apply yas | apply yah | apply yat | refine yae ?_ (yax HI0.out) | refine yae ?_ GE101.out) | exact HB.out)); rintro e w6 ⟨rfl, hi, hb, hk⟩; refine ⟨_, rfl, ?_⟩; have n0_ := yaa (yao hk (g' := gb101) (o := .cells #[.int .i64 0, .int .i64 0, .int .i64 0, .int .i64 0, .int .i64 0] 146 (0, 0)) (by (with_reducible repeat (first | refine yab ?_ _ | refine yad ?_ | refine yac ?_ _)); exact BK101.out) NB101_0.out (by simp)); have n1_ := yaa (yau (by repeat (first | (with_reducible first | exact HK.out | apply yal | apply yaq | apply yav | apply yar | refine yam ?_ GW101.out _) | exact HK.out)) hk (.inl rfl)); have n2_ := yaa (hb); have n3_ := yaa (hi); clear BK101; clear HK; clear HB; clear HI0; have BK101 := n0_; have HK := n1_; have HB := n2_; have HI0 := n3_; clear n0_ n1_ n2_ n3_; (try clear hb); (try clear hb2); (try clear hk); (try clear hi)) | ((with_reducible refine gate_dst (N := 5) rfl ?_); refine box_event ?hg (N := 5) ?hd (cs := #[.int .i64 0, .int .i64 0, .int .i64 0, .int .i64 0, .int .i64 0]) (t := 146) ?hr ?_; (case hd => rfl); (case hg => rfl); (case hr => first | (go_simp; done) | (go_simp; rfl)); intro gb104 hg w7 hbox hb; have n0_ := yaa (IsS143.below (by repeat (first | (with_reducible first | exact HI0.out | apply yai | apply yaj | apply yan | apply yak | refine yaf ?_ NB0_101.out _) | exact HI0.out)) hb); have n1_ := yaa (blk_below (g := gb101) (o := .cells #[.int .i64 0, .int .i64 0, .int .i64 0, .int .i64 0, .int .i64 0] 146 (0, 0)) (by (with_reducible repeat (first | refine yab ?_ _ | refine yad ?_ | refine yac ?_ _)); exact BK101.out) hb); have n2_ := yaa (yau (by repeat (first | (with_reducible first | exact HK.out | apply yal | apply yaq | apply yav | apply yar | refine yam ?_ GW101.out _) | exact HK.out)) (KeepBut.of_below hb g none) (.inl rfl)); have n3_ := yaa (below_step (by repeat (first | (with_reducible first | exact HB.out | apply yas | apply yah | apply yat | refine yae ?_ (yax HI0.out) | refine yae ?_ GE101.out) | exact HB.out)) hb); have n4_ := yaa (hbox); have n5_ := yaa ((by rw [hg]; exact (keep_size (w := w) (g := g) (row := none) (by repeat (first | (with_reducible first | exact HK.out | apply yal | apply yaq | apply yav | apply yar | refine yam ?_ GW101.out _) | exact HK.out))) : w.heap.size ≤ gb104)); have n6_ := yaa ((Nat.le_trans HW0.out (by rw [hg]; exact (keep_size (w := w) (g := g) (row := none) (by repeat (first | (with_reducible first | exact HK.out | apply yal | apply yaq | apply yav | apply yar | refine yam ?_ GW101.out _) | exact HK.out))) : w.heap.size ≤ gb104) : w0.heap.size ≤ gb104)); have n7_ := yaa ((by rw [hg]; exact Nat.ne_of_lt (blk_lt (g := gb101) (o := .cells #[.int .i64 0, .int .i64 0, .int .i64 0, .int .i64 0, .int .i64 0] 146 (0, 0)) (by (with_reducible repeat (first | refine yab ?_ _ | refine yad ?_ | refine yac ?_ _)); exact BK101.out)) : gb101 ≠ gb104)); have n8_ := yaa ((by rw [hg]; exact Nat.ne_of_gt (blk_lt (g := gb101) (o := .cells #[.int .i64 0, .int .i64 0, .int .i64 0, .int .i64 0, .int .i64 0] 146 (0, 0)) (by (with_reducible repeat (first | refine yab ?_ _ | refine yad ?_ | refine yac ?_ _)); exact BK101.out)) : gb104 ≠ gb101)); have n9_ := yaa ((by rw [hg]; exact Nat.ne_of_lt (IsS143.lt (show IsS143 w0 _ g s0_0 t103 from by repeat (first | (with_reducible first | exact HI0.out | apply yai | apply yaj | apply yan | apply yak | refine yaf ?_ NB0_101.out _) | exact HI0.out))) : g ≠ gb104)); have n10_ := yaa ((by rw [hg]; exact Nat.ne_of_gt (IsS143.lt (show IsS143 w0 _ g s0_0 t103 from by repeat (first | (with_reducible first | exact HI0.out | apply yai | apply yaj | apply yan | apply yak | refine yaf ?_ NB0_101.out _) | exact HI0.out))) : gb104 ≠ g)); clear HI0; clear BK101; clear HK; clear HB; have HI0 := n0_; have BK101 := n1_; have HK := n2_; have HB := n3_; have BK104 := n4_; have GW104 := n5_; have GE104 := n6_; have NB101_104 := n7_; have NB104_101 := n8_; have NB0_104 := n9_; have NB104_0 := n10_; clear n0_ n1_ n2_ n3_ n4_ n5_ n6_ n7_ n8_ n9_ n10_; clear hb hbox hg; have hnb8 := NB104_101.out; have hnc8 := NB101_104.out; have hnb9 := NB104_0.out; have hnc9 := NB0_104.out; have hcz10_0 : w7.cell? ⟨gb104, 0, none⟩ = some (.int .i64 0) := (yap BK104.out 0).trans rfl; have hcz10_1 : w7.cell? ⟨gb104, 1, none⟩ = some (.int .i64 0) := (yap BK104.out 1).trans rfl; have hcz10_2 : w7.cell? ⟨gb104, 2, none⟩ = some (.int .i64 0) := (yap BK104.out 2).trans rfl; have hcz10_3 : w7.cell? ⟨gb104, 3, none⟩ = some (.int .i64 0) := (yap BK104.out 3).trans rfl; have hcz10_4 : w7.cell? ⟨gb104, 4, none⟩ = some (.int .i64 0) := (yap BK104.out 4).trans rfl; have hfz10_0 := yag BK104.out 0; have hfz10_1 := yag BK104.out 1; have hfz10_2 := yag BK104.out 2; have hfz10_3 := yag BK104.out 3; have hfz10_4 := yag BK104.out 4))
 (try simp only [Act.put, List.setIfInBounds_toArray, List.set_cons_zero, List.set_cons_succ])
 go_cut [] (fun wc => ∃ (kq : Nat) (x1001_3 : Int) (x105000_3 : Int) (x105001_3 : Int) (x105002_3 : Int) (x105003_3 : Int) (x105004_3 : Int), Aside0 (spec_l20Op.j0 kq a1 s0_0 x1001_3 x105000_3 x105001_3 x105002_3 x105003_3 x105004_3 = some (r1, r2, r3, r4, r5, r6)) ∧ Aside0 (kq ≤ k) ∧ Aside0 (wc.heap[gb101]? = some (.cells #[.int .i64 0, .int .i64 0, .int .i64 0, .int .i64 0, .int .i64 0] 146 (0, 0))) ∧ Aside0 (wc.heap[gb104]? = some (.cells #[.int .i64 x105000_3, .int .i64 x105001_3, .int .i64 x105002_3, .int .i64 x105003_3, .int .i64 x105004_3] 146 (0, 0))) ∧ Aside0 (IsS143 w0 wc g s0_0 x1001_3) ∧ Aside0 (KeepBut w wc g none) ∧ Aside0 (Below w0.heap.size w0 wc))
 case first =>
  have H := HC4.out
  clear HC4
  by_cases c11 : (wrap64 (1 + t102)) = 1
  ·
   rw [if_pos c11] at H
   have c11b0 : ((wrap64 (1 + t102)) == 1) = true := beq_iff_eq.mpr c11
   have c11b1 : ((wrap64 (1 + t102)) != 1) = false := bne_eq_false_iff_eq.mpr c11
   clear c11
   (first | rw [c11b0] | (simp only [i64_w, i32_w]; rw [c11b0]) | skip)
   replace H := Option.bind_eq_some_iff.mp H
   obtain ⟨⟨t105, t106⟩, A120, H⟩ := H
   replace H : ((spec_l20Rd_pick.f k s0_0 t106 3).bind fun bt107 => ((spec_l20Rd_pick.f k s0_0 bt107.2 4).bind fun bt109 => ((spec_l20Rd_pick.f k s0_0 bt109.2 4).bind fun bt111 => (spec_l20Op.j0 k a1 s0_0 bt111.2 1 t105 bt107.1 (wrap64 (1 + bt109.1)) (wrap64 (1 + bt111.1)))))) = some (r1, r2, r3, r4, r5, r6) := H
   have A12 := yaa A120
   clear A120
   replace H := Option.bind_eq_some_iff.mp H
   obtain ⟨⟨t107, t108⟩, A130, H⟩ := H
   replace H : ((spec_l20Rd_pick.f k s0_0 t108 4).bind fun bt109 => ((spec_l20Rd_pick.f k s0_0 bt109.2 4).bind fun bt111 => (spec_l20Op.j0 k a1 s0_0 bt111.2 1 t105 t107 (wrap64 (1 + bt109.1)) (wrap64 (1 + bt111.1))))) = some (r1, r2, r3, r4, r5, r6) := H
   have A13 := yaa A130
   clear A130
   replace H := Option.bind_eq_some_iff.mp H
   obtain ⟨⟨t109, t110⟩, A140, H⟩ := H
   replace H : ((spec_l20Rd_pick.f k s0_0 t110 4).bind fun bt111 => (spec_l20Op.j0 k a1 s0_0 bt111.2 1 t105 t107 (wrap64 (1 + t109)) (wrap64 (1 + bt111.1)))) = some (r1, r2, r3, r4, r5, r6) := H
   have A14 := yaa A140
   clear A140
   replace H := Option.bind_eq_some_iff.mp H
   obtain ⟨⟨t111, t112⟩, A150, H⟩ := H
   replace H : (spec_l20Op.j0 k a1 s0_0 t112 1 t105 t107 (wrap64 (1 + t109)) (wrap64 (1 + t111))) = some (r1, r2, r3, r4, r5, r6) := H
   have A15 := yaa A150
   clear A150
   have H' := yaa H
   clear H
   go_wp2_with (first | ((with_reducible refine yay (f := 116) rfl ?_); refine goesL_ (some 15) rfl rfl Try.func116 (by kernel_rfl) rfl #[.pointer (some ⟨g, 0, none⟩), .int .i64 3] rfl (by (try simp only [List.map_toArray, List.map_cons, List.map_nil]); first | done | rfl | (simp only [List.length_drop, List.length_take]; rfl)) ?_; (with_reducible refine (spec_l20Rd_pick.calls k g s0_0 t103 3 t105 t106 w0 _ ?side1 ?side2 A12.out).mono ?_); (case side1 => repeat (first | (with_reducible first | exact HI0.out | apply yai | apply yaj | apply yan | apply yak | refine yaf ?_ NB0_101.out _ | refine yaf ?_ NB0_104.out _) | exact HI0.out)); (case side2 => repeat (first | (with_reducible first | exact HB.out | apply yas | apply yah | apply yat | refine yae ?_ (yax HI0.out) | refine yae ?_ GE101.out | refine yae ?_ GE104.out) | exact HB.out)); rintro e w16 ⟨rfl, hi, hb, hk⟩; refine ⟨_, rfl, ?_⟩; have n0_ := yaa (yao hk (g' := gb101) (o := .cells #[.int .i64 0, .int .i64 0, .int .i64 0, .int .i64 0, .int .i64 0] 146 (0, 0)) (by (with_reducible repeat (first | refine yab ?_ _ | refine yad ?_ | refine yac ?_ _)); refine yaz ?_ NB101_104.out _; (with_reducible repeat (first | refine yab ?_ _ | refine yad ?_ | refine yac ?_ _)); refine yaz ?_ NB101_104.out _; (with_reducible repeat (first | refine yab ?_ _ | refine yad ?_ | refine yac ?_ _)); refine yaz ?_ NB101_104.out _; (with_reducible repeat (first | refine yab ?_ _ | refine yad ?_ | refine yac ?_ _)); refine yaz ?_ NB101_104.out _; (with_reducible repeat (first | refine yab ?_ _ | refine yad ?_ | refine yac ?_ _)); refine yaz ?_ NB101_104.out _; (with_reducible repeat (first | refine yab ?_ _ | refine yad ?_ | refine yac ?_ _)); exact BK101.out) NB101_0.out (by simp)); have n1_ := yaa (yao hk (g' := gb104) (o := .cells #[.int .i64 (wrap64 (1 + t102)), .int .i64 0, .int .i64 0, .int .i64 0, .int .i64 0] 146 (0, 0)) (by (with_reducible repeat (first | refine yab ?_ _ | refine yad ?_ | refine yac ?_ _)); refine yaw (cs := #[.int .i64 (wrap64 (1 + t102)), .int .i64 0, .int .i64 0, .int .i64 0, .int .i64 0]) ?_ 4 _ rfl; (with_reducible repeat (first | refine yab ?_ _ | refine yad ?_ | refine yac ?_ _)); refine yaw (cs := #[.int .i64 (wrap64 (1 + t102)), .int .i64 0, .int .i64 0, .int .i64 0, .int .i64 0]) ?_ 3 _ rfl; (with_reducible repeat (first | refine yab ?_ _ | refine yad ?_ | refine yac ?_ _)); refine yaw (cs := #[.int .i64 (wrap64 (1 + t102)), .int .i64 0, .int .i64 0, .int .i64 0, .int .i64 0]) ?_ 2 _ rfl; (with_reducible repeat (first | refine yab ?_ _ | refine yad ?_ | refine yac ?_ _)); refine yaw (cs := #[.int .i64 (wrap64 (1 + t102)), .int .i64 0, .int .i64 0, .int .i64 0, .int .i64 0]) ?_ 1 _ rfl; (with_reducible repeat (first | refine yab ?_ _ | refine yad ?_ | refine yac ?_ _)); refine yaw (cs := #[.int .i64 0, .int .i64 0, .int .i64 0, .int .i64 0, .int .i64 0]) ?_ 0 _ rfl; (with_reducible repeat (first | refine yab ?_ _ | refine yad ?_ | refine yac ?_ _)); exact BK104.out) NB104_0.out (by simp)); have n2_ := yaa (yau (by repeat (first | (with_reducible first | exact HK.out | apply yal | apply yaq | apply yav | apply yar | refine yam ?_ GW101.out _ | refine yam ?_ GW104.out _) | exact HK.out)) hk (.inl rfl)); have n3_ := yaa (hb); have n4_ := yaa (hi); clear BK101; clear BK104; clear HK; clear HB; clear HI0; have BK101 := n0_; have BK104 := n1_; have HK := n2_; have HB := n3_; have HI0 := n4_; clear n0_ n1_ n2_ n3_ n4_; (try clear hb); (try clear hb2); (try clear hk); (try clear hi)) | ((with_reducible refine yay (f := 116) rfl ?_); refine goesL_ (some 17) rfl rfl Try.func116 (by kernel_rfl) rfl #[.pointer (some ⟨g, 0, none⟩), .int .i64 3] rfl (by (try simp only [List.map_toArray, List.map_cons, List.map_nil]); first | done | rfl | (simp only [List.length_drop, List.length_take]; rfl)) ?_; (with_reducible refine (spec_l20Rd_pick.calls k g s0_0 t106 3 t107 t108 w0 _ ?side1 ?side2 A13.out).mono ?_); (case side1 => repeat (first | (with_reducible first | exact HI0.out | apply yai | apply yaj | apply yan | apply yak | refine yaf ?_ NB0_101.out _ | refine yaf ?_ NB0_104.out _) | exact HI0.out)); (case side2 => repeat (first | (with_reducible first | exact HB.out | apply yas | apply yah | apply yat | refine yae ?_ (yax HI0.out) | refine yae ?_ GE101.out | refine yae ?_ GE104.out) | exact HB.out)); rintro e w17 ⟨rfl, hi, hb, hk⟩; refine ⟨_, rfl, ?_⟩; have n0_ := yaa (yao hk (g' := gb101) (o := .cells #[.int .i64 0, .int .i64 0, .int .i64 0, .int .i64 0, .int .i64 0] 146 (0, 0)) (by (with_reducible repeat (first | refine yab ?_ _ | refine yad ?_ | refine yac ?_ _)); exact BK101.out) NB101_0.out (by simp)); have n1_ := yaa (yao hk (g' := gb104) (o := .cells #[.int .i64 (wrap64 (1 + t102)), .int .i64 0, .int .i64 0, .int .i64 0, .int .i64 0] 146 (0, 0)) (by (with_reducible repeat (first | refine yab ?_ _ | refine yad ?_ | refine yac ?_ _)); exact BK104.out) NB104_0.out (by simp)); have n2_ := yaa (yau (by repeat (first | (with_reducible first | exact HK.out | apply yal | apply yaq | apply yav | apply yar | refine yam ?_ GW101.out _ | refine yam ?_ GW104.out _) | exact HK.out)) hk (.inl rfl)); have n3_ := yaa (hb); have n4_ := yaa (hi); clear BK101; clear BK104; clear HK; clear HB; clear HI0; have BK101 := n0_; have BK104 := n1_; have HK := n2_; have HB := n3_; have HI0 := n4_; clear n0_ n1_ n2_ n3_ n4_; (try clear hb); (try clear hb2); (try clear hk); (try clear hi)) | ((with_reducible refine yay (f := 116) rfl ?_); refine goesL_ (some 19) rfl rfl Try.func116 (by kernel_rfl) rfl #[.pointer (some ⟨g, 0, none⟩), .int .i64 4] rfl (by (try simp only [List.map_toArray, List.map_cons, List.map_nil]); first | done | rfl | (simp only [List.length_drop, List.length_take]; rfl)) ?_; (with_reducible refine (spec_l20Rd_pick.calls k g s0_0 t108 4 t109 t110 w0 _ ?side1 ?side2 A14.out).mono ?_); (case side1 => repeat (first | (with_reducible first | exact HI0.out | apply yai | apply yaj | apply yan | apply yak | refine yaf ?_ NB0_101.out _ | refine yaf ?_ NB0_104.out _) | exact HI0.out)); (case side2 => repeat (first | (with_reducible first | exact HB.out | apply yas | apply yah | apply yat | refine yae ?_ (yax HI0.out) | refine yae ?_ GE101.out | refine yae ?_ GE104.out) | exact HB.out)); rintro e w18 ⟨rfl, hi, hb, hk⟩; refine ⟨_, rfl, ?_⟩; have n0_ := yaa (yao hk (g' := gb101) (o := .cells #[.int .i64 0, .int .i64 0, .int .i64 0, .int .i64 0, .int .i64 0] 146 (0, 0)) (by (with_reducible repeat (first | refine yab ?_ _ | refine yad ?_ | refine yac ?_ _)); exact BK101.out) NB101_0.out (by simp)); have n1_ := yaa (yao hk (g' := gb104) (o := .cells #[.int .i64 (wrap64 (1 + t102)), .int .i64 0, .int .i64 0, .int .i64 0, .int .i64 0] 146 (0, 0)) (by (with_reducible repeat (first | refine yab ?_ _ | refine yad ?_ | refine yac ?_ _)); exact BK104.out) NB104_0.out (by simp)); have n2_ := yaa (yau (by repeat (first | (with_reducible first | exact HK.out | apply yal | apply yaq | apply yav | apply yar | refine yam ?_ GW101.out _ | refine yam ?_ GW104.out _) | exact HK.out)) hk (.inl rfl)); have n3_ := yaa (hb); have n4_ := yaa (hi); clear BK101; clear BK104; clear HK; clear HB; clear HI0; have BK101 := n0_; have BK104 := n1_; have HK := n2_; have HB := n3_; have HI0 := n4_; clear n0_ n1_ n2_ n3_ n4_; (try clear hb); (try clear hb2); (try clear hk); (try clear hi)) | ((with_reducible refine yay (f := 116) rfl ?_); refine goesL_ (some 22) rfl rfl Try.func116 (by kernel_rfl) rfl #[.pointer (some ⟨g, 0, none⟩), .int .i64 4] rfl (by (try simp only [List.map_toArray, List.map_cons, List.map_nil]); first | done | rfl | (simp only [List.length_drop, List.length_take]; rfl)) ?_; (with_reducible refine (spec_l20Rd_pick.calls k g s0_0 t110 4 t111 t112 w0 _ ?side1 ?side2 A15.out).mono ?_); (case side1 => repeat (first | (with_reducible first | exact HI0.out | apply yai | apply yaj | apply yan | apply yak | refine yaf ?_ NB0_101.out _ | refine yaf ?_ NB0_104.out _) | exact HI0.out)); (case side2 => repeat (first | (with_reducible first | exact HB.out | apply yas | apply yah | apply yat | refine yae ?_ (yax HI0.out) | refine yae ?_ GE101.out | refine yae ?_ GE104.out) | exact HB.out)); rintro e w19 ⟨rfl, hi, hb, hk⟩; refine ⟨_, rfl, ?_⟩; have n0_ := yaa (yao hk (g' := gb101) (o := .cells #[.int .i64 0, .int .i64 0, .int .i64 0, .int .i64 0, .int .i64 0] 146 (0, 0)) (by (with_reducible repeat (first | refine yab ?_ _ | refine yad ?_ | refine yac ?_ _)); exact BK101.out) NB101_0.out (by simp)); have n1_ := yaa (yao hk (g' := gb104) (o := .cells #[.int .i64 (wrap64 (1 + t102)), .int .i64 0, .int .i64 0, .int .i64 0, .int .i64 0] 146 (0, 0)) (by (with_reducible repeat (first | refine yab ?_ _ | refine yad ?_ | refine yac ?_ _)); exact BK104.out) NB104_0.out (by simp)); have n2_ := yaa (yau (by repeat (first | (with_reducible first | exact HK.out | apply yal | apply yaq | apply yav | apply yar | refine yam ?_ GW101.out _ | refine yam ?_ GW104.out _) | exact HK.out)) hk (.inl rfl)); have n3_ := yaa (hb); have n4_ := yaa (hi); clear BK101; clear BK104; clear HK; clear HB; clear HI0; have BK101 := n0_; have BK104 := n1_; have HK := n2_; have HB := n3_; have HI0 := n4_; clear n0_ n1_ n2_ n3_ n4_; (try clear hb); (try clear hb2); (try clear hk); (try clear hi); have hnb20 := NB104_101.out; have hnc20 := NB101_104.out; have hnb21 := NB104_0.out; have hnc21 := NB0_104.out; have hcz22_0 : w19.cell? ⟨gb104, 0, none⟩ = some (.int .i64 (wrap64 (1 + t102))) := (yap BK104.out 0).trans rfl; have hcz22_1 : w19.cell? ⟨gb104, 1, none⟩ = some (.int .i64 0) := (yap BK104.out 1).trans rfl; have hcz22_2 : w19.cell? ⟨gb104, 2, none⟩ = some (.int .i64 0) := (yap BK104.out 2).trans rfl; have hcz22_3 : w19.cell? ⟨gb104, 3, none⟩ = some (.int .i64 0) := (yap BK104.out 3).trans rfl; have hcz22_4 : w19.cell? ⟨gb104, 4, none⟩ = some (.int .i64 0) := (yap BK104.out 4).trans rfl; have hfz22_0 := yag BK104.out 0; have hfz22_1 := yag BK104.out 1; have hfz22_2 := yag BK104.out 2; have hfz22_3 := yag BK104.out 3; have hfz22_4 := yag BK104.out 4))
   go_meet
   case rel => exact ⟨_, (t112), (1), (t105), (t107), (wrap64 (1 + t109)), (wrap64 (1 + t111)), H', ⟨by first | omega | exact Nat.le_refl _⟩, ⟨by (with_reducible repeat (first | refine yab ?_ _ | refine yad ?_ | refine yac ?_ _)); refine yaz ?_ NB101_104.out _; (with_reducible repeat (first | refine yab ?_ _ | refine yad ?_ | refine yac ?_ _)); refine yaz ?_ NB101_104.out _; (with_reducible repeat (first | refine yab ?_ _ | refine yad ?_ | refine yac ?_ _)); refine yaz ?_ NB101_104.out _; (with_reducible repeat (first | refine yab ?_ _ | refine yad ?_ | refine yac ?_ _)); refine yaz ?_ NB101_104.out _; (with_reducible repeat (first | refine yab ?_ _ | refine yad ?_ | refine yac ?_ _)); refine yaz ?_ NB101_104.out _; (with_reducible repeat (first | refine yab ?_ _ | refine yad ?_ | refine yac ?_ _)); exact BK101.out⟩, ⟨by (with_reducible repeat (first | refine yab ?_ _ | refine yad ?_ | refine yac ?_ _)); refine yaw (cs := #[.int .i64 1, .int .i64 t105, .int .i64 t107, .int .i64 (wrap64 (1 + t109)), .int .i64 0]) ?_ 4 _ rfl; (with_reducible repeat (first | refine yab ?_ _ | refine yad ?_ | refine yac ?_ _)); refine yaw (cs := #[.int .i64 1, .int .i64 t105, .int .i64 t107, .int .i64 0, .int .i64 0]) ?_ 3 _ rfl; (with_reducible repeat (first | refine yab ?_ _ | refine yad ?_ | refine yac ?_ _)); refine yaw (cs := #[.int .i64 1, .int .i64 t105, .int .i64 0, .int .i64 0, .int .i64 0]) ?_ 2 _ rfl; (with_reducible repeat (first | refine yab ?_ _ | refine yad ?_ | refine yac ?_ _)); refine yaw (cs := #[.int .i64 1, .int .i64 0, .int .i64 0, .int .i64 0, .int .i64 0]) ?_ 1 _ rfl; (with_reducible repeat (first | refine yab ?_ _ | refine yad ?_ | refine yac ?_ _)); refine yaw (cs := #[.int .i64 (wrap64 (1 + t102)), .int .i64 0, .int .i64 0, .int .i64 0, .int .i64 0]) ?_ 0 _ rfl; (with_reducible repeat (first | refine yab ?_ _ | refine yad ?_ | refine yac ?_ _)); exact BK104.out⟩, ⟨by repeat (first | (with_reducible first | exact HI0.out | apply yai | apply yaj | apply yan | apply yak | refine yaf ?_ NB0_101.out _ | refine yaf ?_ NB0_104.out _) | exact HI0.out)⟩, ⟨by repeat (first | (with_reducible first | exact HK.out | apply yal | apply yaq | apply yav | apply yar | refine yam ?_ GW101.out _ | refine yam ?_ GW104.out _) | exact HK.out)⟩, ⟨by repeat (first | (with_reducible first | exact HB.out | apply yas | apply yah | apply yat | refine yae ?_ (yax HI0.out) | refine yae ?_ GE101.out | refine yae ?_ GE104.out) | exact HB.out)⟩⟩
  ·
   rw [if_neg c11] at H
   have c11b0 : ((wrap64 (1 + t102)) == 1) = false := beq_eq_false_iff_ne.mpr c11
   have c11b1 : ((wrap64 (1 + t102)) != 1) = true := bne_iff_ne.mpr c11
   (first | rw [c11b0] | (simp only [i64_w, i32_w]; rw [c11b0]) | skip)
   by_cases c23 : (wrap64 (1 + t102)) = 7
   ·
    rw [if_pos c23] at H
    have c23b0 : ((wrap64 (1 + t102)) == 7) = true := beq_iff_eq.mpr c23
    have c23b1 : ((wrap64 (1 + t102)) != 7) = false := bne_eq_false_iff_eq.mpr c23
    clear c23
    replace H := Option.bind_eq_some_iff.mp H
    obtain ⟨⟨t113, t114⟩, A240, H⟩ := H
    replace H : ((spec_l20Rd_pick.f k s0_0 t114 6).bind fun bt115 => (spec_l20Op.j0 k a1 s0_0 bt115.2 7 (wrap64 (1 + t113)) (wrap64 (1 + bt115.1)) 0 0)) = some (r1, r2, r3, r4, r5, r6) := H
    have A24 := yaa A240
    clear A240
    replace H := Option.bind_eq_some_iff.mp H
    obtain ⟨⟨t115, t116⟩, A250, H⟩ := H
    replace H : (spec_l20Op.j0 k a1 s0_0 t116 7 (wrap64 (1 + t113)) (wrap64 (1 + t115)) 0 0) = some (r1, r2, r3, r4, r5, r6) := H
    have A25 := yaa A250
    clear A250
    have H' := yaa H
    clear H
    go_wp2_with (first | ((with_reducible refine yay (f := 116) rfl ?_); refine goesL_ (some 28) rfl rfl Try.func116 (by kernel_rfl) rfl #[.pointer (some ⟨g, 0, none⟩), .int .i64 6] rfl (by (try simp only [List.map_toArray, List.map_cons, List.map_nil]); first | done | rfl | (simp only [List.length_drop, List.length_take]; rfl)) ?_; (with_reducible refine (spec_l20Rd_pick.calls k g s0_0 t103 6 t113 t114 w0 _ ?side1 ?side2 A24.out).mono ?_); (case side1 => repeat (first | (with_reducible first | exact HI0.out | apply yai | apply yaj | apply yan | apply yak | refine yaf ?_ NB0_101.out _ | refine yaf ?_ NB0_104.out _) | exact HI0.out)); (case side2 => repeat (first | (with_reducible first | exact HB.out | apply yas | apply yah | apply yat | refine yae ?_ (yax HI0.out) | refine yae ?_ GE101.out | refine yae ?_ GE104.out) | exact HB.out)); rintro e w26 ⟨rfl, hi, hb, hk⟩; refine ⟨_, rfl, ?_⟩; have n0_ := yaa (yao hk (g' := gb101) (o := .cells #[.int .i64 0, .int .i64 0, .int .i64 0, .int .i64 0, .int .i64 0] 146 (0, 0)) (by (with_reducible repeat (first | refine yab ?_ _ | refine yad ?_ | refine yac ?_ _)); refine yaz ?_ NB101_104.out _; (with_reducible repeat (first | refine yab ?_ _ | refine yad ?_ | refine yac ?_ _)); refine yaz ?_ NB101_104.out _; (with_reducible repeat (first | refine yab ?_ _ | refine yad ?_ | refine yac ?_ _)); refine yaz ?_ NB101_104.out _; (with_reducible repeat (first | refine yab ?_ _ | refine yad ?_ | refine yac ?_ _)); refine yaz ?_ NB101_104.out _; (with_reducible repeat (first | refine yab ?_ _ | refine yad ?_ | refine yac ?_ _)); refine yaz ?_ NB101_104.out _; (with_reducible repeat (first | refine yab ?_ _ | refine yad ?_ | refine yac ?_ _)); exact BK101.out) NB101_0.out (by simp)); have n1_ := yaa (yao hk (g' := gb104) (o := .cells #[.int .i64 (wrap64 (1 + t102)), .int .i64 0, .int .i64 0, .int .i64 0, .int .i64 0] 146 (0, 0)) (by (with_reducible repeat (first | refine yab ?_ _ | refine yad ?_ | refine yac ?_ _)); refine yaw (cs := #[.int .i64 (wrap64 (1 + t102)), .int .i64 0, .int .i64 0, .int .i64 0, .int .i64 0]) ?_ 4 _ rfl; (with_reducible repeat (first | refine yab ?_ _ | refine yad ?_ | refine yac ?_ _)); refine yaw (cs := #[.int .i64 (wrap64 (1 + t102)), .int .i64 0, .int .i64 0, .int .i64 0, .int .i64 0]) ?_ 3 _ rfl; (with_reducible repeat (first | refine yab ?_ _ | refine yad ?_ | refine yac ?_ _)); refine yaw (cs := #[.int .i64 (wrap64 (1 + t102)), .int .i64 0, .int .i64 0, .int .i64 0, .int .i64 0]) ?_ 2 _ rfl; (with_reducible repeat (first | refine yab ?_ _ | refine yad ?_ | refine yac ?_ _)); refine yaw (cs := #[.int .i64 (wrap64 (1 + t102)), .int .i64 0, .int .i64 0, .int .i64 0, .int .i64 0]) ?_ 1 _ rfl; (with_reducible repeat (first | refine yab ?_ _ | refine yad ?_ | refine yac ?_ _)); refine yaw (cs := #[.int .i64 0, .int .i64 0, .int .i64 0, .int .i64 0, .int .i64 0]) ?_ 0 _ rfl; (with_reducible repeat (first | refine yab ?_ _ | refine yad ?_ | refine yac ?_ _)); exact BK104.out) NB104_0.out (by simp)); have n2_ := yaa (yau (by repeat (first | (with_reducible first | exact HK.out | apply yal | apply yaq | apply yav | apply yar | refine yam ?_ GW101.out _ | refine yam ?_ GW104.out _) | exact HK.out)) hk (.inl rfl)); have n3_ := yaa (hb); have n4_ := yaa (hi); clear BK101; clear BK104; clear HK; clear HB; clear HI0; have BK101 := n0_; have BK104 := n1_; have HK := n2_; have HB := n3_; have HI0 := n4_; clear n0_ n1_ n2_ n3_ n4_; (try clear hb); (try clear hb2); (try clear hk); (try clear hi)) | ((with_reducible refine yay (f := 116) rfl ?_); refine goesL_ (some 31) rfl rfl Try.func116 (by kernel_rfl) rfl #[.pointer (some ⟨g, 0, none⟩), .int .i64 6] rfl (by (try simp only [List.map_toArray, List.map_cons, List.map_nil]); first | done | rfl | (simp only [List.length_drop, List.length_take]; rfl)) ?_; (with_reducible refine (spec_l20Rd_pick.calls k g s0_0 t114 6 t115 t116 w0 _ ?side1 ?side2 A25.out).mono ?_); (case side1 => repeat (first | (with_reducible first | exact HI0.out | apply yai | apply yaj | apply yan | apply yak | refine yaf ?_ NB0_101.out _ | refine yaf ?_ NB0_104.out _) | exact HI0.out)); (case side2 => repeat (first | (with_reducible first | exact HB.out | apply yas | apply yah | apply yat | refine yae ?_ (yax HI0.out) | refine yae ?_ GE101.out | refine yae ?_ GE104.out) | exact HB.out)); rintro e w27 ⟨rfl, hi, hb, hk⟩; refine ⟨_, rfl, ?_⟩; have n0_ := yaa (yao hk (g' := gb101) (o := .cells #[.int .i64 0, .int .i64 0, .int .i64 0, .int .i64 0, .int .i64 0] 146 (0, 0)) (by (with_reducible repeat (first | refine yab ?_ _ | refine yad ?_ | refine yac ?_ _)); exact BK101.out) NB101_0.out (by simp)); have n1_ := yaa (yao hk (g' := gb104) (o := .cells #[.int .i64 (wrap64 (1 + t102)), .int .i64 0, .int .i64 0, .int .i64 0, .int .i64 0] 146 (0, 0)) (by (with_reducible repeat (first | refine yab ?_ _ | refine yad ?_ | refine yac ?_ _)); exact BK104.out) NB104_0.out (by simp)); have n2_ := yaa (yau (by repeat (first | (with_reducible first | exact HK.out | apply yal | apply yaq | apply yav | apply yar | refine yam ?_ GW101.out _ | refine yam ?_ GW104.out _) | exact HK.out)) hk (.inl rfl)); have n3_ := yaa (hb); have n4_ := yaa (hi); clear BK101; clear BK104; clear HK; clear HB; clear HI0; have BK101 := n0_; have BK104 := n1_; have HK := n2_; have HB := n3_; have HI0 := n4_; clear n0_ n1_ n2_ n3_ n4_; (try clear hb); (try clear hb2); (try clear hk); (try clear hi); have hnb28 := NB104_101.out; have hnc28 := NB101_104.out; have hnb29 := NB104_0.out; have hnc29 := NB0_104.out; have hcz30_0 : w27.cell? ⟨gb104, 0, none⟩ = some (.int .i64 (wrap64 (1 + t102))) := (yap BK104.out 0).trans rfl; have hcz30_1 : w27.cell? ⟨gb104, 1, none⟩ = some (.int .i64 0) := (yap BK104.out 1).trans rfl; have hcz30_2 : w27.cell? ⟨gb104, 2, none⟩ = some (.int .i64 0) := (yap BK104.out 2).trans rfl; have hcz30_3 : w27.cell? ⟨gb104, 3, none⟩ = some (.int .i64 0) := (yap BK104.out 3).trans rfl; have hcz30_4 : w27.cell? ⟨gb104, 4, none⟩ = some (.int .i64 0) := (yap BK104.out 4).trans rfl; have hfz30_0 := yag BK104.out 0; have hfz30_1 := yag BK104.out 1; have hfz30_2 := yag BK104.out 2; have hfz30_3 := yag BK104.out 3; have hfz30_4 := yag BK104.out 4))
    go_meet
    case rel => exact ⟨_, (t116), (7), (wrap64 (1 + t113)), (wrap64 (1 + t115)), (0), (0), H', ⟨by first | omega | exact Nat.le_refl _⟩, ⟨by (with_reducible repeat (first | refine yab ?_ _ | refine yad ?_ | refine yac ?_ _)); refine yaz ?_ NB101_104.out _; (with_reducible repeat (first | refine yab ?_ _ | refine yad ?_ | refine yac ?_ _)); refine yaz ?_ NB101_104.out _; (with_reducible repeat (first | refine yab ?_ _ | refine yad ?_ | refine yac ?_ _)); refine yaz ?_ NB101_104.out _; (with_reducible repeat (first | refine yab ?_ _ | refine yad ?_ | refine yac ?_ _)); refine yaz ?_ NB101_104.out _; (with_reducible repeat (first | refine yab ?_ _ | refine yad ?_ | refine yac ?_ _)); refine yaz ?_ NB101_104.out _; (with_reducible repeat (first | refine yab ?_ _ | refine yad ?_ | refine yac ?_ _)); exact BK101.out⟩, ⟨by (with_reducible repeat (first | refine yab ?_ _ | refine yad ?_ | refine yac ?_ _)); refine yaw (cs := #[.int .i64 7, .int .i64 (wrap64 (1 + t113)), .int .i64 (wrap64 (1 + t115)), .int .i64 0, .int .i64 0]) ?_ 4 _ rfl; (with_reducible repeat (first | refine yab ?_ _ | refine yad ?_ | refine yac ?_ _)); refine yaw (cs := #[.int .i64 7, .int .i64 (wrap64 (1 + t113)), .int .i64 (wrap64 (1 + t115)), .int .i64 0, .int .i64 0]) ?_ 3 _ rfl; (with_reducible repeat (first | refine yab ?_ _ | refine yad ?_ | refine yac ?_ _)); refine yaw (cs := #[.int .i64 7, .int .i64 (wrap64 (1 + t113)), .int .i64 0, .int .i64 0, .int .i64 0]) ?_ 2 _ rfl; (with_reducible repeat (first | refine yab ?_ _ | refine yad ?_ | refine yac ?_ _)); refine yaw (cs := #[.int .i64 7, .int .i64 0, .int .i64 0, .int .i64 0, .int .i64 0]) ?_ 1 _ rfl; (with_reducible repeat (first | refine yab ?_ _ | refine yad ?_ | refine yac ?_ _)); refine yaw (cs := #[.int .i64 (wrap64 (1 + t102)), .int .i64 0, .int .i64 0, .int .i64 0, .int .i64 0]) ?_ 0 _ rfl; (with_reducible repeat (first | refine yab ?_ _ | refine yad ?_ | refine yac ?_ _)); exact BK104.out⟩, ⟨by repeat (first | (with_reducible first | exact HI0.out | apply yai | apply yaj | apply yan | apply yak | refine yaf ?_ NB0_101.out _ | refine yaf ?_ NB0_104.out _) | exact HI0.out)⟩, ⟨by repeat (first | (with_reducible first | exact HK.out | apply yal | apply yaq | apply yav | apply yar | refine yam ?_ GW101.out _ | refine yam ?_ GW104.out _) | exact HK.out)⟩, ⟨by repeat (first | (with_reducible first | exact HB.out | apply yas | apply yah | apply yat | refine yae ?_ (yax HI0.out) | refine yae ?_ GE101.out | refine yae ?_ GE104.out) | exact HB.out)⟩⟩
   ·
    rw [if_neg c23] at H
    have c23b0 : ((wrap64 (1 + t102)) == 7) = false := beq_eq_false_iff_ne.mpr c23
    have c23b1 : ((wrap64 (1 + t102)) != 7) = true := bne_iff_ne.mpr c23
    by_cases c31 : (wrap64 (1 + t102)) = 8
    ·
     rw [if_pos c31] at H
     have c31b0 : ((wrap64 (1 + t102)) == 8) = true := beq_iff_eq.mpr c31
     have c31b1 : ((wrap64 (1 + t102)) != 8) = false := bne_eq_false_iff_eq.mpr c31
     clear c31
     replace H := Option.bind_eq_some_iff.mp H
     obtain ⟨⟨t117, t118⟩, A320, H⟩ := H
     replace H : ((spec_l20Rd_pick.f k s0_0 t118 256).bind fun bt119 => ((spec_l20Rd_pick.f k s0_0 bt119.2 256).bind fun bt121 => (spec_l20Op.j0 k a1 s0_0 bt121.2 8 t117 bt119.1 bt121.1 0))) = some (r1, r2, r3, r4, r5, r6) := H
     have A32 := yaa A320
     clear A320
     replace H := Option.bind_eq_some_iff.mp H
     obtain ⟨⟨t119, t120⟩, A330, H⟩ := H
     replace H : ((spec_l20Rd_pick.f k s0_0 t120 256).bind fun bt121 => (spec_l20Op.j0 k a1 s0_0 bt121.2 8 t117 t119 bt121.1 0)) = some (r1, r2, r3, r4, r5, r6) := H
     have A33 := yaa A330
     clear A330
     replace H := Option.bind_eq_some_iff.mp H
     obtain ⟨⟨t121, t122⟩, A340, H⟩ := H
     replace H : (spec_l20Op.j0 k a1 s0_0 t122 8 t117 t119 t121 0) = some (r1, r2, r3, r4, r5, r6) := H
     have A34 := yaa A340
     clear A340
     have H' := yaa H
     clear H
     go_wp2_with (first | ((with_reducible refine yay (f := 116) rfl ?_); refine goesL_ (some 37) rfl rfl Try.func116 (by kernel_rfl) rfl #[.pointer (some ⟨g, 0, none⟩), .int .i64 256] rfl (by (try simp only [List.map_toArray, List.map_cons, List.map_nil]); first | done | rfl | (simp only [List.length_drop, List.length_take]; rfl)) ?_; (with_reducible refine (spec_l20Rd_pick.calls k g s0_0 t103 256 t117 t118 w0 _ ?side1 ?side2 A32.out).mono ?_); (case side1 => repeat (first | (with_reducible first | exact HI0.out | apply yai | apply yaj | apply yan | apply yak | refine yaf ?_ NB0_101.out _ | refine yaf ?_ NB0_104.out _) | exact HI0.out)); (case side2 => repeat (first | (with_reducible first | exact HB.out | apply yas | apply yah | apply yat | refine yae ?_ (yax HI0.out) | refine yae ?_ GE101.out | refine yae ?_ GE104.out) | exact HB.out)); rintro e w35 ⟨rfl, hi, hb, hk⟩; refine ⟨_, rfl, ?_⟩; have n0_ := yaa (yao hk (g' := gb101) (o := .cells #[.int .i64 0, .int .i64 0, .int .i64 0, .int .i64 0, .int .i64 0] 146 (0, 0)) (by (with_reducible repeat (first | refine yab ?_ _ | refine yad ?_ | refine yac ?_ _)); refine yaz ?_ NB101_104.out _; (with_reducible repeat (first | refine yab ?_ _ | refine yad ?_ | refine yac ?_ _)); refine yaz ?_ NB101_104.out _; (with_reducible repeat (first | refine yab ?_ _ | refine yad ?_ | refine yac ?_ _)); refine yaz ?_ NB101_104.out _; (with_reducible repeat (first | refine yab ?_ _ | refine yad ?_ | refine yac ?_ _)); refine yaz ?_ NB101_104.out _; (with_reducible repeat (first | refine yab ?_ _ | refine yad ?_ | refine yac ?_ _)); refine yaz ?_ NB101_104.out _; (with_reducible repeat (first | refine yab ?_ _ | refine yad ?_ | refine yac ?_ _)); exact BK101.out) NB101_0.out (by simp)); have n1_ := yaa (yao hk (g' := gb104) (o := .cells #[.int .i64 (wrap64 (1 + t102)), .int .i64 0, .int .i64 0, .int .i64 0, .int .i64 0] 146 (0, 0)) (by (with_reducible repeat (first | refine yab ?_ _ | refine yad ?_ | refine yac ?_ _)); refine yaw (cs := #[.int .i64 (wrap64 (1 + t102)), .int .i64 0, .int .i64 0, .int .i64 0, .int .i64 0]) ?_ 4 _ rfl; (with_reducible repeat (first | refine yab ?_ _ | refine yad ?_ | refine yac ?_ _)); refine yaw (cs := #[.int .i64 (wrap64 (1 + t102)), .int .i64 0, .int .i64 0, .int .i64 0, .int .i64 0]) ?_ 3 _ rfl; (with_reducible repeat (first | refine yab ?_ _ | refine yad ?_ | refine yac ?_ _)); refine yaw (cs := #[.int .i64 (wrap64 (1 + t102)), .int .i64 0, .int .i64 0, .int .i64 0, .int .i64 0]) ?_ 2 _ rfl; (with_reducible repeat (first | refine yab ?_ _ | refine yad ?_ | refine yac ?_ _)); refine yaw (cs := #[.int .i64 (wrap64 (1 + t102)), .int .i64 0, .int .i64 0, .int .i64 0, .int .i64 0]) ?_ 1 _ rfl; (with_reducible repeat (first | refine yab ?_ _ | refine yad ?_ | refine yac ?_ _)); refine yaw (cs := #[.int .i64 0, .int .i64 0, .int .i64 0, .int .i64 0, .int .i64 0]) ?_ 0 _ rfl; (with_reducible repeat (first | refine yab ?_ _ | refine yad ?_ | refine yac ?_ _)); exact BK104.out) NB104_0.out (by simp)); have n2_ := yaa (yau (by repeat (first | (with_reducible first | exact HK.out | apply yal | apply yaq | apply yav | apply yar | refine yam ?_ GW101.out _ | refine yam ?_ GW104.out _) | exact HK.out)) hk (.inl rfl)); have n3_ := yaa (hb); have n4_ := yaa (hi); clear BK101; clear BK104; clear HK; clear HB; clear HI0; have BK101 := n0_; have BK104 := n1_; have HK := n2_; have HB := n3_; have HI0 := n4_; clear n0_ n1_ n2_ n3_ n4_; (try clear hb); (try clear hb2); (try clear hk); (try clear hi)) | ((with_reducible refine yay (f := 116) rfl ?_); refine goesL_ (some 39) rfl rfl Try.func116 (by kernel_rfl) rfl #[.pointer (some ⟨g, 0, none⟩), .int .i64 256] rfl (by (try simp only [List.map_toArray, List.map_cons, List.map_nil]); first | done | rfl | (simp only [List.length_drop, List.length_take]; rfl)) ?_; (with_reducible refine (spec_l20Rd_pick.calls k g s0_0 t118 256 t119 t120 w0 _ ?side1 ?side2 A33.out).mono ?_); (case side1 => repeat (first | (with_reducible first | exact HI0.out | apply yai | apply yaj | apply yan | apply yak | refine yaf ?_ NB0_101.out _ | refine yaf ?_ NB0_104.out _) | exact HI0.out)); (case side2 => repeat (first | (with_reducible first | exact HB.out | apply yas | apply yah | apply yat | refine yae ?_ (yax HI0.out) | refine yae ?_ GE101.out | refine yae ?_ GE104.out) | exact HB.out)); rintro e w36 ⟨rfl, hi, hb, hk⟩; refine ⟨_, rfl, ?_⟩; have n0_ := yaa (yao hk (g' := gb101) (o := .cells #[.int .i64 0, .int .i64 0, .int .i64 0, .int .i64 0, .int .i64 0] 146 (0, 0)) (by (with_reducible repeat (first | refine yab ?_ _ | refine yad ?_ | refine yac ?_ _)); exact BK101.out) NB101_0.out (by simp)); have n1_ := yaa (yao hk (g' := gb104) (o := .cells #[.int .i64 (wrap64 (1 + t102)), .int .i64 0, .int .i64 0, .int .i64 0, .int .i64 0] 146 (0, 0)) (by (with_reducible repeat (first | refine yab ?_ _ | refine yad ?_ | refine yac ?_ _)); exact BK104.out) NB104_0.out (by simp)); have n2_ := yaa (yau (by repeat (first | (with_reducible first | exact HK.out | apply yal | apply yaq | apply yav | apply yar | refine yam ?_ GW101.out _ | refine yam ?_ GW104.out _) | exact HK.out)) hk (.inl rfl)); have n3_ := yaa (hb); have n4_ := yaa (hi); clear BK101; clear BK104; clear HK; clear HB; clear HI0; have BK101 := n0_; have BK104 := n1_; have HK := n2_; have HB := n3_; have HI0 := n4_; clear n0_ n1_ n2_ n3_ n4_; (try clear hb); (try clear hb2); (try clear hk); (try clear hi)) | ((with_reducible refine yay (f := 116) rfl ?_); refine goesL_ (some 41) rfl rfl Try.func116 (by kernel_rfl) rfl #[.pointer (some ⟨g, 0, none⟩), .int .i64 256] rfl (by (try simp only [List.map_toArray, List.map_cons, List.map_nil]); first | done | rfl | (simp only [List.length_drop, List.length_take]; rfl)) ?_; (with_reducible refine (spec_l20Rd_pick.calls k g s0_0 t120 256 t121 t122 w0 _ ?side1 ?side2 A34.out).mono ?_); (case side1 => repeat (first | (with_reducible first | exact HI0.out | apply yai | apply yaj | apply yan | apply yak | refine yaf ?_ NB0_101.out _ | refine yaf ?_ NB0_104.out _) | exact HI0.out)); (case side2 => repeat (first | (with_reducible first | exact HB.out | apply yas | apply yah | apply yat | refine yae ?_ (yax HI0.out) | refine yae ?_ GE101.out | refine yae ?_ GE104.out) | exact HB.out)); rintro e w37 ⟨rfl, hi, hb, hk⟩; refine ⟨_, rfl, ?_⟩; have n0_ := yaa (yao hk (g' := gb101) (o := .cells #[.int .i64 0, .int .i64 0, .int .i64 0, .int .i64 0, .int .i64 0] 146 (0, 0)) (by (with_reducible repeat (first | refine yab ?_ _ | refine yad ?_ | refine yac ?_ _)); exact BK101.out) NB101_0.out (by simp)); have n1_ := yaa (yao hk (g' := gb104) (o := .cells #[.int .i64 (wrap64 (1 + t102)), .int .i64 0, .int .i64 0, .int .i64 0, .int .i64 0] 146 (0, 0)) (by (with_reducible repeat (first | refine yab ?_ _ | refine yad ?_ | refine yac ?_ _)); exact BK104.out) NB104_0.out (by simp)); have n2_ := yaa (yau (by repeat (first | (with_reducible first | exact HK.out | apply yal | apply yaq | apply yav | apply yar | refine yam ?_ GW101.out _ | refine yam ?_ GW104.out _) | exact HK.out)) hk (.inl rfl)); have n3_ := yaa (hb); have n4_ := yaa (hi); clear BK101; clear BK104; clear HK; clear HB; clear HI0; have BK101 := n0_; have BK104 := n1_; have HK := n2_; have HB := n3_; have HI0 := n4_; clear n0_ n1_ n2_ n3_ n4_; (try clear hb); (try clear hb2); (try clear hk); (try clear hi); have hnb38 := NB104_101.out; have hnc38 := NB101_104.out; have hnb39 := NB104_0.out; have hnc39 := NB0_104.out; have hcz40_0 : w37.cell? ⟨gb104, 0, none⟩ = some (.int .i64 (wrap64 (1 + t102))) := (yap BK104.out 0).trans rfl; have hcz40_1 : w37.cell? ⟨gb104, 1, none⟩ = some (.int .i64 0) := (yap BK104.out 1).trans rfl; have hcz40_2 : w37.cell? ⟨gb104, 2, none⟩ = some (.int .i64 0) := (yap BK104.out 2).trans rfl; have hcz40_3 : w37.cell? ⟨gb104, 3, none⟩ = some (.int .i64 0) := (yap BK104.out 3).trans rfl; have hcz40_4 : w37.cell? ⟨gb104, 4, none⟩ = some (.int .i64 0) := (yap BK104.out 4).trans rfl; have hfz40_0 := yag BK104.out 0; have hfz40_1 := yag BK104.out 1; have hfz40_2 := yag BK104.out 2; have hfz40_3 := yag BK104.out 3; have hfz40_4 := yag BK104.out 4))
     go_meet
     case rel => exact ⟨_, (t122), (8), (t117), (t119), (t121), (0), H', ⟨by first | omega | exact Nat.le_refl _⟩, ⟨by (with_reducible repeat (first | refine yab ?_ _ | refine yad ?_ | refine yac ?_ _)); refine yaz ?_ NB101_104.out _; (with_reducible repeat (first | refine yab ?_ _ | refine yad ?_ | refine yac ?_ _)); refine yaz ?_ NB101_104.out _; (with_reducible repeat (first | refine yab ?_ _ | refine yad ?_ | refine yac ?_ _)); refine yaz ?_ NB101_104.out _; (with_reducible repeat (first | refine yab ?_ _ | refine yad ?_ | refine yac ?_ _)); refine yaz ?_ NB101_104.out _; (with_reducible repeat (first | refine yab ?_ _ | refine yad ?_ | refine yac ?_ _)); refine yaz ?_ NB101_104.out _; (with_reducible repeat (first | refine yab ?_ _ | refine yad ?_ | refine yac ?_ _)); exact BK101.out⟩, ⟨by (with_reducible repeat (first | refine yab ?_ _ | refine yad ?_ | refine yac ?_ _)); refine yaw (cs := #[.int .i64 8, .int .i64 t117, .int .i64 t119, .int .i64 t121, .int .i64 0]) ?_ 4 _ rfl; (with_reducible repeat (first | refine yab ?_ _ | refine yad ?_ | refine yac ?_ _)); refine yaw (cs := #[.int .i64 8, .int .i64 t117, .int .i64 t119, .int .i64 0, .int .i64 0]) ?_ 3 _ rfl; (with_reducible repeat (first | refine yab ?_ _ | refine yad ?_ | refine yac ?_ _)); refine yaw (cs := #[.int .i64 8, .int .i64 t117, .int .i64 0, .int .i64 0, .int .i64 0]) ?_ 2 _ rfl; (with_reducible repeat (first | refine yab ?_ _ | refine yad ?_ | refine yac ?_ _)); refine yaw (cs := #[.int .i64 8, .int .i64 0, .int .i64 0, .int .i64 0, .int .i64 0]) ?_ 1 _ rfl; (with_reducible repeat (first | refine yab ?_ _ | refine yad ?_ | refine yac ?_ _)); refine yaw (cs := #[.int .i64 (wrap64 (1 + t102)), .int .i64 0, .int .i64 0, .int .i64 0, .int .i64 0]) ?_ 0 _ rfl; (with_reducible repeat (first | refine yab ?_ _ | refine yad ?_ | refine yac ?_ _)); exact BK104.out⟩, ⟨by repeat (first | (with_reducible first | exact HI0.out | apply yai | apply yaj | apply yan | apply yak | refine yaf ?_ NB0_101.out _ | refine yaf ?_ NB0_104.out _) | exact HI0.out)⟩, ⟨by repeat (first | (with_reducible first | exact HK.out | apply yal | apply yaq | apply yav | apply yar | refine yam ?_ GW101.out _ | refine yam ?_ GW104.out _) | exact HK.out)⟩, ⟨by repeat (first | (with_reducible first | exact HB.out | apply yas | apply yah | apply yat | refine yae ?_ (yax HI0.out) | refine yae ?_ GE101.out | refine yae ?_ GE104.out) | exact HB.out)⟩⟩
    ·
     rw [if_neg c31] at H
     have c31b0 : ((wrap64 (1 + t102)) == 8) = false := beq_eq_false_iff_ne.mpr c31
     have c31b1 : ((wrap64 (1 + t102)) != 8) = true := bne_iff_ne.mpr c31
     have H' := yaa H
     clear H
     go_wp2
     go_meet
     case rel => exact ⟨_, (t103), (wrap64 (1 + t102)), (0), (0), (0), (0), H', ⟨by first | omega | exact Nat.le_refl _⟩, ⟨by (with_reducible repeat (first | refine yab ?_ _ | refine yad ?_ | refine yac ?_ _)); refine yaz ?_ NB101_104.out _; (with_reducible repeat (first | refine yab ?_ _ | refine yad ?_ | refine yac ?_ _)); refine yaz ?_ NB101_104.out _; (with_reducible repeat (first | refine yab ?_ _ | refine yad ?_ | refine yac ?_ _)); refine yaz ?_ NB101_104.out _; (with_reducible repeat (first | refine yab ?_ _ | refine yad ?_ | refine yac ?_ _)); refine yaz ?_ NB101_104.out _; (with_reducible repeat (first | refine yab ?_ _ | refine yad ?_ | refine yac ?_ _)); refine yaz ?_ NB101_104.out _; (with_reducible repeat (first | refine yab ?_ _ | refine yad ?_ | refine yac ?_ _)); exact BK101.out⟩, ⟨by (with_reducible repeat (first | refine yab ?_ _ | refine yad ?_ | refine yac ?_ _)); refine yaw (cs := #[.int .i64 (wrap64 (1 + t102)), .int .i64 0, .int .i64 0, .int .i64 0, .int .i64 0]) ?_ 4 _ rfl; (with_reducible repeat (first | refine yab ?_ _ | refine yad ?_ | refine yac ?_ _)); refine yaw (cs := #[.int .i64 (wrap64 (1 + t102)), .int .i64 0, .int .i64 0, .int .i64 0, .int .i64 0]) ?_ 3 _ rfl; (with_reducible repeat (first | refine yab ?_ _ | refine yad ?_ | refine yac ?_ _)); refine yaw (cs := #[.int .i64 (wrap64 (1 + t102)), .int .i64 0, .int .i64 0, .int .i64 0, .int .i64 0]) ?_ 2 _ rfl; (with_reducible repeat (first | refine yab ?_ _ | refine yad ?_ | refine yac ?_ _)); refine yaw (cs := #[.int .i64 (wrap64 (1 + t102)), .int .i64 0, .int .i64 0, .int .i64 0, .int .i64 0]) ?_ 1 _ rfl; (with_reducible repeat (first | refine yab ?_ _ | refine yad ?_ | refine yac ?_ _)); refine yaw (cs := #[.int .i64 0, .int .i64 0, .int .i64 0, .int .i64 0, .int .i64 0]) ?_ 0 _ rfl; (with_reducible repeat (first | refine yab ?_ _ | refine yad ?_ | refine yac ?_ _)); exact BK104.out⟩, ⟨by repeat (first | (with_reducible first | exact HI0.out | apply yai | apply yaj | apply yan | apply yak | refine yaf ?_ NB0_101.out _ | refine yaf ?_ NB0_104.out _) | exact HI0.out)⟩, ⟨by repeat (first | (with_reducible first | exact HK.out | apply yal | apply yaq | apply yav | apply yar | refine yam ?_ GW101.out _ | refine yam ?_ GW104.out _) | exact HK.out)⟩, ⟨by repeat (first | (with_reducible first | exact HB.out | apply yas | apply yah | apply yat | refine yae ?_ (yax HI0.out) | refine yae ?_ GE101.out | refine yae ?_ GE104.out) | exact HB.out)⟩⟩
 case rest =>
  clear HC4
  try clear c1
  try clear c2
  try clear p2
  try clear c3
  try clear p6
  try clear c8
  try clear c9
  try clear c11
  try clear c11b0
  try clear c11b1
  try clear c12
  try clear c20
  try clear c21
  try clear c23
  try clear c23b0
  try clear c23b1
  try clear c28
  try clear c29
  try clear c31
  try clear c31b0
  try clear c31b1
  try clear c38
  try clear c39
  try clear hcz10_0
  try clear hcz10_1
  try clear hcz10_2
  try clear hcz10_3
  try clear hcz10_4
  try clear hcz22_0
  try clear hcz22_1
  try clear hcz22_2
  try clear hcz22_3
  try clear hcz22_4
  try clear hcz30_0
  try clear hcz30_1
  try clear hcz30_2
  try clear hcz30_3
  try clear hcz30_4
  try clear hcz40_0
  try clear hcz40_1
  try clear hcz40_2
  try clear hcz40_3
  try clear hcz40_4
  try clear hfz10_0
  try clear hfz10_1
  try clear hfz10_2
  try clear hfz10_3
  try clear hfz10_4
  try clear hfz22_0
  try clear hfz22_1
  try clear hfz22_2
  try clear hfz22_3
  try clear hfz22_4
  try clear hfz30_0
  try clear hfz30_1
  try clear hfz30_2
  try clear hfz30_3
  try clear hfz30_4
  try clear hfz40_0
  try clear hfz40_1
  try clear hfz40_2
  try clear hfz40_3
  try clear hfz40_4
  obtain ⟨kq, x1001_3, x105000_3, x105001_3, x105002_3, x105003_3, x105004_3, HA, HJ3, BK101, BK104, HI0, HK, HB⟩ := hcut
  cases kq with
  | zero => exact absurd HA.out (by simp [spec_l20Op.j0])
  | succ kj3 =>
   have H := HA.out
   clear HA
   simp only [spec_l20Op.j0] at H
   replace H := Option.bind_eq_some_iff.mp H
   obtain ⟨⟨t123, t124⟩, A410, H⟩ := H
   replace H : (if t123 = true then ((spec_l20Rd_pick.f kj3 s0_0 t124 4).bind fun bt125 => (if bt125.1 = 0 then ((some (([0, 9] : List Int) : List Int)).bind fun y127 => ((spec_l20Rd_pick.f kj3 s0_0 bt125.2 2).bind fun bt130 => (if 0 ≤ bt130.1 then (if bt130.1 < (y127.length : Int) then (some (rd y127 bt130.1, x105001_3, x105002_3, x105003_3, x105004_3, bt130.2)) else (none)) else (none)))) else (if bt125.1 = 1 then ((some (([(-1), 256] : List Int) : List Int)).bind fun y133 => ((spec_l20Rd_pick.f kj3 s0_0 bt125.2 2).bind fun bt136 => (if 0 ≤ bt136.1 then (if bt136.1 < (y133.length : Int) then (some (x105000_3, rd y133 bt136.1, x105002_3, x105003_3, x105004_3, bt136.2)) else (none)) else (none)))) else (if bt125.1 = 2 then ((some (([(-1), 256] : List Int) : List Int)).bind fun y139 => ((spec_l20Rd_pick.f kj3 s0_0 bt125.2 2).bind fun bt142 => (if 0 ≤ bt142.1 then (if bt142.1 < (y139.length : Int) then (some (x105000_3, x105001_3, x105002_3, rd y139 bt142.1, x105004_3, bt142.2)) else (none)) else (none)))) else ((some (([1, 7] : List Int) : List Int)).bind fun y145 => ((spec_l20Rd_pick.f kj3 s0_0 bt125.2 2).bind fun bt148 => (if 0 ≤ bt148.1 then (if bt148.1 < (y145.length : Int) then (some (x105000_3, x105001_3, x105002_3, x105003_3, rd y145 bt148.1, bt148.2)) else (none)) else (none)))))))) else (some (x105000_3, x105001_3, x105002_3, x105003_3, x105004_3, t124))) = some (r1, r2, r3, r4, r5, r6) := H
   have A41 := yaa A410
   clear A410
   by_cases c42 : t123 = true
   ·
    subst c42
    have H1 : ((spec_l20Rd_pick.f kj3 s0_0 t124 4).bind fun bt125 => (if bt125.1 = 0 then ((some (([0, 9] : List Int) : List Int)).bind fun y127 => ((spec_l20Rd_pick.f kj3 s0_0 bt125.2 2).bind fun bt130 => (if 0 ≤ bt130.1 then (if bt130.1 < (y127.length : Int) then (some (rd y127 bt130.1, x105001_3, x105002_3, x105003_3, x105004_3, bt130.2)) else (none)) else (none)))) else (if bt125.1 = 1 then ((some (([(-1), 256] : List Int) : List Int)).bind fun y133 => ((spec_l20Rd_pick.f kj3 s0_0 bt125.2 2).bind fun bt136 => (if 0 ≤ bt136.1 then (if bt136.1 < (y133.length : Int) then (some (x105000_3, rd y133 bt136.1, x105002_3, x105003_3, x105004_3, bt136.2)) else (none)) else (none)))) else (if bt125.1 = 2 then ((some (([(-1), 256] : List Int) : List Int)).bind fun y139 => ((spec_l20Rd_pick.f kj3 s0_0 bt125.2 2).bind fun bt142 => (if 0 ≤ bt142.1 then (if bt142.1 < (y139.length : Int) then (some (x105000_3, x105001_3, x105002_3, rd y139 bt142.1, x105004_3, bt142.2)) else (none)) else (none)))) else ((some (([1, 7] : List Int) : List Int)).bind fun y145 => ((spec_l20Rd_pick.f kj3 s0_0 bt125.2 2).bind fun bt148 => (if 0 ≤ bt148.1 then (if bt148.1 < (y145.length : Int) then (some (x105000_3, x105001_3, x105002_3, x105003_3, rd y145 bt148.1, bt148.2)) else (none)) else (none)))))))) = some (r1, r2, r3, r4, r5, r6) := by rw [if_pos rfl] at H; exact H
    clear H
    have H := H1
    clear H1
    replace H := Option.bind_eq_some_iff.mp H
    obtain ⟨⟨t125, t126⟩, A430, H⟩ := H
    replace H : (if t125 = 0 then ((some (([0, 9] : List Int) : List Int)).bind fun y127 => ((spec_l20Rd_pick.f kj3 s0_0 t126 2).bind fun bt130 => (if 0 ≤ bt130.1 then (if bt130.1 < (y127.length : Int) then (some (rd y127 bt130.1, x105001_3, x105002_3, x105003_3, x105004_3, bt130.2)) else (none)) else (none)))) else (if t125 = 1 then ((some (([(-1), 256] : List Int) : List Int)).bind fun y133 => ((spec_l20Rd_pick.f kj3 s0_0 t126 2).bind fun bt136 => (if 0 ≤ bt136.1 then (if bt136.1 < (y133.length : Int) then (some (x105000_3, rd y133 bt136.1, x105002_3, x105003_3, x105004_3, bt136.2)) else (none)) else (none)))) else (if t125 = 2 then ((some (([(-1), 256] : List Int) : List Int)).bind fun y139 => ((spec_l20Rd_pick.f kj3 s0_0 t126 2).bind fun bt142 => (if 0 ≤ bt142.1 then (if bt142.1 < (y139.length : Int) then (some (x105000_3, x105001_3, x105002_3, rd y139 bt142.1, x105004_3, bt142.2)) else (none)) else (none)))) else ((some (([1, 7] : List Int) : List Int)).bind fun y145 => ((spec_l20Rd_pick.f kj3 s0_0 t126 2).bind fun bt148 => (if 0 ≤ bt148.1 then (if bt148.1 < (y145.length : Int) then (some (x105000_3, x105001_3, x105002_3, x105003_3, rd y145 bt148.1, bt148.2)) else (none)) else (none))))))) = some (r1, r2, r3, r4, r5, r6) := H
    have A43 := yaa A430
    clear A430
    by_cases c44 : t125 = 0
    ·
     rw [if_pos c44] at H
     have c44b0 : (t125 == 0) = true := beq_iff_eq.mpr c44
     have c44b1 : (t125 != 0) = false := bne_eq_false_iff_eq.mpr c44
     clear c44
     obtain ⟨y127, hy127⟩ : ∃ y_ : List Int, y_ = (([0, 9] : List Int)) := ⟨_, rfl⟩
     replace H : ((spec_l20Rd_pick.f kj3 s0_0 t126 2).bind fun bt130 => (if 0 ≤ bt130.1 then (if bt130.1 < (y127.length : Int) then (some (rd y127 bt130.1, x105001_3, x105002_3, x105003_3, x105004_3, bt130.2)) else (none)) else (none))) = some (r1, r2, r3, r4, r5, r6) := by first | (rw [hy127]; with_reducible exact H) | (have H2_ := (Option.bind_some _ _).symm.trans H; rw [hy127]; with_reducible exact H2_) | (have H2_ := (Option.bind_some _ _).symm.trans H; with_reducible exact H2_) | with_reducible exact H | (rw [hy127]; exact H) | exact H
     have Ny127 := yaa hy127
     clear hy127
     replace H := Option.bind_eq_some_iff.mp H
     obtain ⟨⟨t130, t131⟩, A450, H⟩ := H
     replace H : (if 0 ≤ t130 then (if t130 < (y127.length : Int) then (some (rd y127 t130, x105001_3, x105002_3, x105003_3, x105004_3, t131)) else (none)) else (none)) = some (r1, r2, r3, r4, r5, r6) := H
     have A45 := yaa A450
     clear A450
     by_cases c46 : 0 ≤ t130
     ·
      rw [if_pos c46] at H
      have c46b0 : decide (0 ≤ t130) = true := decide_eq_true c46
      clear c46
      by_cases c47 : t130 < (y127.length : Int)
      ·
       rw [if_pos c47] at H
       have c47b0 : decide (t130 < (y127.length : Int)) = true := decide_eq_true c47
       clear c47
       simp only [Option.some.injEq, Prod.mk.injEq] at H
       obtain ⟨rfl, rfl, rfl, rfl, rfl, rfl⟩ := H
       go_wp2_with (first | ((with_reducible refine yay (f := 117) rfl ?_); refine goesL_ (some 45) rfl rfl Try.func117 (by kernel_rfl) rfl #[.pointer (some ⟨g, 0, none⟩), .int .i64 a1] rfl (by (try simp only [List.map_toArray, List.map_cons, List.map_nil]); first | done | rfl | (simp only [List.length_drop, List.length_take]; rfl)) ?_; (with_reducible refine (spec_l20Rd_odd.calls kj3 g s0_0 x1001_3 a1 true t124 w0 _ ?side1 ?side2 A41.out).mono ?_); (case side1 => repeat (first | (with_reducible first | exact HI0.out | apply yai | apply yaj | apply yan | apply yak | refine yaf ?_ NB0_101.out _ | refine yaf ?_ NB0_104.out _) | exact HI0.out)); (case side2 => repeat (first | (with_reducible first | exact HB.out | apply yas | apply yah | apply yat | refine yae ?_ (yax HI0.out) | refine yae ?_ GE101.out | refine yae ?_ GE104.out) | exact HB.out)); rintro e w48 ⟨rfl, hi, hb, hk⟩; refine ⟨_, rfl, ?_⟩; have n0_ := yaa (yao hk (g' := gb101) (o := .cells #[.int .i64 0, .int .i64 0, .int .i64 0, .int .i64 0, .int .i64 0] 146 (0, 0)) (by (with_reducible repeat (first | refine yab ?_ _ | refine yad ?_ | refine yac ?_ _)); exact BK101.out) NB101_0.out (by simp)); have n1_ := yaa (yao hk (g' := gb104) (o := .cells #[.int .i64 x105000_3, .int .i64 x105001_3, .int .i64 x105002_3, .int .i64 x105003_3, .int .i64 x105004_3] 146 (0, 0)) (by (with_reducible repeat (first | refine yab ?_ _ | refine yad ?_ | refine yac ?_ _)); exact BK104.out) NB104_0.out (by simp)); have n2_ := yaa (yau (by repeat (first | (with_reducible first | exact HK.out | apply yal | apply yaq | apply yav | apply yar | refine yam ?_ GW101.out _ | refine yam ?_ GW104.out _) | exact HK.out)) hk (.inl rfl)); have n3_ := yaa (hb); have n4_ := yaa (hi); clear BK101; clear BK104; clear HK; clear HB; clear HI0; have BK101 := n0_; have BK104 := n1_; have HK := n2_; have HB := n3_; have HI0 := n4_; clear n0_ n1_ n2_ n3_ n4_; (try clear hb); (try clear hb2); (try clear hk); (try clear hi)) | ((with_reducible refine yay (f := 116) rfl ?_); refine goesL_ (some 47) rfl rfl Try.func116 (by kernel_rfl) rfl #[.pointer (some ⟨g, 0, none⟩), .int .i64 4] rfl (by (try simp only [List.map_toArray, List.map_cons, List.map_nil]); first | done | rfl | (simp only [List.length_drop, List.length_take]; rfl)) ?_; (with_reducible refine (spec_l20Rd_pick.calls kj3 g s0_0 t124 4 t125 t126 w0 _ ?side1 ?side2 A43.out).mono ?_); (case side1 => repeat (first | (with_reducible first | exact HI0.out | apply yai | apply yaj | apply yan | apply yak | refine yaf ?_ NB0_101.out _ | refine yaf ?_ NB0_104.out _) | exact HI0.out)); (case side2 => repeat (first | (with_reducible first | exact HB.out | apply yas | apply yah | apply yat | refine yae ?_ (yax HI0.out) | refine yae ?_ GE101.out | refine yae ?_ GE104.out) | exact HB.out)); rintro e w49 ⟨rfl, hi, hb, hk⟩; refine ⟨_, rfl, ?_⟩; have n0_ := yaa (yao hk (g' := gb101) (o := .cells #[.int .i64 0, .int .i64 0, .int .i64 0, .int .i64 0, .int .i64 0] 146 (0, 0)) (by (with_reducible repeat (first | refine yab ?_ _ | refine yad ?_ | refine yac ?_ _)); exact BK101.out) NB101_0.out (by simp)); have n1_ := yaa (yao hk (g' := gb104) (o := .cells #[.int .i64 x105000_3, .int .i64 x105001_3, .int .i64 x105002_3, .int .i64 x105003_3, .int .i64 x105004_3] 146 (0, 0)) (by (with_reducible repeat (first | refine yab ?_ _ | refine yad ?_ | refine yac ?_ _)); exact BK104.out) NB104_0.out (by simp)); have n2_ := yaa (yau (by repeat (first | (with_reducible first | exact HK.out | apply yal | apply yaq | apply yav | apply yar | refine yam ?_ GW101.out _ | refine yam ?_ GW104.out _) | exact HK.out)) hk (.inl rfl)); have n3_ := yaa (hb); have n4_ := yaa (hi); clear BK101; clear BK104; clear HK; clear HB; clear HI0; have BK101 := n0_; have BK104 := n1_; have HK := n2_; have HB := n3_; have HI0 := n4_; clear n0_ n1_ n2_ n3_ n4_; (try clear hb); (try clear hb2); (try clear hk); (try clear hi)) | ((with_reducible refine gate_dst (N := 56) rfl ?_); refine Kd.R_lit (Kd.int .i64) _ 3 ?hg (N := 56) ?hd (xs := ([0, 9] : List Int)) (inner := [.int .i64 0, .int .i64 9]) (ok := fun _ => True) (okp := fun _ => True) ?hr ?hp (fun _ hk => hk) trivial (Below.refl _ _) (Nat.le_refl _) (by simp) ?_; (case hd => rfl); (case hg => rfl); (case hr => first | (go_simp; done) | (go_simp; rfl)); (case hp => exact (Reps.one (show Kd.M (Kd.int .i64) _ _ _ 0 [.int .i64 0] from rfl) (Reps.one (show Kd.M (Kd.int .i64) _ _ _ 9 [.int .i64 9] from rfl) (Reps.none _ _)))); intro v128 w50 ho51 hb hg_ hnew_; clear hg_ hnew_; (first | rw [← Ny127.out] at ho51 | (simp only [Int.reduceToNat] at ho51; rw [← Ny127.out] at ho51)); have n0_ := yaa (Kd.R_lower ho51 (keep_size (w := w) (g := g) (row := none) (by repeat (first | (with_reducible first | exact HK.out | apply yal | apply yaq | apply yav | apply yar | refine yam ?_ GW101.out _ | refine yam ?_ GW104.out _) | exact HK.out)))); have n1_ := yaa (blk_below (g := gb101) (o := .cells #[.int .i64 0, .int .i64 0, .int .i64 0, .int .i64 0, .int .i64 0] 146 (0, 0)) (by (with_reducible repeat (first | refine yab ?_ _ | refine yad ?_ | refine yac ?_ _)); exact BK101.out) hb); have n2_ := yaa (blk_below (g := gb104) (o := .cells #[.int .i64 x105000_3, .int .i64 x105001_3, .int .i64 x105002_3, .int .i64 x105003_3, .int .i64 x105004_3] 146 (0, 0)) (by (with_reducible repeat (first | refine yab ?_ _ | refine yad ?_ | refine yac ?_ _)); exact BK104.out) hb); have n3_ := yaa (IsS143.below (by repeat (first | (with_reducible first | exact HI0.out | apply yai | apply yaj | apply yan | apply yak | refine yaf ?_ NB0_101.out _ | refine yaf ?_ NB0_104.out _) | exact HI0.out)) hb); have n4_ := yaa (yau (by repeat (first | (with_reducible first | exact HK.out | apply yal | apply yaq | apply yav | apply yar | refine yam ?_ GW101.out _ | refine yam ?_ GW104.out _) | exact HK.out)) (KeepBut.of_below hb g none) (.inl rfl)); have n5_ := yaa (below_step (by repeat (first | (with_reducible first | exact HB.out | apply yas | apply yah | apply yat | refine yae ?_ (yax HI0.out) | refine yae ?_ GE101.out | refine yae ?_ GE104.out) | exact HB.out)) hb); clear BK101; clear BK104; clear HI0; clear HK; clear HB; have HO129 := n0_; have BK101 := n1_; have BK104 := n2_; have HI0 := n3_; have HK := n4_; have HB := n5_; clear n0_ n1_ n2_ n3_ n4_ n5_; clear hb ho51) | ((with_reducible refine yay (f := 116) rfl ?_); refine goesL_ (some 58) rfl rfl Try.func116 (by kernel_rfl) rfl #[.pointer (some ⟨g, 0, none⟩), .int .i64 2] rfl (by (try simp only [List.map_toArray, List.map_cons, List.map_nil]); first | done | rfl | (simp only [List.length_drop, List.length_take]; rfl)) ?_; (with_reducible refine (spec_l20Rd_pick.calls kj3 g s0_0 t126 2 t130 t131 w0 _ ?side1 ?side2 A45.out).mono ?_); (case side1 => repeat (first | (with_reducible first | exact HI0.out | apply yai | apply yaj | apply yan | apply yak | refine yaf ?_ NB0_101.out _ | refine yaf ?_ NB0_104.out _) | exact HI0.out)); (case side2 => repeat (first | (with_reducible first | exact HB.out | apply yas | apply yah | apply yat | refine yae ?_ (yax HI0.out) | refine yae ?_ GE101.out | refine yae ?_ GE104.out) | exact HB.out)); rintro e w52 ⟨rfl, hi, hb, hk⟩; refine ⟨_, rfl, ?_⟩; have n0_ := yaa (yao hk (g' := gb101) (o := .cells #[.int .i64 0, .int .i64 0, .int .i64 0, .int .i64 0, .int .i64 0] 146 (0, 0)) (by (with_reducible repeat (first | refine yab ?_ _ | refine yad ?_ | refine yac ?_ _)); exact BK101.out) NB101_0.out (by simp)); have n1_ := yaa (yao hk (g' := gb104) (o := .cells #[.int .i64 x105000_3, .int .i64 x105001_3, .int .i64 x105002_3, .int .i64 x105003_3, .int .i64 x105004_3] 146 (0, 0)) (by (with_reducible repeat (first | refine yab ?_ _ | refine yad ?_ | refine yac ?_ _)); exact BK104.out) NB104_0.out (by simp)); have n2_ := yaa (Kd.R_mono (Kd.R_keep (IsS143.apart (show IsS143 w0 _ g s0_0 t126 from by repeat (first | (with_reducible first | exact HI0.out | apply yai | apply yaj | apply yan | apply yak | refine yaf ?_ NB0_101.out _ | refine yaf ?_ NB0_104.out _) | exact HI0.out)) (by (with_reducible repeat (first | apply Kd.R_alloc | apply Kd.R_drewN | apply Kd.R_drew)); exact HO129.out) (by decide)) hk (fun _ h => h.2)) (fun _ h => h.1)); have n3_ := yaa (yau (by repeat (first | (with_reducible first | exact HK.out | apply yal | apply yaq | apply yav | apply yar | refine yam ?_ GW101.out _ | refine yam ?_ GW104.out _) | exact HK.out)) hk (.inl rfl)); have n4_ := yaa (hb); have n5_ := yaa (hi); clear BK101; clear BK104; clear HO129; clear HK; clear HB; clear HI0; have BK101 := n0_; have BK104 := n1_; have HO129 := n2_; have HK := n3_; have HB := n4_; have HI0 := n5_; clear n0_ n1_ n2_ n3_ n4_ n5_; (try clear hb); (try clear hb2); (try clear hk); (try clear hi); obtain ⟨Ao53, co53, eo53⟩ := Kd.R_slice HO129.out; subst eo53; have p132 : 0 ≤ (t130 : Int) := of_decide_eq_true (by first | (with_reducible assumption) | assumption); have q132 : t130 < (y127.length : Int) := of_decide_eq_true (by first | (with_reducible assumption) | assumption); obtain ⟨ad132, e132, hx132_0⟩ := Kd.at_int (Kd.R_reads' HO129.out).2.2 t130 p132 q132; cases e132; replace p132 := eq_true p132; replace q132 := eq_true q132; have hnb54 := NB104_101.out; have hnc54 := NB101_104.out; have hnb55 := NB104_0.out; have hnc55 := NB0_104.out; have hcz56_0 : w52.cell? ⟨gb104, 0, none⟩ = some (.int .i64 x105000_3) := (yap BK104.out 0).trans rfl; have hcz56_1 : w52.cell? ⟨gb104, 1, none⟩ = some (.int .i64 x105001_3) := (yap BK104.out 1).trans rfl; have hcz56_2 : w52.cell? ⟨gb104, 2, none⟩ = some (.int .i64 x105002_3) := (yap BK104.out 2).trans rfl; have hcz56_3 : w52.cell? ⟨gb104, 3, none⟩ = some (.int .i64 x105003_3) := (yap BK104.out 3).trans rfl; have hcz56_4 : w52.cell? ⟨gb104, 4, none⟩ = some (.int .i64 x105004_3) := (yap BK104.out 4).trans rfl; have hfz56_0 := yag BK104.out 0; have hfz56_1 := yag BK104.out 1; have hfz56_2 := yag BK104.out 2; have hfz56_3 := yag BK104.out 3; have hfz56_4 := yag BK104.out 4; have hnb57 := NB101_0.out; have hnc57 := NB0_101.out; have hcz58_0 : w52.cell? ⟨gb101, 0, none⟩ = some (.int .i64 0) := (yap BK101.out 0).trans rfl; have hcz58_1 : w52.cell? ⟨gb101, 1, none⟩ = some (.int .i64 0) := (yap BK101.out 1).trans rfl; have hcz58_2 : w52.cell? ⟨gb101, 2, none⟩ = some (.int .i64 0) := (yap BK101.out 2).trans rfl; have hcz58_3 : w52.cell? ⟨gb101, 3, none⟩ = some (.int .i64 0) := (yap BK101.out 3).trans rfl; have hcz58_4 : w52.cell? ⟨gb101, 4, none⟩ = some (.int .i64 0) := (yap BK101.out 4).trans rfl; have hfz58_0 := yag BK101.out 0; have hfz58_1 := yag BK101.out 1; have hfz58_2 := yag BK101.out 2; have hfz58_3 := yag BK101.out 3; have hfz58_4 := yag BK101.out 4))
       refine bodyPost_ret (results_cell_row rfl _ _ gb101 146 #[.int .i64 (rd y127 t130), .int .i64 x105001_3, .int .i64 x105002_3, .int .i64 x105003_3, .int .i64 x105004_3] (0, 0) _ rfl (by (with_reducible repeat (first | refine yab ?_ _ | refine yad ?_ | refine yac ?_ _)); refine yaw (cs := #[.int .i64 (rd y127 t130), .int .i64 x105001_3, .int .i64 x105002_3, .int .i64 x105003_3, .int .i64 0]) ?_ 4 _ rfl; (with_reducible repeat (first | refine yab ?_ _ | refine yad ?_ | refine yac ?_ _)); refine yaw (cs := #[.int .i64 (rd y127 t130), .int .i64 x105001_3, .int .i64 x105002_3, .int .i64 0, .int .i64 0]) ?_ 3 _ rfl; (with_reducible repeat (first | refine yab ?_ _ | refine yad ?_ | refine yac ?_ _)); refine yaw (cs := #[.int .i64 (rd y127 t130), .int .i64 x105001_3, .int .i64 0, .int .i64 0, .int .i64 0]) ?_ 2 _ rfl; (with_reducible repeat (first | refine yab ?_ _ | refine yad ?_ | refine yac ?_ _)); refine yaw (cs := #[.int .i64 (rd y127 t130), .int .i64 0, .int .i64 0, .int .i64 0, .int .i64 0]) ?_ 1 _ rfl; (with_reducible repeat (first | refine yab ?_ _ | refine yad ?_ | refine yac ?_ _)); refine yaw (cs := #[.int .i64 0, .int .i64 0, .int .i64 0, .int .i64 0, .int .i64 0]) ?_ 0 _ rfl; (with_reducible repeat (first | refine yab ?_ _ | refine yad ?_ | refine yac ?_ _)); refine yaz ?_ NB101_104.out _; (with_reducible repeat (first | refine yab ?_ _ | refine yad ?_ | refine yac ?_ _)); exact BK101.out) Try.underlying146 rfl (by kernel_rfl)) rfl ?_
       exact ⟨by first | rfl | (simp [errW_none, errW_some] <;> rfl) | (simp [*, errW_none, errW_some] <;> rfl), by repeat (first | (with_reducible first | exact HI0.out | apply yai | apply yaj | apply yan | apply yak | refine yaf ?_ NB0_101.out _ | refine yaf ?_ NB0_104.out _) | exact HI0.out), by repeat (first | (with_reducible first | exact HB.out | apply yas | apply yah | apply yat | refine yae ?_ (yax HI0.out) | refine yae ?_ GE101.out | refine yae ?_ GE104.out) | exact HB.out), by repeat (first | (with_reducible first | exact HK.out | apply yal | apply yaq | apply yav | apply yar | refine yam ?_ GW101.out _ | refine yam ?_ GW104.out _) | exact HK.out)⟩
      ·
       rw [if_neg c47] at H
       exact absurd H (by simp)
     ·
      rw [if_neg c46] at H
      exact absurd H (by simp)
    ·
     rw [if_neg c44] at H
     have c44b0 : (t125 == 0) = false := beq_eq_false_iff_ne.mpr c44
     have c44b1 : (t125 != 0) = true := bne_iff_ne.mpr c44
     by_cases c59 : t125 = 1
     ·
      rw [if_pos c59] at H
      have c59b0 : (t125 == 1) = true := beq_iff_eq.mpr c59
      have c59b1 : (t125 != 1) = false := bne_eq_false_iff_eq.mpr c59
      clear c59
      obtain ⟨y133, hy133⟩ : ∃ y_ : List Int, y_ = (([(-1), 256] : List Int)) := ⟨_, rfl⟩
      replace H : ((spec_l20Rd_pick.f kj3 s0_0 t126 2).bind fun bt136 => (if 0 ≤ bt136.1 then (if bt136.1 < (y133.length : Int) then (some (x105000_3, rd y133 bt136.1, x105002_3, x105003_3, x105004_3, bt136.2)) else (none)) else (none))) = some (r1, r2, r3, r4, r5, r6) := by first | (rw [hy133]; with_reducible exact H) | (have H2_ := (Option.bind_some _ _).symm.trans H; rw [hy133]; with_reducible exact H2_) | (have H2_ := (Option.bind_some _ _).symm.trans H; with_reducible exact H2_) | with_reducible exact H | (rw [hy133]; exact H) | exact H
      have Ny133 := yaa hy133
      clear hy133
      replace H := Option.bind_eq_some_iff.mp H
      obtain ⟨⟨t136, t137⟩, A600, H⟩ := H
      replace H : (if 0 ≤ t136 then (if t136 < (y133.length : Int) then (some (x105000_3, rd y133 t136, x105002_3, x105003_3, x105004_3, t137)) else (none)) else (none)) = some (r1, r2, r3, r4, r5, r6) := H
      have A60 := yaa A600
      clear A600
      by_cases c61 : 0 ≤ t136
      ·
       rw [if_pos c61] at H
       have c61b0 : decide (0 ≤ t136) = true := decide_eq_true c61
       clear c61
       by_cases c62 : t136 < (y133.length : Int)
       ·
        rw [if_pos c62] at H
        have c62b0 : decide (t136 < (y133.length : Int)) = true := decide_eq_true c62
        clear c62
        simp only [Option.some.injEq, Prod.mk.injEq] at H
        obtain ⟨rfl, rfl, rfl, rfl, rfl, rfl⟩ := H
        go_wp2_with (first | ((with_reducible refine yay (f := 117) rfl ?_); refine goesL_ (some 45) rfl rfl Try.func117 (by kernel_rfl) rfl #[.pointer (some ⟨g, 0, none⟩), .int .i64 a1] rfl (by (try simp only [List.map_toArray, List.map_cons, List.map_nil]); first | done | rfl | (simp only [List.length_drop, List.length_take]; rfl)) ?_; (with_reducible refine (spec_l20Rd_odd.calls kj3 g s0_0 x1001_3 a1 true t124 w0 _ ?side1 ?side2 A41.out).mono ?_); (case side1 => repeat (first | (with_reducible first | exact HI0.out | apply yai | apply yaj | apply yan | apply yak | refine yaf ?_ NB0_101.out _ | refine yaf ?_ NB0_104.out _) | exact HI0.out)); (case side2 => repeat (first | (with_reducible first | exact HB.out | apply yas | apply yah | apply yat | refine yae ?_ (yax HI0.out) | refine yae ?_ GE101.out | refine yae ?_ GE104.out) | exact HB.out)); rintro e w63 ⟨rfl, hi, hb, hk⟩; refine ⟨_, rfl, ?_⟩; have n0_ := yaa (yao hk (g' := gb101) (o := .cells #[.int .i64 0, .int .i64 0, .int .i64 0, .int .i64 0, .int .i64 0] 146 (0, 0)) (by (with_reducible repeat (first | refine yab ?_ _ | refine yad ?_ | refine yac ?_ _)); exact BK101.out) NB101_0.out (by simp)); have n1_ := yaa (yao hk (g' := gb104) (o := .cells #[.int .i64 x105000_3, .int .i64 x105001_3, .int .i64 x105002_3, .int .i64 x105003_3, .int .i64 x105004_3] 146 (0, 0)) (by (with_reducible repeat (first | refine yab ?_ _ | refine yad ?_ | refine yac ?_ _)); exact BK104.out) NB104_0.out (by simp)); have n2_ := yaa (yau (by repeat (first | (with_reducible first | exact HK.out | apply yal | apply yaq | apply yav | apply yar | refine yam ?_ GW101.out _ | refine yam ?_ GW104.out _) | exact HK.out)) hk (.inl rfl)); have n3_ := yaa (hb); have n4_ := yaa (hi); clear BK101; clear BK104; clear HK; clear HB; clear HI0; have BK101 := n0_; have BK104 := n1_; have HK := n2_; have HB := n3_; have HI0 := n4_; clear n0_ n1_ n2_ n3_ n4_; (try clear hb); (try clear hb2); (try clear hk); (try clear hi)) | ((with_reducible refine yay (f := 116) rfl ?_); refine goesL_ (some 47) rfl rfl Try.func116 (by kernel_rfl) rfl #[.pointer (some ⟨g, 0, none⟩), .int .i64 4] rfl (by (try simp only [List.map_toArray, List.map_cons, List.map_nil]); first | done | rfl | (simp only [List.length_drop, List.length_take]; rfl)) ?_; (with_reducible refine (spec_l20Rd_pick.calls kj3 g s0_0 t124 4 t125 t126 w0 _ ?side1 ?side2 A43.out).mono ?_); (case side1 => repeat (first | (with_reducible first | exact HI0.out | apply yai | apply yaj | apply yan | apply yak | refine yaf ?_ NB0_101.out _ | refine yaf ?_ NB0_104.out _) | exact HI0.out)); (case side2 => repeat (first | (with_reducible first | exact HB.out | apply yas | apply yah | apply yat | refine yae ?_ (yax HI0.out) | refine yae ?_ GE101.out | refine yae ?_ GE104.out) | exact HB.out)); rintro e w64 ⟨rfl, hi, hb, hk⟩; refine ⟨_, rfl, ?_⟩; have n0_ := yaa (yao hk (g' := gb101) (o := .cells #[.int .i64 0, .int .i64 0, .int .i64 0, .int .i64 0, .int .i64 0] 146 (0, 0)) (by (with_reducible repeat (first | refine yab ?_ _ | refine yad ?_ | refine yac ?_ _)); exact BK101.out) NB101_0.out (by simp)); have n1_ := yaa (yao hk (g' := gb104) (o := .cells #[.int .i64 x105000_3, .int .i64 x105001_3, .int .i64 x105002_3, .int .i64 x105003_3, .int .i64 x105004_3] 146 (0, 0)) (by (with_reducible repeat (first | refine yab ?_ _ | refine yad ?_ | refine yac ?_ _)); exact BK104.out) NB104_0.out (by simp)); have n2_ := yaa (yau (by repeat (first | (with_reducible first | exact HK.out | apply yal | apply yaq | apply yav | apply yar | refine yam ?_ GW101.out _ | refine yam ?_ GW104.out _) | exact HK.out)) hk (.inl rfl)); have n3_ := yaa (hb); have n4_ := yaa (hi); clear BK101; clear BK104; clear HK; clear HB; clear HI0; have BK101 := n0_; have BK104 := n1_; have HK := n2_; have HB := n3_; have HI0 := n4_; clear n0_ n1_ n2_ n3_ n4_; (try clear hb); (try clear hb2); (try clear hk); (try clear hi)) | ((with_reducible refine gate_dst (N := 64) rfl ?_); refine Kd.R_lit (Kd.int .i64) _ 3 ?hg (N := 64) ?hd (xs := ([(-1), 256] : List Int)) (inner := [.int .i64 (-1), .int .i64 256]) (ok := fun _ => True) (okp := fun _ => True) ?hr ?hp (fun _ hk => hk) trivial (Below.refl _ _) (Nat.le_refl _) (by simp) ?_; (case hd => rfl); (case hg => rfl); (case hr => first | (go_simp; done) | (go_simp; rfl)); (case hp => exact (Reps.one (show Kd.M (Kd.int .i64) _ _ _ (-1) [.int .i64 (-1)] from rfl) (Reps.one (show Kd.M (Kd.int .i64) _ _ _ 256 [.int .i64 256] from rfl) (Reps.none _ _)))); intro v134 w65 ho66 hb hg_ hnew_; clear hg_ hnew_; (first | rw [← Ny133.out] at ho66 | (simp only [Int.reduceToNat] at ho66; rw [← Ny133.out] at ho66)); have n0_ := yaa (Kd.R_lower ho66 (keep_size (w := w) (g := g) (row := none) (by repeat (first | (with_reducible first | exact HK.out | apply yal | apply yaq | apply yav | apply yar | refine yam ?_ GW101.out _ | refine yam ?_ GW104.out _) | exact HK.out)))); have n1_ := yaa (blk_below (g := gb101) (o := .cells #[.int .i64 0, .int .i64 0, .int .i64 0, .int .i64 0, .int .i64 0] 146 (0, 0)) (by (with_reducible repeat (first | refine yab ?_ _ | refine yad ?_ | refine yac ?_ _)); exact BK101.out) hb); have n2_ := yaa (blk_below (g := gb104) (o := .cells #[.int .i64 x105000_3, .int .i64 x105001_3, .int .i64 x105002_3, .int .i64 x105003_3, .int .i64 x105004_3] 146 (0, 0)) (by (with_reducible repeat (first | refine yab ?_ _ | refine yad ?_ | refine yac ?_ _)); exact BK104.out) hb); have n3_ := yaa (IsS143.below (by repeat (first | (with_reducible first | exact HI0.out | apply yai | apply yaj | apply yan | apply yak | refine yaf ?_ NB0_101.out _ | refine yaf ?_ NB0_104.out _) | exact HI0.out)) hb); have n4_ := yaa (yau (by repeat (first | (with_reducible first | exact HK.out | apply yal | apply yaq | apply yav | apply yar | refine yam ?_ GW101.out _ | refine yam ?_ GW104.out _) | exact HK.out)) (KeepBut.of_below hb g none) (.inl rfl)); have n5_ := yaa (below_step (by repeat (first | (with_reducible first | exact HB.out | apply yas | apply yah | apply yat | refine yae ?_ (yax HI0.out) | refine yae ?_ GE101.out | refine yae ?_ GE104.out) | exact HB.out)) hb); clear BK101; clear BK104; clear HI0; clear HK; clear HB; have HO135 := n0_; have BK101 := n1_; have BK104 := n2_; have HI0 := n3_; have HK := n4_; have HB := n5_; clear n0_ n1_ n2_ n3_ n4_ n5_; clear hb ho66) | ((with_reducible refine yay (f := 116) rfl ?_); refine goesL_ (some 66) rfl rfl Try.func116 (by kernel_rfl) rfl #[.pointer (some ⟨g, 0, none⟩), .int .i64 2] rfl (by (try simp only [List.map_toArray, List.map_cons, List.map_nil]); first | done | rfl | (simp only [List.length_drop, List.length_take]; rfl)) ?_; (with_reducible refine (spec_l20Rd_pick.calls kj3 g s0_0 t126 2 t136 t137 w0 _ ?side1 ?side2 A60.out).mono ?_); (case side1 => repeat (first | (with_reducible first | exact HI0.out | apply yai | apply yaj | apply yan | apply yak | refine yaf ?_ NB0_101.out _ | refine yaf ?_ NB0_104.out _) | exact HI0.out)); (case side2 => repeat (first | (with_reducible first | exact HB.out | apply yas | apply yah | apply yat | refine yae ?_ (yax HI0.out) | refine yae ?_ GE101.out | refine yae ?_ GE104.out) | exact HB.out)); rintro e w67 ⟨rfl, hi, hb, hk⟩; refine ⟨_, rfl, ?_⟩; have n0_ := yaa (yao hk (g' := gb101) (o := .cells #[.int .i64 0, .int .i64 0, .int .i64 0, .int .i64 0, .int .i64 0] 146 (0, 0)) (by (with_reducible repeat (first | refine yab ?_ _ | refine yad ?_ | refine yac ?_ _)); exact BK101.out) NB101_0.out (by simp)); have n1_ := yaa (yao hk (g' := gb104) (o := .cells #[.int .i64 x105000_3, .int .i64 x105001_3, .int .i64 x105002_3, .int .i64 x105003_3, .int .i64 x105004_3] 146 (0, 0)) (by (with_reducible repeat (first | refine yab ?_ _ | refine yad ?_ | refine yac ?_ _)); exact BK104.out) NB104_0.out (by simp)); have n2_ := yaa (Kd.R_mono (Kd.R_keep (IsS143.apart (show IsS143 w0 _ g s0_0 t126 from by repeat (first | (with_reducible first | exact HI0.out | apply yai | apply yaj | apply yan | apply yak | refine yaf ?_ NB0_101.out _ | refine yaf ?_ NB0_104.out _) | exact HI0.out)) (by (with_reducible repeat (first | apply Kd.R_alloc | apply Kd.R_drewN | apply Kd.R_drew)); exact HO135.out) (by decide)) hk (fun _ h => h.2)) (fun _ h => h.1)); have n3_ := yaa (yau (by repeat (first | (with_reducible first | exact HK.out | apply yal | apply yaq | apply yav | apply yar | refine yam ?_ GW101.out _ | refine yam ?_ GW104.out _) | exact HK.out)) hk (.inl rfl)); have n4_ := yaa (hb); have n5_ := yaa (hi); clear BK101; clear BK104; clear HO135; clear HK; clear HB; clear HI0; have BK101 := n0_; have BK104 := n1_; have HO135 := n2_; have HK := n3_; have HB := n4_; have HI0 := n5_; clear n0_ n1_ n2_ n3_ n4_ n5_; (try clear hb); (try clear hb2); (try clear hk); (try clear hi); obtain ⟨Ao68, co68, eo68⟩ := Kd.R_slice HO135.out; subst eo68; have p138 : 0 ≤ (t136 : Int) := of_decide_eq_true (by first | (with_reducible assumption) | assumption); have q138 : t136 < (y133.length : Int) := of_decide_eq_true (by first | (with_reducible assumption) | assumption); obtain ⟨ad138, e138, hx138_0⟩ := Kd.at_int (Kd.R_reads' HO135.out).2.2 t136 p138 q138; cases e138; replace p138 := eq_true p138; replace q138 := eq_true q138; have hnb69 := NB104_101.out; have hnc69 := NB101_104.out; have hnb70 := NB104_0.out; have hnc70 := NB0_104.out; have hcz71_0 : w67.cell? ⟨gb104, 0, none⟩ = some (.int .i64 x105000_3) := (yap BK104.out 0).trans rfl; have hcz71_1 : w67.cell? ⟨gb104, 1, none⟩ = some (.int .i64 x105001_3) := (yap BK104.out 1).trans rfl; have hcz71_2 : w67.cell? ⟨gb104, 2, none⟩ = some (.int .i64 x105002_3) := (yap BK104.out 2).trans rfl; have hcz71_3 : w67.cell? ⟨gb104, 3, none⟩ = some (.int .i64 x105003_3) := (yap BK104.out 3).trans rfl; have hcz71_4 : w67.cell? ⟨gb104, 4, none⟩ = some (.int .i64 x105004_3) := (yap BK104.out 4).trans rfl; have hfz71_0 := yag BK104.out 0; have hfz71_1 := yag BK104.out 1; have hfz71_2 := yag BK104.out 2; have hfz71_3 := yag BK104.out 3; have hfz71_4 := yag BK104.out 4; have hnb72 := NB101_0.out; have hnc72 := NB0_101.out; have hcz73_0 : w67.cell? ⟨gb101, 0, none⟩ = some (.int .i64 0) := (yap BK101.out 0).trans rfl; have hcz73_1 : w67.cell? ⟨gb101, 1, none⟩ = some (.int .i64 0) := (yap BK101.out 1).trans rfl; have hcz73_2 : w67.cell? ⟨gb101, 2, none⟩ = some (.int .i64 0) := (yap BK101.out 2).trans rfl; have hcz73_3 : w67.cell? ⟨gb101, 3, none⟩ = some (.int .i64 0) := (yap BK101.out 3).trans rfl; have hcz73_4 : w67.cell? ⟨gb101, 4, none⟩ = some (.int .i64 0) := (yap BK101.out 4).trans rfl; have hfz73_0 := yag BK101.out 0; have hfz73_1 := yag BK101.out 1; have hfz73_2 := yag BK101.out 2; have hfz73_3 := yag BK101.out 3; have hfz73_4 := yag BK101.out 4))
        refine bodyPost_ret (results_cell_row rfl _ _ gb101 146 #[.int .i64 x105000_3, .int .i64 (rd y133 t136), .int .i64 x105002_3, .int .i64 x105003_3, .int .i64 x105004_3] (0, 0) _ rfl (by (with_reducible repeat (first | refine yab ?_ _ | refine yad ?_ | refine yac ?_ _)); refine yaw (cs := #[.int .i64 x105000_3, .int .i64 (rd y133 t136), .int .i64 x105002_3, .int .i64 x105003_3, .int .i64 0]) ?_ 4 _ rfl; (with_reducible repeat (first | refine yab ?_ _ | refine yad ?_ | refine yac ?_ _)); refine yaw (cs := #[.int .i64 x105000_3, .int .i64 (rd y133 t136), .int .i64 x105002_3, .int .i64 0, .int .i64 0]) ?_ 3 _ rfl; (with_reducible repeat (first | refine yab ?_ _ | refine yad ?_ | refine yac ?_ _)); refine yaw (cs := #[.int .i64 x105000_3, .int .i64 (rd y133 t136), .int .i64 0, .int .i64 0, .int .i64 0]) ?_ 2 _ rfl; (with_reducible repeat (first | refine yab ?_ _ | refine yad ?_ | refine yac ?_ _)); refine yaw (cs := #[.int .i64 x105000_3, .int .i64 0, .int .i64 0, .int .i64 0, .int .i64 0]) ?_ 1 _ rfl; (with_reducible repeat (first | refine yab ?_ _ | refine yad ?_ | refine yac ?_ _)); refine yaw (cs := #[.int .i64 0, .int .i64 0, .int .i64 0, .int .i64 0, .int .i64 0]) ?_ 0 _ rfl; (with_reducible repeat (first | refine yab ?_ _ | refine yad ?_ | refine yac ?_ _)); refine yaz ?_ NB101_104.out _; (with_reducible repeat (first | refine yab ?_ _ | refine yad ?_ | refine yac ?_ _)); exact BK101.out) Try.underlying146 rfl (by kernel_rfl)) rfl ?_
        exact ⟨by first | rfl | (simp [errW_none, errW_some] <;> rfl) | (simp [*, errW_none, errW_some] <;> rfl), by repeat (first | (with_reducible first | exact HI0.out | apply yai | apply yaj | apply yan | apply yak | refine yaf ?_ NB0_101.out _ | refine yaf ?_ NB0_104.out _) | exact HI0.out), by repeat (first | (with_reducible first | exact HB.out | apply yas | apply yah | apply yat | refine yae ?_ (yax HI0.out) | refine yae ?_ GE101.out | refine yae ?_ GE104.out) | exact HB.out), by repeat (first | (with_reducible first | exact HK.out | apply yal | apply yaq | apply yav | apply yar | refine yam ?_ GW101.out _ | refine yam ?_ GW104.out _) | exact HK.out)⟩
       ·
        rw [if_neg c62] at H
        exact absurd H (by simp)
      ·
       rw [if_neg c61] at H
       exact absurd H (by simp)
     ·
      rw [if_neg c59] at H
      have c59b0 : (t125 == 1) = false := beq_eq_false_iff_ne.mpr c59
      have c59b1 : (t125 != 1) = true := bne_iff_ne.mpr c59
      by_cases c74 : t125 = 2
      ·
       rw [if_pos c74] at H
       have c74b0 : (t125 == 2) = true := beq_iff_eq.mpr c74
       have c74b1 : (t125 != 2) = false := bne_eq_false_iff_eq.mpr c74
       clear c74
       obtain ⟨y139, hy139⟩ : ∃ y_ : List Int, y_ = (([(-1), 256] : List Int)) := ⟨_, rfl⟩
       replace H : ((spec_l20Rd_pick.f kj3 s0_0 t126 2).bind fun bt142 => (if 0 ≤ bt142.1 then (if bt142.1 < (y139.length : Int) then (some (x105000_3, x105001_3, x105002_3, rd y139 bt142.1, x105004_3, bt142.2)) else (none)) else (none))) = some (r1, r2, r3, r4, r5, r6) := by first | (rw [hy139]; with_reducible exact H) | (have H2_ := (Option.bind_some _ _).symm.trans H; rw [hy139]; with_reducible exact H2_) | (have H2_ := (Option.bind_some _ _).symm.trans H; with_reducible exact H2_) | with_reducible exact H | (rw [hy139]; exact H) | exact H
       have Ny139 := yaa hy139
       clear hy139
       replace H := Option.bind_eq_some_iff.mp H
       obtain ⟨⟨t142, t143⟩, A750, H⟩ := H
       replace H : (if 0 ≤ t142 then (if t142 < (y139.length : Int) then (some (x105000_3, x105001_3, x105002_3, rd y139 t142, x105004_3, t143)) else (none)) else (none)) = some (r1, r2, r3, r4, r5, r6) := H
       have A75 := yaa A750
       clear A750
       by_cases c76 : 0 ≤ t142
       ·
        rw [if_pos c76] at H
        have c76b0 : decide (0 ≤ t142) = true := decide_eq_true c76
        clear c76
        by_cases c77 : t142 < (y139.length : Int)
        ·
         rw [if_pos c77] at H
         have c77b0 : decide (t142 < (y139.length : Int)) = true := decide_eq_true c77
         clear c77
         simp only [Option.some.injEq, Prod.mk.injEq] at H
         obtain ⟨rfl, rfl, rfl, rfl, rfl, rfl⟩ := H
         go_wp2_with (first | ((with_reducible refine yay (f := 117) rfl ?_); refine goesL_ (some 45) rfl rfl Try.func117 (by kernel_rfl) rfl #[.pointer (some ⟨g, 0, none⟩), .int .i64 a1] rfl (by (try simp only [List.map_toArray, List.map_cons, List.map_nil]); first | done | rfl | (simp only [List.length_drop, List.length_take]; rfl)) ?_; (with_reducible refine (spec_l20Rd_odd.calls kj3 g s0_0 x1001_3 a1 true t124 w0 _ ?side1 ?side2 A41.out).mono ?_); (case side1 => repeat (first | (with_reducible first | exact HI0.out | apply yai | apply yaj | apply yan | apply yak | refine yaf ?_ NB0_101.out _ | refine yaf ?_ NB0_104.out _) | exact HI0.out)); (case side2 => repeat (first | (with_reducible first | exact HB.out | apply yas | apply yah | apply yat | refine yae ?_ (yax HI0.out) | refine yae ?_ GE101.out | refine yae ?_ GE104.out) | exact HB.out)); rintro e w78 ⟨rfl, hi, hb, hk⟩; refine ⟨_, rfl, ?_⟩; have n0_ := yaa (yao hk (g' := gb101) (o := .cells #[.int .i64 0, .int .i64 0, .int .i64 0, .int .i64 0, .int .i64 0] 146 (0, 0)) (by (with_reducible repeat (first | refine yab ?_ _ | refine yad ?_ | refine yac ?_ _)); exact BK101.out) NB101_0.out (by simp)); have n1_ := yaa (yao hk (g' := gb104) (o := .cells #[.int .i64 x105000_3, .int .i64 x105001_3, .int .i64 x105002_3, .int .i64 x105003_3, .int .i64 x105004_3] 146 (0, 0)) (by (with_reducible repeat (first | refine yab ?_ _ | refine yad ?_ | refine yac ?_ _)); exact BK104.out) NB104_0.out (by simp)); have n2_ := yaa (yau (by repeat (first | (with_reducible first | exact HK.out | apply yal | apply yaq | apply yav | apply yar | refine yam ?_ GW101.out _ | refine yam ?_ GW104.out _) | exact HK.out)) hk (.inl rfl)); have n3_ := yaa (hb); have n4_ := yaa (hi); clear BK101; clear BK104; clear HK; clear HB; clear HI0; have BK101 := n0_; have BK104 := n1_; have HK := n2_; have HB := n3_; have HI0 := n4_; clear n0_ n1_ n2_ n3_ n4_; (try clear hb); (try clear hb2); (try clear hk); (try clear hi)) | ((with_reducible refine yay (f := 116) rfl ?_); refine goesL_ (some 47) rfl rfl Try.func116 (by kernel_rfl) rfl #[.pointer (some ⟨g, 0, none⟩), .int .i64 4] rfl (by (try simp only [List.map_toArray, List.map_cons, List.map_nil]); first | done | rfl | (simp only [List.length_drop, List.length_take]; rfl)) ?_; (with_reducible refine (spec_l20Rd_pick.calls kj3 g s0_0 t124 4 t125 t126 w0 _ ?side1 ?side2 A43.out).mono ?_); (case side1 => repeat (first | (with_reducible first | exact HI0.out | apply yai | apply yaj | apply yan | apply yak | refine yaf ?_ NB0_101.out _ | refine yaf ?_ NB0_104.out _) | exact HI0.out)); (case side2 => repeat (first | (with_reducible first | exact HB.out | apply yas | apply yah | apply yat | refine yae ?_ (yax HI0.out) | refine yae ?_ GE101.out | refine yae ?_ GE104.out) | exact HB.out)); rintro e w79 ⟨rfl, hi, hb, hk⟩; refine ⟨_, rfl, ?_⟩; have n0_ := yaa (yao hk (g' := gb101) (o := .cells #[.int .i64 0, .int .i64 0, .int .i64 0, .int .i64 0, .int .i64 0] 146 (0, 0)) (by (with_reducible repeat (first | refine yab ?_ _ | refine yad ?_ | refine yac ?_ _)); exact BK101.out) NB101_0.out (by simp)); have n1_ := yaa (yao hk (g' := gb104) (o := .cells #[.int .i64 x105000_3, .int .i64 x105001_3, .int .i64 x105002_3, .int .i64 x105003_3, .int .i64 x105004_3] 146 (0, 0)) (by (with_reducible repeat (first | refine yab ?_ _ | refine yad ?_ | refine yac ?_ _)); exact BK104.out) NB104_0.out (by simp)); have n2_ := yaa (yau (by repeat (first | (with_reducible first | exact HK.out | apply yal | apply yaq | apply yav | apply yar | refine yam ?_ GW101.out _ | refine yam ?_ GW104.out _) | exact HK.out)) hk (.inl rfl)); have n3_ := yaa (hb); have n4_ := yaa (hi); clear BK101; clear BK104; clear HK; clear HB; clear HI0; have BK101 := n0_; have BK104 := n1_; have HK := n2_; have HB := n3_; have HI0 := n4_; clear n0_ n1_ n2_ n3_ n4_; (try clear hb); (try clear hb2); (try clear hk); (try clear hi)) | ((with_reducible refine gate_dst (N := 72) rfl ?_); refine Kd.R_lit (Kd.int .i64) _ 3 ?hg (N := 72) ?hd (xs := ([(-1), 256] : List Int)) (inner := [.int .i64 (-1), .int .i64 256]) (ok := fun _ => True) (okp := fun _ => True) ?hr ?hp (fun _ hk => hk) trivial (Below.refl _ _) (Nat.le_refl _) (by simp) ?_; (case hd => rfl); (case hg => rfl); (case hr => first | (go_simp; done) | (go_simp; rfl)); (case hp => exact (Reps.one (show Kd.M (Kd.int .i64) _ _ _ (-1) [.int .i64 (-1)] from rfl) (Reps.one (show Kd.M (Kd.int .i64) _ _ _ 256 [.int .i64 256] from rfl) (Reps.none _ _)))); intro v140 w80 ho81 hb hg_ hnew_; clear hg_ hnew_; (first | rw [← Ny139.out] at ho81 | (simp only [Int.reduceToNat] at ho81; rw [← Ny139.out] at ho81)); have n0_ := yaa (Kd.R_lower ho81 (keep_size (w := w) (g := g) (row := none) (by repeat (first | (with_reducible first | exact HK.out | apply yal | apply yaq | apply yav | apply yar | refine yam ?_ GW101.out _ | refine yam ?_ GW104.out _) | exact HK.out)))); have n1_ := yaa (blk_below (g := gb101) (o := .cells #[.int .i64 0, .int .i64 0, .int .i64 0, .int .i64 0, .int .i64 0] 146 (0, 0)) (by (with_reducible repeat (first | refine yab ?_ _ | refine yad ?_ | refine yac ?_ _)); exact BK101.out) hb); have n2_ := yaa (blk_below (g := gb104) (o := .cells #[.int .i64 x105000_3, .int .i64 x105001_3, .int .i64 x105002_3, .int .i64 x105003_3, .int .i64 x105004_3] 146 (0, 0)) (by (with_reducible repeat (first | refine yab ?_ _ | refine yad ?_ | refine yac ?_ _)); exact BK104.out) hb); have n3_ := yaa (IsS143.below (by repeat (first | (with_reducible first | exact HI0.out | apply yai | apply yaj | apply yan | apply yak | refine yaf ?_ NB0_101.out _ | refine yaf ?_ NB0_104.out _) | exact HI0.out)) hb); have n4_ := yaa (yau (by repeat (first | (with_reducible first | exact HK.out | apply yal | apply yaq | apply yav | apply yar | refine yam ?_ GW101.out _ | refine yam ?_ GW104.out _) | exact HK.out)) (KeepBut.of_below hb g none) (.inl rfl)); have n5_ := yaa (below_step (by repeat (first | (with_reducible first | exact HB.out | apply yas | apply yah | apply yat | refine yae ?_ (yax HI0.out) | refine yae ?_ GE101.out | refine yae ?_ GE104.out) | exact HB.out)) hb); clear BK101; clear BK104; clear HI0; clear HK; clear HB; have HO141 := n0_; have BK101 := n1_; have BK104 := n2_; have HI0 := n3_; have HK := n4_; have HB := n5_; clear n0_ n1_ n2_ n3_ n4_ n5_; clear hb ho81) | ((with_reducible refine yay (f := 116) rfl ?_); refine goesL_ (some 74) rfl rfl Try.func116 (by kernel_rfl) rfl #[.pointer (some ⟨g, 0, none⟩), .int .i64 2] rfl (by (try simp only [List.map_toArray, List.map_cons, List.map_nil]); first | done | rfl | (simp only [List.length_drop, List.length_take]; rfl)) ?_; (with_reducible refine (spec_l20Rd_pick.calls kj3 g s0_0 t126 2 t142 t143 w0 _ ?side1 ?side2 A75.out).mono ?_); (case side1 => repeat (first | (with_reducible first | exact HI0.out | apply yai | apply yaj | apply yan | apply yak | refine yaf ?_ NB0_101.out _ | refine yaf ?_ NB0_104.out _) | exact HI0.out)); (case side2 => repeat (first | (with_reducible first | exact HB.out | apply yas | apply yah | apply yat | refine yae ?_ (yax HI0.out) | refine yae ?_ GE101.out | refine yae ?_ GE104.out) | exact HB.out)); rintro e w82 ⟨rfl, hi, hb, hk⟩; refine ⟨_, rfl, ?_⟩; have n0_ := yaa (yao hk (g' := gb101) (o := .cells #[.int .i64 0, .int .i64 0, .int .i64 0, .int .i64 0, .int .i64 0] 146 (0, 0)) (by (with_reducible repeat (first | refine yab ?_ _ | refine yad ?_ | refine yac ?_ _)); exact BK101.out) NB101_0.out (by simp)); have n1_ := yaa (yao hk (g' := gb104) (o := .cells #[.int .i64 x105000_3, .int .i64 x105001_3, .int .i64 x105002_3, .int .i64 x105003_3, .int .i64 x105004_3] 146 (0, 0)) (by (with_reducible repeat (first | refine yab ?_ _ | refine yad ?_ | refine yac ?_ _)); exact BK104.out) NB104_0.out (by simp)); have n2_ := yaa (Kd.R_mono (Kd.R_keep (IsS143.apart (show IsS143 w0 _ g s0_0 t126 from by repeat (first | (with_reducible first | exact HI0.out | apply yai | apply yaj | apply yan | apply yak | refine yaf ?_ NB0_101.out _ | refine yaf ?_ NB0_104.out _) | exact HI0.out)) (by (with_reducible repeat (first | apply Kd.R_alloc | apply Kd.R_drewN | apply Kd.R_drew)); exact HO141.out) (by decide)) hk (fun _ h => h.2)) (fun _ h => h.1)); have n3_ := yaa (yau (by repeat (first | (with_reducible first | exact HK.out | apply yal | apply yaq | apply yav | apply yar | refine yam ?_ GW101.out _ | refine yam ?_ GW104.out _) | exact HK.out)) hk (.inl rfl)); have n4_ := yaa (hb); have n5_ := yaa (hi); clear BK101; clear BK104; clear HO141; clear HK; clear HB; clear HI0; have BK101 := n0_; have BK104 := n1_; have HO141 := n2_; have HK := n3_; have HB := n4_; have HI0 := n5_; clear n0_ n1_ n2_ n3_ n4_ n5_; (try clear hb); (try clear hb2); (try clear hk); (try clear hi); obtain ⟨Ao83, co83, eo83⟩ := Kd.R_slice HO141.out; subst eo83; have p144 : 0 ≤ (t142 : Int) := of_decide_eq_true (by first | (with_reducible assumption) | assumption); have q144 : t142 < (y139.length : Int) := of_decide_eq_true (by first | (with_reducible assumption) | assumption); obtain ⟨ad144, e144, hx144_0⟩ := Kd.at_int (Kd.R_reads' HO141.out).2.2 t142 p144 q144; cases e144; replace p144 := eq_true p144; replace q144 := eq_true q144; have hnb84 := NB104_101.out; have hnc84 := NB101_104.out; have hnb85 := NB104_0.out; have hnc85 := NB0_104.out; have hcz86_0 : w82.cell? ⟨gb104, 0, none⟩ = some (.int .i64 x105000_3) := (yap BK104.out 0).trans rfl; have hcz86_1 : w82.cell? ⟨gb104, 1, none⟩ = some (.int .i64 x105001_3) := (yap BK104.out 1).trans rfl; have hcz86_2 : w82.cell? ⟨gb104, 2, none⟩ = some (.int .i64 x105002_3) := (yap BK104.out 2).trans rfl; have hcz86_3 : w82.cell? ⟨gb104, 3, none⟩ = some (.int .i64 x105003_3) := (yap BK104.out 3).trans rfl; have hcz86_4 : w82.cell? ⟨gb104, 4, none⟩ = some (.int .i64 x105004_3) := (yap BK104.out 4).trans rfl; have hfz86_0 := yag BK104.out 0; have hfz86_1 := yag BK104.out 1; have hfz86_2 := yag BK104.out 2; have hfz86_3 := yag BK104.out 3; have hfz86_4 := yag BK104.out 4; have hnb87 := NB101_0.out; have hnc87 := NB0_101.out; have hcz88_0 : w82.cell? ⟨gb101, 0, none⟩ = some (.int .i64 0) := (yap BK101.out 0).trans rfl; have hcz88_1 : w82.cell? ⟨gb101, 1, none⟩ = some (.int .i64 0) := (yap BK101.out 1).trans rfl; have hcz88_2 : w82.cell? ⟨gb101, 2, none⟩ = some (.int .i64 0) := (yap BK101.out 2).trans rfl; have hcz88_3 : w82.cell? ⟨gb101, 3, none⟩ = some (.int .i64 0) := (yap BK101.out 3).trans rfl; have hcz88_4 : w82.cell? ⟨gb101, 4, none⟩ = some (.int .i64 0) := (yap BK101.out 4).trans rfl; have hfz88_0 := yag BK101.out 0; have hfz88_1 := yag BK101.out 1; have hfz88_2 := yag BK101.out 2; have hfz88_3 := yag BK101.out 3; have hfz88_4 := yag BK101.out 4))
         refine bodyPost_ret (results_cell_row rfl _ _ gb101 146 #[.int .i64 x105000_3, .int .i64 x105001_3, .int .i64 x105002_3, .int .i64 (rd y139 t142), .int .i64 x105004_3] (0, 0) _ rfl (by (with_reducible repeat (first | refine yab ?_ _ | refine yad ?_ | refine yac ?_ _)); refine yaw (cs := #[.int .i64 x105000_3, .int .i64 x105001_3, .int .i64 x105002_3, .int .i64 (rd y139 t142), .int .i64 0]) ?_ 4 _ rfl; (with_reducible repeat (first | refine yab ?_ _ | refine yad ?_ | refine yac ?_ _)); refine yaw (cs := #[.int .i64 x105000_3, .int .i64 x105001_3, .int .i64 x105002_3, .int .i64 0, .int .i64 0]) ?_ 3 _ rfl; (with_reducible repeat (first | refine yab ?_ _ | refine yad ?_ | refine yac ?_ _)); refine yaw (cs := #[.int .i64 x105000_3, .int .i64 x105001_3, .int .i64 0, .int .i64 0, .int .i64 0]) ?_ 2 _ rfl; (with_reducible repeat (first | refine yab ?_ _ | refine yad ?_ | refine yac ?_ _)); refine yaw (cs := #[.int .i64 x105000_3, .int .i64 0, .int .i64 0, .int .i64 0, .int .i64 0]) ?_ 1 _ rfl; (with_reducible repeat (first | refine yab ?_ _ | refine yad ?_ | refine yac ?_ _)); refine yaw (cs := #[.int .i64 0, .int .i64 0, .int .i64 0, .int .i64 0, .int .i64 0]) ?_ 0 _ rfl; (with_reducible repeat (first | refine yab ?_ _ | refine yad ?_ | refine yac ?_ _)); refine yaz ?_ NB101_104.out _; (with_reducible repeat (first | refine yab ?_ _ | refine yad ?_ | refine yac ?_ _)); exact BK101.out) Try.underlying146 rfl (by kernel_rfl)) rfl ?_
         exact ⟨by first | rfl | (simp [errW_none, errW_some] <;> rfl) | (simp [*, errW_none, errW_some] <;> rfl), by repeat (first | (with_reducible first | exact HI0.out | apply yai | apply yaj | apply yan | apply yak | refine yaf ?_ NB0_101.out _ | refine yaf ?_ NB0_104.out _) | exact HI0.out), by repeat (first | (with_reducible first | exact HB.out | apply yas | apply yah | apply yat | refine yae ?_ (yax HI0.out) | refine yae ?_ GE101.out | refine yae ?_ GE104.out) | exact HB.out), by repeat (first | (with_reducible first | exact HK.out | apply yal | apply yaq | apply yav | apply yar | refine yam ?_ GW101.out _ | refine yam ?_ GW104.out _) | exact HK.out)⟩
        ·
         rw [if_neg c77] at H
         exact absurd H (by simp)
       ·
        rw [if_neg c76] at H
        exact absurd H (by simp)
      ·
       rw [if_neg c74] at H
       have c74b0 : (t125 == 2) = false := beq_eq_false_iff_ne.mpr c74
       have c74b1 : (t125 != 2) = true := bne_iff_ne.mpr c74
       obtain ⟨y145, hy145⟩ : ∃ y_ : List Int, y_ = (([1, 7] : List Int)) := ⟨_, rfl⟩
       replace H : ((spec_l20Rd_pick.f kj3 s0_0 t126 2).bind fun bt148 => (if 0 ≤ bt148.1 then (if bt148.1 < (y145.length : Int) then (some (x105000_3, x105001_3, x105002_3, x105003_3, rd y145 bt148.1, bt148.2)) else (none)) else (none))) = some (r1, r2, r3, r4, r5, r6) := by first | (rw [hy145]; with_reducible exact H) | (have H2_ := (Option.bind_some _ _).symm.trans H; rw [hy145]; with_reducible exact H2_) | (have H2_ := (Option.bind_some _ _).symm.trans H; with_reducible exact H2_) | with_reducible exact H | (rw [hy145]; exact H) | exact H
       have Ny145 := yaa hy145
       clear hy145
       replace H := Option.bind_eq_some_iff.mp H
       obtain ⟨⟨t148, t149⟩, A890, H⟩ := H
       replace H : (if 0 ≤ t148 then (if t148 < (y145.length : Int) then (some (x105000_3, x105001_3, x105002_3, x105003_3, rd y145 t148, t149)) else (none)) else (none)) = some (r1, r2, r3, r4, r5, r6) := H
       have A89 := yaa A890
       clear A890
       by_cases c90 : 0 ≤ t148
       ·
        rw [if_pos c90] at H
        have c90b0 : decide (0 ≤ t148) = true := decide_eq_true c90
        clear c90
        by_cases c91 : t148 < (y145.length : Int)
        ·
         rw [if_pos c91] at H
         have c91b0 : decide (t148 < (y145.length : Int)) = true := decide_eq_true c91
         clear c91
         simp only [Option.some.injEq, Prod.mk.injEq] at H
         obtain ⟨rfl, rfl, rfl, rfl, rfl, rfl⟩ := H
         go_wp2_with (first | ((with_reducible refine yay (f := 117) rfl ?_); refine goesL_ (some 45) rfl rfl Try.func117 (by kernel_rfl) rfl #[.pointer (some ⟨g, 0, none⟩), .int .i64 a1] rfl (by (try simp only [List.map_toArray, List.map_cons, List.map_nil]); first | done | rfl | (simp only [List.length_drop, List.length_take]; rfl)) ?_; (with_reducible refine (spec_l20Rd_odd.calls kj3 g s0_0 x1001_3 a1 true t124 w0 _ ?side1 ?side2 A41.out).mono ?_); (case side1 => repeat (first | (with_reducible first | exact HI0.out | apply yai | apply yaj | apply yan | apply yak | refine yaf ?_ NB0_101.out _ | refine yaf ?_ NB0_104.out _) | exact HI0.out)); (case side2 => repeat (first | (with_reducible first | exact HB.out | apply yas | apply yah | apply yat | refine yae ?_ (yax HI0.out) | refine yae ?_ GE101.out | refine yae ?_ GE104.out) | exact HB.out)); rintro e w92 ⟨rfl, hi, hb, hk⟩; refine ⟨_, rfl, ?_⟩; have n0_ := yaa (yao hk (g' := gb101) (o := .cells #[.int .i64 0, .int .i64 0, .int .i64 0, .int .i64 0, .int .i64 0] 146 (0, 0)) (by (with_reducible repeat (first | refine yab ?_ _ | refine yad ?_ | refine yac ?_ _)); exact BK101.out) NB101_0.out (by simp)); have n1_ := yaa (yao hk (g' := gb104) (o := .cells #[.int .i64 x105000_3, .int .i64 x105001_3, .int .i64 x105002_3, .int .i64 x105003_3, .int .i64 x105004_3] 146 (0, 0)) (by (with_reducible repeat (first | refine yab ?_ _ | refine yad ?_ | refine yac ?_ _)); exact BK104.out) NB104_0.out (by simp)); have n2_ := yaa (yau (by repeat (first | (with_reducible first | exact HK.out | apply yal | apply yaq | apply yav | apply yar | refine yam ?_ GW101.out _ | refine yam ?_ GW104.out _) | exact HK.out)) hk (.inl rfl)); have n3_ := yaa (hb); have n4_ := yaa (hi); clear BK101; clear BK104; clear HK; clear HB; clear HI0; have BK101 := n0_; have BK104 := n1_; have HK := n2_; have HB := n3_; have HI0 := n4_; clear n0_ n1_ n2_ n3_ n4_; (try clear hb); (try clear hb2); (try clear hk); (try clear hi)) | ((with_reducible refine yay (f := 116) rfl ?_); refine goesL_ (some 47) rfl rfl Try.func116 (by kernel_rfl) rfl #[.pointer (some ⟨g, 0, none⟩), .int .i64 4] rfl (by (try simp only [List.map_toArray, List.map_cons, List.map_nil]); first | done | rfl | (simp only [List.length_drop, List.length_take]; rfl)) ?_; (with_reducible refine (spec_l20Rd_pick.calls kj3 g s0_0 t124 4 t125 t126 w0 _ ?side1 ?side2 A43.out).mono ?_); (case side1 => repeat (first | (with_reducible first | exact HI0.out | apply yai | apply yaj | apply yan | apply yak | refine yaf ?_ NB0_101.out _ | refine yaf ?_ NB0_104.out _) | exact HI0.out)); (case side2 => repeat (first | (with_reducible first | exact HB.out | apply yas | apply yah | apply yat | refine yae ?_ (yax HI0.out) | refine yae ?_ GE101.out | refine yae ?_ GE104.out) | exact HB.out)); rintro e w93 ⟨rfl, hi, hb, hk⟩; refine ⟨_, rfl, ?_⟩; have n0_ := yaa (yao hk (g' := gb101) (o := .cells #[.int .i64 0, .int .i64 0, .int .i64 0, .int .i64 0, .int .i64 0] 146 (0, 0)) (by (with_reducible repeat (first | refine yab ?_ _ | refine yad ?_ | refine yac ?_ _)); exact BK101.out) NB101_0.out (by simp)); have n1_ := yaa (yao hk (g' := gb104) (o := .cells #[.int .i64 x105000_3, .int .i64 x105001_3, .int .i64 x105002_3, .int .i64 x105003_3, .int .i64 x105004_3] 146 (0, 0)) (by (with_reducible repeat (first | refine yab ?_ _ | refine yad ?_ | refine yac ?_ _)); exact BK104.out) NB104_0.out (by simp)); have n2_ := yaa (yau (by repeat (first | (with_reducible first | exact HK.out | apply yal | apply yaq | apply yav | apply yar | refine yam ?_ GW101.out _ | refine yam ?_ GW104.out _) | exact HK.out)) hk (.inl rfl)); have n3_ := yaa (hb); have n4_ := yaa (hi); clear BK101; clear BK104; clear HK; clear HB; clear HI0; have BK101 := n0_; have BK104 := n1_; have HK := n2_; have HB := n3_; have HI0 := n4_; clear n0_ n1_ n2_ n3_ n4_; (try clear hb); (try clear hb2); (try clear hk); (try clear hi)) | ((with_reducible refine gate_dst (N := 48) rfl ?_); refine Kd.R_lit (Kd.int .i64) _ 3 ?hg (N := 48) ?hd (xs := ([1, 7] : List Int)) (inner := [.int .i64 1, .int .i64 7]) (ok := fun _ => True) (okp := fun _ => True) ?hr ?hp (fun _ hk => hk) trivial (Below.refl _ _) (Nat.le_refl _) (by simp) ?_; (case hd => rfl); (case hg => rfl); (case hr => first | (go_simp; done) | (go_simp; rfl)); (case hp => exact (Reps.one (show Kd.M (Kd.int .i64) _ _ _ 1 [.int .i64 1] from rfl) (Reps.one (show Kd.M (Kd.int .i64) _ _ _ 7 [.int .i64 7] from rfl) (Reps.none _ _)))); intro v146 w94 ho95 hb hg_ hnew_; clear hg_ hnew_; (first | rw [← Ny145.out] at ho95 | (simp only [Int.reduceToNat] at ho95; rw [← Ny145.out] at ho95)); have n0_ := yaa (Kd.R_lower ho95 (keep_size (w := w) (g := g) (row := none) (by repeat (first | (with_reducible first | exact HK.out | apply yal | apply yaq | apply yav | apply yar | refine yam ?_ GW101.out _ | refine yam ?_ GW104.out _) | exact HK.out)))); have n1_ := yaa (blk_below (g := gb101) (o := .cells #[.int .i64 0, .int .i64 0, .int .i64 0, .int .i64 0, .int .i64 0] 146 (0, 0)) (by (with_reducible repeat (first | refine yab ?_ _ | refine yad ?_ | refine yac ?_ _)); exact BK101.out) hb); have n2_ := yaa (blk_below (g := gb104) (o := .cells #[.int .i64 x105000_3, .int .i64 x105001_3, .int .i64 x105002_3, .int .i64 x105003_3, .int .i64 x105004_3] 146 (0, 0)) (by (with_reducible repeat (first | refine yab ?_ _ | refine yad ?_ | refine yac ?_ _)); exact BK104.out) hb); have n3_ := yaa (IsS143.below (by repeat (first | (with_reducible first | exact HI0.out | apply yai | apply yaj | apply yan | apply yak | refine yaf ?_ NB0_101.out _ | refine yaf ?_ NB0_104.out _) | exact HI0.out)) hb); have n4_ := yaa (yau (by repeat (first | (with_reducible first | exact HK.out | apply yal | apply yaq | apply yav | apply yar | refine yam ?_ GW101.out _ | refine yam ?_ GW104.out _) | exact HK.out)) (KeepBut.of_below hb g none) (.inl rfl)); have n5_ := yaa (below_step (by repeat (first | (with_reducible first | exact HB.out | apply yas | apply yah | apply yat | refine yae ?_ (yax HI0.out) | refine yae ?_ GE101.out | refine yae ?_ GE104.out) | exact HB.out)) hb); clear BK101; clear BK104; clear HI0; clear HK; clear HB; have HO147 := n0_; have BK101 := n1_; have BK104 := n2_; have HI0 := n3_; have HK := n4_; have HB := n5_; clear n0_ n1_ n2_ n3_ n4_ n5_; clear hb ho95) | ((with_reducible refine yay (f := 116) rfl ?_); refine goesL_ (some 50) rfl rfl Try.func116 (by kernel_rfl) rfl #[.pointer (some ⟨g, 0, none⟩), .int .i64 2] rfl (by (try simp only [List.map_toArray, List.map_cons, List.map_nil]); first | done | rfl | (simp only [List.length_drop, List.length_take]; rfl)) ?_; (with_reducible refine (spec_l20Rd_pick.calls kj3 g s0_0 t126 2 t148 t149 w0 _ ?side1 ?side2 A89.out).mono ?_); (case side1 => repeat (first | (with_reducible first | exact HI0.out | apply yai | apply yaj | apply yan | apply yak | refine yaf ?_ NB0_101.out _ | refine yaf ?_ NB0_104.out _) | exact HI0.out)); (case side2 => repeat (first | (with_reducible first | exact HB.out | apply yas | apply yah | apply yat | refine yae ?_ (yax HI0.out) | refine yae ?_ GE101.out | refine yae ?_ GE104.out) | exact HB.out)); rintro e w96 ⟨rfl, hi, hb, hk⟩; refine ⟨_, rfl, ?_⟩; have n0_ := yaa (yao hk (g' := gb101) (o := .cells #[.int .i64 0, .int .i64 0, .int .i64 0, .int .i64 0, .int .i64 0] 146 (0, 0)) (by (with_reducible repeat (first | refine yab ?_ _ | refine yad ?_ | refine yac ?_ _)); exact BK101.out) NB101_0.out (by simp)); have n1_ := yaa (yao hk (g' := gb104) (o := .cells #[.int .i64 x105000_3, .int .i64 x105001_3, .int .i64 x105002_3, .int .i64 x105003_3, .int .i64 x105004_3] 146 (0, 0)) (by (with_reducible repeat (first | refine yab ?_ _ | refine yad ?_ | refine yac ?_ _)); exact BK104.out) NB104_0.out (by simp)); have n2_ := yaa (Kd.R_mono (Kd.R_keep (IsS143.apart (show IsS143 w0 _ g s0_0 t126 from by repeat (first | (with_reducible first | exact HI0.out | apply yai | apply yaj | apply yan | apply yak | refine yaf ?_ NB0_101.out _ | refine yaf ?_ NB0_104.out _) | exact HI0.out)) (by (with_reducible repeat (first | apply Kd.R_alloc | apply Kd.R_drewN | apply Kd.R_drew)); exact HO147.out) (by decide)) hk (fun _ h => h.2)) (fun _ h => h.1)); have n3_ := yaa (yau (by repeat (first | (with_reducible first | exact HK.out | apply yal | apply yaq | apply yav | apply yar | refine yam ?_ GW101.out _ | refine yam ?_ GW104.out _) | exact HK.out)) hk (.inl rfl)); have n4_ := yaa (hb); have n5_ := yaa (hi); clear BK101; clear BK104; clear HO147; clear HK; clear HB; clear HI0; have BK101 := n0_; have BK104 := n1_; have HO147 := n2_; have HK := n3_; have HB := n4_; have HI0 := n5_; clear n0_ n1_ n2_ n3_ n4_ n5_; (try clear hb); (try clear hb2); (try clear hk); (try clear hi); obtain ⟨Ao97, co97, eo97⟩ := Kd.R_slice HO147.out; subst eo97; have p150 : 0 ≤ (t148 : Int) := of_decide_eq_true (by first | (with_reducible assumption) | assumption); have q150 : t148 < (y145.length : Int) := of_decide_eq_true (by first | (with_reducible assumption) | assumption); obtain ⟨ad150, e150, hx150_0⟩ := Kd.at_int (Kd.R_reads' HO147.out).2.2 t148 p150 q150; cases e150; replace p150 := eq_true p150; replace q150 := eq_true q150; have hnb98 := NB104_101.out; have hnc98 := NB101_104.out; have hnb99 := NB104_0.out; have hnc99 := NB0_104.out; have hcz100_0 : w96.cell? ⟨gb104, 0, none⟩ = some (.int .i64 x105000_3) := (yap BK104.out 0).trans rfl; have hcz100_1 : w96.cell? ⟨gb104, 1, none⟩ = some (.int .i64 x105001_3) := (yap BK104.out 1).trans rfl; have hcz100_2 : w96.cell? ⟨gb104, 2, none⟩ = some (.int .i64 x105002_3) := (yap BK104.out 2).trans rfl; have hcz100_3 : w96.cell? ⟨gb104, 3, none⟩ = some (.int .i64 x105003_3) := (yap BK104.out 3).trans rfl; have hcz100_4 : w96.cell? ⟨gb104, 4, none⟩ = some (.int .i64 x105004_3) := (yap BK104.out 4).trans rfl; have hfz100_0 := yag BK104.out 0; have hfz100_1 := yag BK104.out 1; have hfz100_2 := yag BK104.out 2; have hfz100_3 := yag BK104.out 3; have hfz100_4 := yag BK104.out 4; have hnb101 := NB101_0.out; have hnc101 := NB0_101.out; have hcz102_0 : w96.cell? ⟨gb101, 0, none⟩ = some (.int .i64 0) := (yap BK101.out 0).trans rfl; have hcz102_1 : w96.cell? ⟨gb101, 1, none⟩ = some (.int .i64 0) := (yap BK101.out 1).trans rfl; have hcz102_2 : w96.cell? ⟨gb101, 2, none⟩ = some (.int .i64 0) := (yap BK101.out 2).trans rfl; have hcz102_3 : w96.cell? ⟨gb101, 3, none⟩ = some (.int .i64 0) := (yap BK101.out 3).trans rfl; have hcz102_4 : w96.cell? ⟨gb101, 4, none⟩ = some (.int .i64 0) := (yap BK101.out 4).trans rfl; have hfz102_0 := yag BK101.out 0; have hfz102_1 := yag BK101.out 1; have hfz102_2 := yag BK101.out 2; have hfz102_3 := yag BK101.out 3; have hfz102_4 := yag BK101.out 4))
         refine bodyPost_ret (results_cell_row rfl _ _ gb101 146 #[.int .i64 x105000_3, .int .i64 x105001_3, .int .i64 x105002_3, .int .i64 x105003_3, .int .i64 (rd y145 t148)] (0, 0) _ rfl (by (with_reducible repeat (first | refine yab ?_ _ | refine yad ?_ | refine yac ?_ _)); refine yaw (cs := #[.int .i64 x105000_3, .int .i64 x105001_3, .int .i64 x105002_3, .int .i64 x105003_3, .int .i64 0]) ?_ 4 _ rfl; (with_reducible repeat (first | refine yab ?_ _ | refine yad ?_ | refine yac ?_ _)); refine yaw (cs := #[.int .i64 x105000_3, .int .i64 x105001_3, .int .i64 x105002_3, .int .i64 0, .int .i64 0]) ?_ 3 _ rfl; (with_reducible repeat (first | refine yab ?_ _ | refine yad ?_ | refine yac ?_ _)); refine yaw (cs := #[.int .i64 x105000_3, .int .i64 x105001_3, .int .i64 0, .int .i64 0, .int .i64 0]) ?_ 2 _ rfl; (with_reducible repeat (first | refine yab ?_ _ | refine yad ?_ | refine yac ?_ _)); refine yaw (cs := #[.int .i64 x105000_3, .int .i64 0, .int .i64 0, .int .i64 0, .int .i64 0]) ?_ 1 _ rfl; (with_reducible repeat (first | refine yab ?_ _ | refine yad ?_ | refine yac ?_ _)); refine yaw (cs := #[.int .i64 0, .int .i64 0, .int .i64 0, .int .i64 0, .int .i64 0]) ?_ 0 _ rfl; (with_reducible repeat (first | refine yab ?_ _ | refine yad ?_ | refine yac ?_ _)); refine yaz ?_ NB101_104.out _; (with_reducible repeat (first | refine yab ?_ _ | refine yad ?_ | refine yac ?_ _)); exact BK101.out) Try.underlying146 rfl (by kernel_rfl)) rfl ?_
         exact ⟨by first | rfl | (simp [errW_none, errW_some] <;> rfl) | (simp [*, errW_none, errW_some] <;> rfl), by repeat (first | (with_reducible first | exact HI0.out | apply yai | apply yaj | apply yan | apply yak | refine yaf ?_ NB0_101.out _ | refine yaf ?_ NB0_104.out _) | exact HI0.out), by repeat (first | (with_reducible first | exact HB.out | apply yas | apply yah | apply yat | refine yae ?_ (yax HI0.out) | refine yae ?_ GE101.out | refine yae ?_ GE104.out) | exact HB.out), by repeat (first | (with_reducible first | exact HK.out | apply yal | apply yaq | apply yav | apply yar | refine yam ?_ GW101.out _ | refine yam ?_ GW104.out _) | exact HK.out)⟩
        ·
         rw [if_neg c91] at H
         exact absurd H (by simp)
       ·
        rw [if_neg c90] at H
        exact absurd H (by simp)
   ·
    replace c42 := Bool.eq_false_iff.mpr c42
    subst c42
    have H1 : (some (x105000_3, x105001_3, x105002_3, x105003_3, x105004_3, t124)) = some (r1, r2, r3, r4, r5, r6) := by rw [if_neg (show ¬ (false = true) by decide)] at H; exact H
    clear H
    have H := H1
    clear H1
    simp only [Option.some.injEq, Prod.mk.injEq] at H
    obtain ⟨rfl, rfl, rfl, rfl, rfl, rfl⟩ := H
    go_wp2_with (first | ((with_reducible refine yay (f := 117) rfl ?_); refine goesL_ (some 45) rfl rfl Try.func117 (by kernel_rfl) rfl #[.pointer (some ⟨g, 0, none⟩), .int .i64 a1] rfl (by (try simp only [List.map_toArray, List.map_cons, List.map_nil]); first | done | rfl | (simp only [List.length_drop, List.length_take]; rfl)) ?_; (with_reducible refine (spec_l20Rd_odd.calls kj3 g s0_0 x1001_3 a1 false t124 w0 _ ?side1 ?side2 A41.out).mono ?_); (case side1 => repeat (first | (with_reducible first | exact HI0.out | apply yai | apply yaj | apply yan | apply yak | refine yaf ?_ NB0_101.out _ | refine yaf ?_ NB0_104.out _) | exact HI0.out)); (case side2 => repeat (first | (with_reducible first | exact HB.out | apply yas | apply yah | apply yat | refine yae ?_ (yax HI0.out) | refine yae ?_ GE101.out | refine yae ?_ GE104.out) | exact HB.out)); rintro e w103 ⟨rfl, hi, hb, hk⟩; refine ⟨_, rfl, ?_⟩; have n0_ := yaa (yao hk (g' := gb101) (o := .cells #[.int .i64 0, .int .i64 0, .int .i64 0, .int .i64 0, .int .i64 0] 146 (0, 0)) (by (with_reducible repeat (first | refine yab ?_ _ | refine yad ?_ | refine yac ?_ _)); exact BK101.out) NB101_0.out (by simp)); have n1_ := yaa (yao hk (g' := gb104) (o := .cells #[.int .i64 x105000_3, .int .i64 x105001_3, .int .i64 x105002_3, .int .i64 x105003_3, .int .i64 x105004_3] 146 (0, 0)) (by (with_reducible repeat (first | refine yab ?_ _ | refine yad ?_ | refine yac ?_ _)); exact BK104.out) NB104_0.out (by simp)); have n2_ := yaa (yau (by repeat (first | (with_reducible first | exact HK.out | apply yal | apply yaq | apply yav | apply yar | refine yam ?_ GW101.out _ | refine yam ?_ GW104.out _) | exact HK.out)) hk (.inl rfl)); have n3_ := yaa (hb); have n4_ := yaa (hi); clear BK101; clear BK104; clear HK; clear HB; clear HI0; have BK101 := n0_; have BK104 := n1_; have HK := n2_; have HB := n3_; have HI0 := n4_; clear n0_ n1_ n2_ n3_ n4_; (try clear hb); (try clear hb2); (try clear hk); (try clear hi); have hnb104 := NB104_101.out; have hnc104 := NB101_104.out; have hnb105 := NB104_0.out; have hnc105 := NB0_104.out; have hcz106_0 : w103.cell? ⟨gb104, 0, none⟩ = some (.int .i64 x105000_3) := (yap BK104.out 0).trans rfl; have hcz106_1 : w103.cell? ⟨gb104, 1, none⟩ = some (.int .i64 x105001_3) := (yap BK104.out 1).trans rfl; have hcz106_2 : w103.cell? ⟨gb104, 2, none⟩ = some (.int .i64 x105002_3) := (yap BK104.out 2).trans rfl; have hcz106_3 : w103.cell? ⟨gb104, 3, none⟩ = some (.int .i64 x105003_3) := (yap BK104.out 3).trans rfl; have hcz106_4 : w103.cell? ⟨gb104, 4, none⟩ = some (.int .i64 x105004_3) := (yap BK104.out 4).trans rfl; have hfz106_0 := yag BK104.out 0; have hfz106_1 := yag BK104.out 1; have hfz106_2 := yag BK104.out 2; have hfz106_3 := yag BK104.out 3; have hfz106_4 := yag BK104.out 4; have hnb107 := NB101_0.out; have hnc107 := NB0_101.out; have hcz108_0 : w103.cell? ⟨gb101, 0, none⟩ = some (.int .i64 0) := (yap BK101.out 0).trans rfl; have hcz108_1 : w103.cell? ⟨gb101, 1, none⟩ = some (.int .i64 0) := (yap BK101.out 1).trans rfl; have hcz108_2 : w103.cell? ⟨gb101, 2, none⟩ = some (.int .i64 0) := (yap BK101.out 2).trans rfl; have hcz108_3 : w103.cell? ⟨gb101, 3, none⟩ = some (.int .i64 0) := (yap BK101.out 3).trans rfl; have hcz108_4 : w103.cell? ⟨gb101, 4, none⟩ = some (.int .i64 0) := (yap BK101.out 4).trans rfl; have hfz108_0 := yag BK101.out 0; have hfz108_1 := yag BK101.out 1; have hfz108_2 := yag BK101.out 2; have hfz108_3 := yag BK101.out 3; have hfz108_4 := yag BK101.out 4))
    refine bodyPost_ret (results_cell_row rfl _ _ gb101 146 #[.int .i64 x105000_3, .int .i64 x105001_3, .int .i64 x105002_3, .int .i64 x105003_3, .int .i64 x105004_3] (0, 0) _ rfl (by (with_reducible repeat (first | refine yab ?_ _ | refine yad ?_ | refine yac ?_ _)); refine yaw (cs := #[.int .i64 x105000_3, .int .i64 x105001_3, .int .i64 x105002_3, .int .i64 x105003_3, .int .i64 0]) ?_ 4 _ rfl; (with_reducible repeat (first | refine yab ?_ _ | refine yad ?_ | refine yac ?_ _)); refine yaw (cs := #[.int .i64 x105000_3, .int .i64 x105001_3, .int .i64 x105002_3, .int .i64 0, .int .i64 0]) ?_ 3 _ rfl; (with_reducible repeat (first | refine yab ?_ _ | refine yad ?_ | refine yac ?_ _)); refine yaw (cs := #[.int .i64 x105000_3, .int .i64 x105001_3, .int .i64 0, .int .i64 0, .int .i64 0]) ?_ 2 _ rfl; (with_reducible repeat (first | refine yab ?_ _ | refine yad ?_ | refine yac ?_ _)); refine yaw (cs := #[.int .i64 x105000_3, .int .i64 0, .int .i64 0, .int .i64 0, .int .i64 0]) ?_ 1 _ rfl; (with_reducible repeat (first | refine yab ?_ _ | refine yad ?_ | refine yac ?_ _)); refine yaw (cs := #[.int .i64 0, .int .i64 0, .int .i64 0, .int .i64 0, .int .i64 0]) ?_ 0 _ rfl; (with_reducible repeat (first | refine yab ?_ _ | refine yad ?_ | refine yac ?_ _)); exact BK101.out) Try.underlying146 rfl (by kernel_rfl)) rfl ?_
    exact ⟨by first | rfl | (simp [errW_none, errW_some] <;> rfl) | (simp [*, errW_none, errW_some] <;> rfl), by repeat (first | (with_reducible first | exact HI0.out | apply yai | apply yaj | apply yan | apply yak | refine yaf ?_ NB0_101.out _ | refine yaf ?_ NB0_104.out _) | exact HI0.out), by repeat (first | (with_reducible first | exact HB.out | apply yas | apply yah | apply yat | refine yae ?_ (yax HI0.out) | refine yae ?_ GE101.out | refine yae ?_ GE104.out) | exact HB.out), by repeat (first | (with_reducible first | exact HK.out | apply yal | apply yaq | apply yav | apply yar | refine yam ?_ GW101.out _ | refine yam ?_ GW104.out _) | exact HK.out)⟩

end Go.Proofs.Ytgpkkkmapgnhkaa.X

namespace Go.Proofs.Ytgpkkkmapgnhkaa.X
open Go.RowKit Go.Proofs.YtgpkkkmapgnhkaaW.PrintWords Go.Proofs.YtgpkkkmapgnhkaaW.PrintLast Go.Proofs.YtgpkkkmapgnhkaaW.PrintMore
attribute [local go_sem] max2_int min2_int max_two min_two max_three min_three max_four min_four   -- for this text's walks alone
set_option linter.unusedVariables false
set_option linter.unusedSimpArgs false

/-! ### spec_l20Ops: function 123 -/
mutual
def spec_l20Ops.l0 : Nat → Int → List (S146) → Int → List Int → Int → Option ((List (S146)) × Int)
  | 0, _, _, _, _, _ => none
  | k + 1, x1, x5, x6, x1000, x1001 => if x6 > 0 then ((spec_l20Op.f k x1000 x1001 0).bind fun bt106 => (if x5.length < 3518437208883 then (spec_l20Ops.l0 k x1 (x5 ++ [(⟨bt106.1, bt106.2.1, bt106.2.2.1, bt106.2.2.2.1, bt106.2.2.2.2.1⟩ : S146)]) (wrap64 (x6 - 1)) x1000 bt106.2.2.2.2.2) else (none))) else ((spec_l20Rd_odd.f k x1000 x1001 x1).bind fun bt115 => (if bt115.1 = true then ((spec_l20Op.f k x1000 bt115.2 1).bind fun bt117 => (if x5.length < 3518437208883 then (spec_l20Ops.j1 k x1 (x5 ++ [(⟨bt117.1, bt117.2.1, bt117.2.2.1, bt117.2.2.2.1, bt117.2.2.2.2.1⟩ : S146)]) x1000 bt117.2.2.2.2.2) else (none))) else (spec_l20Ops.j1 k x1 x5 x1000 bt115.2)))
def spec_l20Ops.j1 : Nat → Int → List (S146) → List Int → Int → Option ((List (S146)) × Int)
  | 0, _, _, _, _ => none
  | k + 1, x1, x5, x1000, x1001 => (spec_l20Rd_odd.f k x1000 x1001 x1).bind fun bt126 => (if bt126.1 = true then (spec_l20Ops.l1 k x5 x1000 bt126.2) else (some (x5, bt126.2)))
def spec_l20Ops.l1 : Nat → List (S146) → List Int → Int → Option ((List (S146)) × Int)
  | 0, _, _, _ => none
  | k + 1, x5, x1000, x1001 => if (x5.length : Int) ≤ 5 then (if x5.length < 3518437208883 then (spec_l20Ops.l1 k (x5 ++ [(⟨4, 0, 0, 0, 0⟩ : S146)]) x1000 x1001) else (none)) else (some (x5, x1001))
end
def spec_l20Ops.f (k : Nat) (s0_0 : List Int) (s0_1 : Int) (a1 : Int) : Option ((List (S146)) × Int) := (spec_l20Rd_pick.f k s0_0 s0_1 6).bind fun bt104 => (spec_l20Ops.l0 k a1 (([] : List (S146))) bt104.1 s0_0 bt104.2)
theorem spec_l20Ops.mono_l : ∀ k, (∀ y0 y1 y2 y3 y4, LeO (spec_l20Ops.l0 k y0 y1 y2 y3 y4) (spec_l20Ops.l0 (k + 1) y0 y1 y2 y3 y4)) ∧ (∀ y0 y1 y2 y3, LeO (spec_l20Ops.j1 k y0 y1 y2 y3) (spec_l20Ops.j1 (k + 1) y0 y1 y2 y3)) ∧ (∀ y0 y1 y2, LeO (spec_l20Ops.l1 k y0 y1 y2) (spec_l20Ops.l1 (k + 1) y0 y1 y2))
  | 0 => ⟨fun _ _ _ _ _ r h => by simp [spec_l20Ops.l0] at h, fun _ _ _ _ r h => by simp [spec_l20Ops.j1] at h, fun _ _ _ r h => by simp [spec_l20Ops.l1] at h⟩
  | k + 1 => by
    obtain ⟨ih0, ih1, ih2⟩ := spec_l20Ops.mono_l k
    refine ⟨?_, ?_, ?_⟩
    · intro y0 y1 y2 y3 y4
      unfold spec_l20Ops.l0
      repeat' first
      | (with_reducible exact ih0 _ _ _ _ _)
      | (with_reducible exact ih1 _ _ _ _)
      | (with_reducible exact ih2 _ _ _)
      | (with_reducible exact spec_l20Op.mono _ _ _ _)
      | (with_reducible exact spec_l20Rd_odd.mono _ _ _ _)
      | (with_reducible exact spec_l20Rd_pick.mono _ _ _ _)
      | (with_reducible exact LeO.refl _)
      | (with_reducible exact LeO.none _)
      | (with_reducible refine LeO.ite ?_ ?_)
      | (with_reducible refine LeO.bind ?_ (fun _ => ?_))
      | exact ih0 _ _ _ _ _
      | exact ih1 _ _ _ _
      | exact ih2 _ _ _
      | exact spec_l20Op.mono _ _ _ _
      | exact spec_l20Rd_odd.mono _ _ _ _
      | exact spec_l20Rd_pick.mono _ _ _ _
      | exact LeO.none _
      | refine LeO.ite ?_ ?_
      | refine LeO.bind ?_ (fun _ => ?_)
    · intro y0 y1 y2 y3
      unfold spec_l20Ops.j1
      repeat' first
      | (with_reducible exact ih0 _ _ _ _ _)
      | (with_reducible exact ih1 _ _ _ _)
      | (with_reducible exact ih2 _ _ _)
      | (with_reducible exact spec_l20Op.mono _ _ _ _)
      | (with_reducible exact spec_l20Rd_odd.mono _ _ _ _)
      | (with_reducible exact spec_l20Rd_pick.mono _ _ _ _)
      | (with_reducible exact LeO.refl _)
      | (with_reducible exact LeO.none _)
      | (with_reducible refine LeO.ite ?_ ?_)
      | (with_reducible refine LeO.bind ?_ (fun _ => ?_))
      | exact ih0 _ _ _ _ _
      | exact ih1 _ _ _ _
      | exact ih2 _ _ _
      | exact spec_l20Op.mono _ _ _ _
      | exact spec_l20Rd_odd.mono _ _ _ _
      | exact spec_l20Rd_pick.mono _ _ _ _
      | exact LeO.none _
      | refine LeO.ite ?_ ?_
      | refine LeO.bind ?_ (fun _ => ?_)
    · intro y0 y1 y2
      unfold spec_l20Ops.l1
      repeat' first
      | (with_reducible exact ih0 _ _ _ _ _)
      | (with_reducible exact ih1 _ _ _ _)
      | (with_reducible exact ih2 _ _ _)
      | (with_reducible exact spec_l20Op.mono _ _ _ _)
      | (with_reducible exact spec_l20Rd_odd.mono _ _ _ _)
      | (with_reducible exact spec_l20Rd_pick.mono _ _ _ _)
      | (with_reducible exact LeO.refl _)
      | (with_reducible exact LeO.none _)
      | (with_reducible refine LeO.ite ?_ ?_)
      | (with_reducible refine LeO.bind ?_ (fun _ => ?_))
      | exact ih0 _ _ _ _ _
      | exact ih1 _ _ _ _
      | exact ih2 _ _ _
      | exact spec_l20Op.mono _ _ _ _
      | exact spec_l20Rd_odd.mono _ _ _ _
      | exact spec_l20Rd_pick.mono _ _ _ _
      | exact LeO.none _
      | refine LeO.ite ?_ ?_
      | refine LeO.bind ?_ (fun _ => ?_)
theorem spec_l20Ops.mono : ∀ a0 a1 a2 k, LeO (spec_l20Ops.f k a0 a1 a2) (spec_l20Ops.f (k + 1) a0 a1 a2) := by
  intro a0 a1 a2 k
  obtain ⟨ih0, ih1, ih2⟩ := spec_l20Ops.mono_l k
  unfold spec_l20Ops.f
  repeat' first
      | (with_reducible exact ih0 _ _ _ _ _)
      | (with_reducible exact ih1 _ _ _ _)
      | (with_reducible exact ih2 _ _ _)
      | (with_reducible exact spec_l20Op.mono _ _ _ _)
      | (with_reducible exact spec_l20Rd_odd.mono _ _ _ _)
      | (with_reducible exact spec_l20Rd_pick.mono _ _ _ _)
      | (with_reducible exact LeO.refl _)
      | (with_reducible exact LeO.none _)
      | (with_reducible refine LeO.ite ?_ ?_)
      | (with_reducible refine LeO.bind ?_ (fun _ => ?_))
      | exact ih0 _ _ _ _ _
      | exact ih1 _ _ _ _
      | exact ih2 _ _ _
      | exact spec_l20Op.mono _ _ _ _
      | exact spec_l20Rd_odd.mono _ _ _ _
      | exact spec_l20Rd_pick.mono _ _ _ _
      | exact LeO.none _
      | refine LeO.ite ?_ ?_
      | refine LeO.bind ?_ (fun _ => ?_)
set_option maxHeartbeats 8000000 in
set_option maxRecDepth 100000 in
theorem spec_l20Ops.calls (k : Nat) (g : Nat) (s0_0 : List Int) (s0_1 : Int) (a1 : Int) (r1 : List (S146)) (r2 : Int) (w0 w : World) (hI : IsS143 w0 w g s0_0 s0_1) (hB : Below w0.heap.size w0 w) (h : spec_l20Ops.f k s0_0 s0_1 a1 = some (r1, r2)) :
    Calls Try.prog 123 #[.pointer (some ⟨g, 0, none⟩), .int .i64 a1] w fun e w' => ∃ v0_ : Value, e = .returned (v0_) ∧ Kd.R k146 146 w' w.heap.size (fun _ => True) v0_ r1 ∧ IsS143 w0 w' g s0_0 r2 ∧ Below w0.heap.size w0 w' ∧ KeepBut w w' g none := by
  have hu146 := Try.underlying146
  have HI0 := Aside0.mk hI
  have HK := Aside0.mk (KeepBut.refl w g none)
  have HL := Aside0.mk hB.size
  clear hI
  have HW0 := Aside0.mk hB.size
  have HB := Aside0.mk hB
  clear hB
  have H : ((spec_l20Rd_pick.f k s0_0 s0_1 6).bind fun bt104 => (spec_l20Ops.l0 k a1 (([] : List (S146))) bt104.1 s0_0 bt104.2)) = some (r1, r2) := h
  clear h
  obtain ⟨y101, hy101⟩ : ∃ y_ : List (S146), y_ = (([] : List (S146))) := ⟨_, rfl⟩
  replace H : ((spec_l20Rd_pick.f k s0_0 s0_1 6).bind fun bt104 => (spec_l20Ops.l0 k a1 y101 bt104.1 s0_0 bt104.2)) = some (r1, r2) := by first | (rw [hy101]; with_reducible exact H) | (have H2_ := (Option.bind_some _ _).symm.trans H; rw [hy101]; with_reducible exact H2_) | (have H2_ := (Option.bind_some _ _).symm.trans H; with_reducible exact H2_) | with_reducible exact H | (rw [hy101]; exact H) | exact H
  have Ny101 := Aside0.mk hy101
  clear hy101
  replace H := Option.bind_eq_some_iff.mp H
  obtain ⟨⟨t104, t105⟩, A30, H⟩ := H
  replace H : (spec_l20Ops.l0 k a1 y101 t104 s0_0 t105) = some (r1, r2) := H
  have A3 := Aside0.mk A30
  clear A30
  have H' := Aside0.mk H
  clear H
  go_enter Try.func123, Try.ntmps123
  go_wp2_with (first | ((with_reducible refine gate_dst (N := 7) rfl ?_); refine Kd.R_lit k146 _ 146 ?hg (N := 7) ?hd (xs := ([] : List (S146))) (inner := []) (ok := fun _ => True) (okp := fun _ => True) ?hr ?hp (fun _ hk => hk) trivial (Below.refl _ _) (Nat.le_refl _) (by simp) ?_; (case hd => rfl); (case hg => rfl); (case hr => first | (go_simp; done) | (go_simp; rfl)); (case hp => exact (Reps.none _ _)); intro v102 w4 ho5 hb hg_ hnew_; clear hg_ hnew_; (first | rw [← Ny101.out] at ho5 | (simp only [Int.reduceToNat] at ho5; rw [← Ny101.out] at ho5)); have n0_ := Aside0.mk (Kd.R_lower ho5 (keep_size (w := w) (g := g) (row := none) (by repeat (first | (with_reducible first | exact HK.out | apply KeepBut.set_ | apply keep_drewN | apply keep_drew | apply keep_alloc) | exact HK.out)))); have n1_ := Aside0.mk (IsS143.below (by repeat (first | (with_reducible first | exact HI0.out | apply IsS143.alloc | apply IsS143.drewN | apply IsS143.drew | apply IsS143.set_1) | exact HI0.out)) hb); have n2_ := Aside0.mk (KeepBut.trans (by repeat (first | (with_reducible first | exact HK.out | apply KeepBut.set_ | apply keep_drewN | apply keep_drew | apply keep_alloc) | exact HK.out)) (KeepBut.of_below hb g none) (.inl rfl)); have n3_ := Aside0.mk (below_step (by repeat (first | (with_reducible first | exact HB.out | apply below_alloc | apply pw_below_drewN | apply below_drew1 | refine below_set ?_ (IsS143.ge HI0.out)) | exact HB.out)) hb); clear HI0; clear HK; clear HB; have HO103 := n0_; have HI0 := n1_; have HK := n2_; have HB := n3_; clear n0_ n1_ n2_ n3_; clear hb ho5) | ((with_reducible refine gate_callee (f := 116) rfl ?_); refine goesL_ (some 9) rfl rfl Try.func116 (by kernel_rfl) rfl #[.pointer (some ⟨g, 0, none⟩), .int .i64 6] rfl (by (try simp only [List.map_toArray, List.map_cons, List.map_nil]); first | done | rfl | (simp only [List.length_drop, List.length_take]; rfl)) ?_; (with_reducible refine (spec_l20Rd_pick.calls k g s0_0 s0_1 6 t104 t105 w0 _ ?side1 ?side2 A3.out).mono ?_); (case side1 => repeat (first | (with_reducible first | exact HI0.out | apply IsS143.alloc | apply IsS143.drewN | apply IsS143.drew | apply IsS143.set_1) | exact HI0.out)); (case side2 => repeat (first | (with_reducible first | exact HB.out | apply below_alloc | apply pw_below_drewN | apply below_drew1 | refine below_set ?_ (IsS143.ge HI0.out)) | exact HB.out)); rintro e w6 ⟨rfl, hi, hb, hk⟩; refine ⟨_, rfl, ?_⟩; have n0_ := Aside0.mk (Kd.R_mono (Kd.R_keep (IsS143.apart (show IsS143 w0 _ g s0_0 s0_1 from by repeat (first | (with_reducible first | exact HI0.out | apply IsS143.alloc | apply IsS143.drewN | apply IsS143.drew | apply IsS143.set_1) | exact HI0.out)) (by (with_reducible repeat (first | apply Kd.R_alloc | apply Kd.R_drewN | apply Kd.R_drew)); exact HO103.out) (by decide)) hk (fun _ h => h.2)) (fun _ h => h.1)); have n1_ := Aside0.mk (KeepBut.trans (by repeat (first | (with_reducible first | exact HK.out | apply KeepBut.set_ | apply keep_drewN | apply keep_drew | apply keep_alloc) | exact HK.out)) hk (.inl rfl)); have n2_ := Aside0.mk (hb); have n3_ := Aside0.mk (hi); clear HO103; clear HK; clear HB; clear HI0; have HO103 := n0_; have HK := n1_; have HB := n2_; have HI0 := n3_; clear n0_ n1_ n2_ n3_; (try clear hb); (try clear hb2); (try clear hk); (try clear hi)))
  (try simp only [Act.put, List.setIfInBounds_toArray, List.set_cons_zero, List.set_cons_succ])
  go_loopg [5, 6] k (fun kq v5 v6 w' => ∃ (x5_1 : List (S146)) (x6_1 : Int) (x1001_1 : Int), v6 = .int .i64 x6_1 ∧ Aside0 (spec_l20Ops.l0 kq a1 x5_1 x6_1 s0_0 x1001_1 = some (r1, r2)) ∧ Aside0 (kq ≤ k) ∧ Aside0 (Kd.R k146 146 w' w.heap.size (fun _ => True) v5 x5_1) ∧ Aside0 (IsS143 w0 w' g s0_0 x1001_1) ∧ Aside0 (KeepBut w w' g none) ∧ Aside0 (Below w0.heap.size w0 w'))
  case atStart => exact ⟨(y101), (t104), (t105), (by first | rfl | (simp; done) | (simp [*]; done)), H', ⟨Nat.le_refl _⟩, ⟨by (with_reducible repeat (first | apply Kd.R_alloc | apply Kd.R_drewN | apply Kd.R_drew)); exact HO103.out⟩, ⟨by repeat (first | (with_reducible first | exact HI0.out | apply IsS143.alloc | apply IsS143.drewN | apply IsS143.drew | apply IsS143.set_1) | exact HI0.out)⟩, ⟨by repeat (first | (with_reducible first | exact HK.out | apply KeepBut.set_ | apply keep_drewN | apply keep_drew | apply keep_alloc) | exact HK.out)⟩, ⟨by repeat (first | (with_reducible first | exact HB.out | apply below_alloc | apply pw_below_drewN | apply below_drew1 | refine below_set ?_ (IsS143.ge HI0.out)) | exact HB.out)⟩⟩
  case round =>
    clear H'
    try clear c1
    try clear p2
    obtain ⟨x5_1, x6_1, x1001_1, rfl, HA, HK1, HO_5, HI0, HK, HB⟩ := hrel
    cases gk with
    | zero => exact absurd HA.out (by simp [spec_l20Ops.l0])
    | succ k1 =>
      have H := HA.out
      clear HA
      simp only [spec_l20Ops.l0] at H
      by_cases c7 : x6_1 > 0
      · rw [if_pos c7] at H
        have c7b0 : decide (0 < x6_1) = true := decide_eq_true c7
        clear c7
        replace H := Option.bind_eq_some_iff.mp H
        obtain ⟨⟨t106, t107, t108, t109, t110, t111⟩, A80, H⟩ := H
        replace H : (if x5_1.length < 3518437208883 then (spec_l20Ops.l0 k1 a1 (x5_1 ++ [(⟨t106, t107, t108, t109, t110⟩ : S146)]) (wrap64 (x6_1 - 1)) s0_0 t111) else (none)) = some (r1, r2) := H
        have A8 := Aside0.mk A80
        clear A80
        by_cases c9 : x5_1.length < 3518437208883
        · rw [if_pos c9] at H
          have LMc9 := Aside0.mk c9
          clear c9
          obtain ⟨y112, hy112⟩ : ∃ y_ : List (S146), y_ = (x5_1 ++ [(⟨t106, t107, t108, t109, t110⟩ : S146)]) := ⟨_, rfl⟩
          replace H : (spec_l20Ops.l0 k1 a1 y112 (wrap64 (x6_1 - 1)) s0_0 t111) = some (r1, r2) := by first | (rw [hy112]; with_reducible exact H) | (have H2_ := (Option.bind_some _ _).symm.trans H; rw [hy112]; with_reducible exact H2_) | (have H2_ := (Option.bind_some _ _).symm.trans H; with_reducible exact H2_) | with_reducible exact H | (rw [hy112]; exact H) | exact H
          have Ny112 := Aside0.mk hy112
          clear hy112
          have H' := Aside0.mk H
          clear H
          go_wp2_with (first | ((with_reducible refine gate_callee (f := 125) rfl ?_); refine goesL_ (some 16) rfl rfl Try.func125 (by kernel_rfl) rfl #[.pointer (some ⟨g, 0, none⟩), .int .i64 0] rfl (by (try simp only [List.map_toArray, List.map_cons, List.map_nil]); first | done | rfl | (simp only [List.length_drop, List.length_take]; rfl)) ?_; (with_reducible refine (spec_l20Op.calls k1 g s0_0 x1001_1 0 t106 t107 t108 t109 t110 t111 w0 _ ?side1 ?side2 A8.out).mono ?_); (case side1 => repeat (first | (with_reducible first | exact HI0.out | apply IsS143.alloc | apply IsS143.drewN | apply IsS143.drew | apply IsS143.set_1) | exact HI0.out)); (case side2 => repeat (first | (with_reducible first | exact HB.out | apply below_alloc | apply pw_below_drewN | apply below_drew1 | refine below_set ?_ (IsS143.ge HI0.out)) | exact HB.out)); rintro e w10 ⟨rfl, hi, hb, hk⟩; refine ⟨_, rfl, ?_⟩; have n0_ := Aside0.mk (Kd.R_mono (Kd.R_keep (IsS143.apart (show IsS143 w0 _ g s0_0 x1001_1 from by repeat (first | (with_reducible first | exact HI0.out | apply IsS143.alloc | apply IsS143.drewN | apply IsS143.drew | apply IsS143.set_1) | exact HI0.out)) (by (with_reducible repeat (first | apply Kd.R_alloc | apply Kd.R_drewN | apply Kd.R_drew)); exact HO_5.out) (by decide)) hk (fun _ h => h.2)) (fun _ h => h.1)); have n1_ := Aside0.mk (KeepBut.trans (by repeat (first | (with_reducible first | exact HK.out | apply KeepBut.set_ | apply keep_drewN | apply keep_drew | apply keep_alloc) | exact HK.out)) hk (.inl rfl)); have n2_ := Aside0.mk (hb); have n3_ := Aside0.mk (hi); clear HO_5; clear HK; clear HB; clear HI0; have HO_5 := n0_; have HK := n1_; have HB := n2_; have HI0 := n3_; clear n0_ n1_ n2_ n3_; (try clear hb); (try clear hb2); (try clear hk); (try clear hi)) | ((with_reducible refine gate_builtin (b := .append) (xs := #[.tmp 14, .tmp 17]) rfl ?_); at_builtin; refine Kd.R_append k146 w.heap.size rfl (.tmp 14) (.tmp 17) 40 146 (.agg #[(.int .i64 0), (.int .i64 0), (.int .i64 0), (.int .i64 0), (.int .i64 0)]) 40 rfl Try.underlying40 info146 rfl (by decide) (by omega) u5 x5_1 (⟨t106, t107, t108, t109, t110⟩ : S146) [.int .i64 t106, .int .i64 t107, .int .i64 t108, .int .i64 t109, .int .i64 t110] (fun _ => True) (fun _ => False) rfl rfl ?aP (fun _ hk => hk.elim) ?aF ?aO (Below.refl _ _) ?aS ?aL ?_; (case aP => exact k146_mkM _ _ _ (⟨t106, t107, t108, t109, t110⟩ : S146)); (case aF => exact (fun _ _ => trivial)); (case aO => exact (by (with_reducible repeat (first | apply Kd.R_alloc | apply Kd.R_drewN | apply Kd.R_drew)); exact HO_5.out)); (case aS => exact (keep_size (w := w) (g := g) (row := none) (by repeat (first | (with_reducible first | exact HK.out | apply KeepBut.set_ | apply keep_drewN | apply keep_drew | apply keep_alloc) | exact HK.out)))); (case aL => have := LMc9.out; omega); intro v113 w11 ho hb hg hat; rw [← Ny112.out] at ho; have n0_ := Aside0.mk (IsS143.grown (by repeat (first | (with_reducible first | exact HI0.out | apply IsS143.alloc | apply IsS143.drewN | apply IsS143.drew | apply IsS143.set_1) | exact HI0.out)) hg (IsS143.own_ne HI0.out HO_5.out (by decide))); have n1_ := Aside0.mk (below_weaken (by repeat (first | (with_reducible first | exact HB.out | apply below_alloc | apply pw_below_drewN | apply below_drew1 | refine below_set ?_ (IsS143.ge HI0.out)) | exact HB.out)) HL.out hb); have n2_ := Aside0.mk (KeepBut.trans (by repeat (first | (with_reducible first | exact HK.out | apply KeepBut.set_ | apply keep_drewN | apply keep_drew | apply keep_alloc) | exact HK.out)) (KeepBut.of_grown hg g) (Kd.R_base2 HO_5.out)); have n3_ := Aside0.mk (ho); clear HI0; clear HB; clear HK; clear HO_5; have HI0 := n0_; have HB := n1_; have HK := n2_; have HO114 := n3_; clear n0_ n1_ n2_ n3_; clear ho hb hg hat))
          go_roundg k1
          case measure => have := HK1.out; omega
          case rel => exact ⟨(y112), (wrap64 (x6_1 - 1)), (t111), (by first | rfl | (simp; done) | (simp [*]; done)), H', ⟨by have := HK1.out; omega⟩, ⟨by (with_reducible repeat (first | apply Kd.R_alloc | apply Kd.R_drewN | apply Kd.R_drew)); exact HO114.out⟩, ⟨by repeat (first | (with_reducible first | exact HI0.out | apply IsS143.alloc | apply IsS143.drewN | apply IsS143.drew | apply IsS143.set_1) | exact HI0.out)⟩, ⟨by repeat (first | (with_reducible first | exact HK.out | apply KeepBut.set_ | apply keep_drewN | apply keep_drew | apply keep_alloc) | exact HK.out)⟩, ⟨by repeat (first | (with_reducible first | exact HB.out | apply below_alloc | apply pw_below_drewN | apply below_drew1 | refine below_set ?_ (IsS143.ge HI0.out)) | exact HB.out)⟩⟩
        · rw [if_neg c9] at H
          exact absurd H (by simp)
      · rw [if_neg c7] at H
        have c7b0 : decide (0 < x6_1) = false := decide_eq_false c7
        clear c7
        replace H := Option.bind_eq_some_iff.mp H
        obtain ⟨⟨t115, t116⟩, A120, H⟩ := H
        replace H : (if t115 = true then ((spec_l20Op.f k1 s0_0 t116 1).bind fun bt117 => (if x5_1.length < 3518437208883 then (spec_l20Ops.j1 k1 a1 (x5_1 ++ [(⟨bt117.1, bt117.2.1, bt117.2.2.1, bt117.2.2.2.1, bt117.2.2.2.2.1⟩ : S146)]) s0_0 bt117.2.2.2.2.2) else (none))) else (spec_l20Ops.j1 k1 a1 x5_1 s0_0 t116)) = some (r1, r2) := H
        have A12 := Aside0.mk A120
        clear A120
        have HC13 := Aside0.mk H
        clear H
        go_upto_if 21 with (first | ((with_reducible refine gate_callee (f := 117) rfl ?_); refine goesL_ (some 21) rfl rfl Try.func117 (by kernel_rfl) rfl #[.pointer (some ⟨g, 0, none⟩), .int .i64 a1] rfl (by (try simp only [List.map_toArray, List.map_cons, List.map_nil]); first | done | rfl | (simp only [List.length_drop, List.length_take]; rfl)) ?_; (with_reducible refine (spec_l20Rd_odd.calls k1 g s0_0 x1001_1 a1 t115 t116 w0 _ ?side1 ?side2 A12.out).mono ?_); (case side1 => repeat (first | (with_reducible first | exact HI0.out | apply IsS143.alloc | apply IsS143.drewN | apply IsS143.drew | apply IsS143.set_1) | exact HI0.out)); (case side2 => repeat (first | (with_reducible first | exact HB.out | apply below_alloc | apply pw_below_drewN | apply below_drew1 | refine below_set ?_ (IsS143.ge HI0.out)) | exact HB.out)); rintro e w14 ⟨rfl, hi, hb, hk⟩; refine ⟨_, rfl, ?_⟩; have n0_ := Aside0.mk (Kd.R_mono (Kd.R_keep (IsS143.apart (show IsS143 w0 _ g s0_0 x1001_1 from by repeat (first | (with_reducible first | exact HI0.out | apply IsS143.alloc | apply IsS143.drewN | apply IsS143.drew | apply IsS143.set_1) | exact HI0.out)) (by (with_reducible repeat (first | apply Kd.R_alloc | apply Kd.R_drewN | apply Kd.R_drew)); exact HO_5.out) (by decide)) hk (fun _ h => h.2)) (fun _ h => h.1)); have n1_ := Aside0.mk (KeepBut.trans (by repeat (first | (with_reducible first | exact HK.out | apply KeepBut.set_ | apply keep_drewN | apply keep_drew | apply keep_alloc) | exact HK.out)) hk (.inl rfl)); have n2_ := Aside0.mk (hb); have n3_ := Aside0.mk (hi); clear HO_5; clear HK; clear HB; clear HI0; have HO_5 := n0_; have HK := n1_; have HB := n2_; have HI0 := n3_; clear n0_ n1_ n2_ n3_; (try clear hb); (try clear hb2); (try clear hk); (try clear hi)))
        (try simp only [Act.put, List.setIfInBounds_toArray, List.set_cons_zero, List.set_cons_succ])
        go_cut [5] (fun v5 wc => ∃ (kq : Nat) (x5_12 : List (S146)) (x1001_12 : Int), Aside0 (spec_l20Ops.j1 kq a1 x5_12 s0_0 x1001_12 = some (r1, r2)) ∧ Aside0 (kq ≤ k1) ∧ Aside0 (Kd.R k146 146 wc w.heap.size (fun _ => True) v5 x5_12) ∧ Aside0 (IsS143 w0 wc g s0_0 x1001_12) ∧ Aside0 (KeepBut w wc g none) ∧ Aside0 (Below w0.heap.size w0 wc))
        case first =>
          have H := HC13.out
          clear HC13
          by_cases c15 : t115 = true
          · subst c15
            have H1 : ((spec_l20Op.f k1 s0_0 t116 1).bind fun bt117 => (if x5_1.length < 3518437208883 then (spec_l20Ops.j1 k1 a1 (x5_1 ++ [(⟨bt117.1, bt117.2.1, bt117.2.2.1, bt117.2.2.2.1, bt117.2.2.2.2.1⟩ : S146)]) s0_0 bt117.2.2.2.2.2) else (none))) = some (r1, r2) := by rw [if_pos rfl] at H; exact H
            clear H
            have H := H1
            clear H1
            replace H := Option.bind_eq_some_iff.mp H
            obtain ⟨⟨t117, t118, t119, t120, t121, t122⟩, A160, H⟩ := H
            replace H : (if x5_1.length < 3518437208883 then (spec_l20Ops.j1 k1 a1 (x5_1 ++ [(⟨t117, t118, t119, t120, t121⟩ : S146)]) s0_0 t122) else (none)) = some (r1, r2) := H
            have A16 := Aside0.mk A160
            clear A160
            by_cases c17 : x5_1.length < 3518437208883
            · rw [if_pos c17] at H
              have LMc17 := Aside0.mk c17
              clear c17
              obtain ⟨y123, hy123⟩ : ∃ y_ : List (S146), y_ = (x5_1 ++ [(⟨t117, t118, t119, t120, t121⟩ : S146)]) := ⟨_, rfl⟩
              replace H : (spec_l20Ops.j1 k1 a1 y123 s0_0 t122) = some (r1, r2) := by first | (rw [hy123]; with_reducible exact H) | (have H2_ := (Option.bind_some _ _).symm.trans H; rw [hy123]; with_reducible exact H2_) | (have H2_ := (Option.bind_some _ _).symm.trans H; with_reducible exact H2_) | with_reducible exact H | (rw [hy123]; exact H) | exact H
              have Ny123 := Aside0.mk hy123
              clear hy123
              have H' := Aside0.mk H
              clear H
              go_wp2_with (first | ((with_reducible refine gate_callee (f := 125) rfl ?_); refine goesL_ (some 24) rfl rfl Try.func125 (by kernel_rfl) rfl #[.pointer (some ⟨g, 0, none⟩), .int .i64 1] rfl (by (try simp only [List.map_toArray, List.map_cons, List.map_nil]); first | done | rfl | (simp only [List.length_drop, List.length_take]; rfl)) ?_; (with_reducible refine (spec_l20Op.calls k1 g s0_0 t116 1 t117 t118 t119 t120 t121 t122 w0 _ ?side1 ?side2 A16.out).mono ?_); (case side1 => repeat (first | (with_reducible first | exact HI0.out | apply IsS143.alloc | apply IsS143.drewN | apply IsS143.drew | apply IsS143.set_1) | exact HI0.out)); (case side2 => repeat (first | (with_reducible first | exact HB.out | apply below_alloc | apply pw_below_drewN | apply below_drew1 | refine below_set ?_ (IsS143.ge HI0.out)) | exact HB.out)); rintro e w18 ⟨rfl, hi, hb, hk⟩; refine ⟨_, rfl, ?_⟩; have n0_ := Aside0.mk (Kd.R_mono (Kd.R_keep (IsS143.apart (show IsS143 w0 _ g s0_0 t116 from by repeat (first | (with_reducible first | exact HI0.out | apply IsS143.alloc | apply IsS143.drewN | apply IsS143.drew | apply IsS143.set_1) | exact HI0.out)) (by (with_reducible repeat (first | apply Kd.R_alloc | apply Kd.R_drewN | apply Kd.R_drew)); exact HO_5.out) (by decide)) hk (fun _ h => h.2)) (fun _ h => h.1)); have n1_ := Aside0.mk (KeepBut.trans (by repeat (first | (with_reducible first | exact HK.out | apply KeepBut.set_ | apply keep_drewN | apply keep_drew | apply keep_alloc) | exact HK.out)) hk (.inl rfl)); have n2_ := Aside0.mk (hb); have n3_ := Aside0.mk (hi); clear HO_5; clear HK; clear HB; clear HI0; have HO_5 := n0_; have HK := n1_; have HB := n2_; have HI0 := n3_; clear n0_ n1_ n2_ n3_; (try clear hb); (try clear hb2); (try clear hk); (try clear hi)) | ((with_reducible refine gate_builtin (b := .append) (xs := #[.tmp 22, .tmp 25]) rfl ?_); at_builtin; refine Kd.R_append k146 w.heap.size rfl (.tmp 22) (.tmp 25) 40 146 (.agg #[(.int .i64 0), (.int .i64 0), (.int .i64 0), (.int .i64 0), (.int .i64 0)]) 40 rfl Try.underlying40 info146 rfl (by decide) (by omega) u5 x5_1 (⟨t117, t118, t119, t120, t121⟩ : S146) [.int .i64 t117, .int .i64 t118, .int .i64 t119, .int .i64 t120, .int .i64 t121] (fun _ => True) (fun _ => False) rfl rfl ?aP (fun _ hk => hk.elim) ?aF ?aO (Below.refl _ _) ?aS ?aL ?_; (case aP => exact k146_mkM _ _ _ (⟨t117, t118, t119, t120, t121⟩ : S146)); (case aF => exact (fun _ _ => trivial)); (case aO => exact (by (with_reducible repeat (first | apply Kd.R_alloc | apply Kd.R_drewN | apply Kd.R_drew)); exact HO_5.out)); (case aS => exact (keep_size (w := w) (g := g) (row := none) (by repeat (first | (with_reducible first | exact HK.out | apply KeepBut.set_ | apply keep_drewN | apply keep_drew | apply keep_alloc) | exact HK.out)))); (case aL => have := LMc17.out; omega); intro v124 w19 ho hb hg hat; rw [← Ny123.out] at ho; have n0_ := Aside0.mk (IsS143.grown (by repeat (first | (with_reducible first | exact HI0.out | apply IsS143.alloc | apply IsS143.drewN | apply IsS143.drew | apply IsS143.set_1) | exact HI0.out)) hg (IsS143.own_ne HI0.out HO_5.out (by decide))); have n1_ := Aside0.mk (below_weaken (by repeat (first | (with_reducible first | exact HB.out | apply below_alloc | apply pw_below_drewN | apply below_drew1 | refine below_set ?_ (IsS143.ge HI0.out)) | exact HB.out)) HL.out hb); have n2_ := Aside0.mk (KeepBut.trans (by repeat (first | (with_reducible first | exact HK.out | apply KeepBut.set_ | apply keep_drewN | apply keep_drew | apply keep_alloc) | exact HK.out)) (KeepBut.of_grown hg g) (Kd.R_base2 HO_5.out)); have n3_ := Aside0.mk (ho); clear HI0; clear HB; clear HK; clear HO_5; have HI0 := n0_; have HB := n1_; have HK := n2_; have HO125 := n3_; clear n0_ n1_ n2_ n3_; clear ho hb hg hat))
              go_meet
              case rel => exact ⟨_, (y123), (t122), H', ⟨by have := HK1.out; first | omega | exact Nat.le_refl _⟩, ⟨by (with_reducible repeat (first | apply Kd.R_alloc | apply Kd.R_drewN | apply Kd.R_drew)); exact HO125.out⟩, ⟨by repeat (first | (with_reducible first | exact HI0.out | apply IsS143.alloc | apply IsS143.drewN | apply IsS143.drew | apply IsS143.set_1) | exact HI0.out)⟩, ⟨by repeat (first | (with_reducible first | exact HK.out | apply KeepBut.set_ | apply keep_drewN | apply keep_drew | apply keep_alloc) | exact HK.out)⟩, ⟨by repeat (first | (with_reducible first | exact HB.out | apply below_alloc | apply pw_below_drewN | apply below_drew1 | refine below_set ?_ (IsS143.ge HI0.out)) | exact HB.out)⟩⟩
            · rw [if_neg c17] at H
              exact absurd H (by simp)
          · replace c15 := Bool.eq_false_iff.mpr c15
            subst c15
            have H1 : (spec_l20Ops.j1 k1 a1 x5_1 s0_0 t116) = some (r1, r2) := by rw [if_neg (show ¬ (false = true) by decide)] at H; exact H
            clear H
            have H := H1
            clear H1
            have H' := Aside0.mk H
            clear H
            go_wp2
            go_meet
            case rel => exact ⟨_, (x5_1), (t116), H', ⟨by have := HK1.out; first | omega | exact Nat.le_refl _⟩, ⟨by (with_reducible repeat (first | apply Kd.R_alloc | apply Kd.R_drewN | apply Kd.R_drew)); exact HO_5.out⟩, ⟨by repeat (first | (with_reducible first | exact HI0.out | apply IsS143.alloc | apply IsS143.drewN | apply IsS143.drew | apply IsS143.set_1) | exact HI0.out)⟩, ⟨by repeat (first | (with_reducible first | exact HK.out | apply KeepBut.set_ | apply keep_drewN | apply keep_drew | apply keep_alloc) | exact HK.out)⟩, ⟨by repeat (first | (with_reducible first | exact HB.out | apply below_alloc | apply pw_below_drewN | apply below_drew1 | refine below_set ?_ (IsS143.ge HI0.out)) | exact HB.out)⟩⟩
        case rest =>
          clear HC13
          try clear c1
          try clear p2
          try clear p6
          try clear c7
          try clear c7b0
          try clear c9
          try clear c11
          try clear c12
          try clear c15
          try clear c17
          try clear p2
          obtain ⟨kq, x5_12, x1001_12, HA, HJ12, HO_5, HI0, HK, HB⟩ := hcut
          cases kq with
          | zero => exact absurd HA.out (by simp [spec_l20Ops.j1])
          | succ kj12 =>
            have H := HA.out
            clear HA
            simp only [spec_l20Ops.j1] at H
            replace H := Option.bind_eq_some_iff.mp H
            obtain ⟨⟨t126, t127⟩, A200, H⟩ := H
            replace H : (if t126 = true then (spec_l20Ops.l1 kj12 x5_12 s0_0 t127) else (some (x5_12, t127))) = some (r1, r2) := H
            have A20 := Aside0.mk A200
            clear A200
            by_cases c21 : t126 = true
            · subst c21
              have H1 : (spec_l20Ops.l1 kj12 x5_12 s0_0 t127) = some (r1, r2) := by rw [if_pos rfl] at H; exact H
              clear H
              have H := H1
              clear H1
              have H' := Aside0.mk H
              clear H
              go_wp2_with (first | ((with_reducible refine gate_callee (f := 117) rfl ?_); refine goesL_ (some 29) rfl rfl Try.func117 (by kernel_rfl) rfl #[.pointer (some ⟨g, 0, none⟩), .int .i64 a1] rfl (by (try simp only [List.map_toArray, List.map_cons, List.map_nil]); first | done | rfl | (simp only [List.length_drop, List.length_take]; rfl)) ?_; (with_reducible refine (spec_l20Rd_odd.calls kj12 g s0_0 x1001_12 a1 true t127 w0 _ ?side1 ?side2 A20.out).mono ?_); (case side1 => repeat (first | (with_reducible first | exact HI0.out | apply IsS143.alloc | apply IsS143.drewN | apply IsS143.drew | apply IsS143.set_1) | exact HI0.out)); (case side2 => repeat (first | (with_reducible first | exact HB.out | apply below_alloc | apply pw_below_drewN | apply below_drew1 | refine below_set ?_ (IsS143.ge HI0.out)) | exact HB.out)); rintro e w22 ⟨rfl, hi, hb, hk⟩; refine ⟨_, rfl, ?_⟩; have n0_ := Aside0.mk (Kd.R_mono (Kd.R_keep (IsS143.apart (show IsS143 w0 _ g s0_0 x1001_12 from by repeat (first | (with_reducible first | exact HI0.out | apply IsS143.alloc | apply IsS143.drewN | apply IsS143.drew | apply IsS143.set_1) | exact HI0.out)) (by (with_reducible repeat (first | apply Kd.R_alloc | apply Kd.R_drewN | apply Kd.R_drew)); exact HO_5.out) (by decide)) hk (fun _ h => h.2)) (fun _ h => h.1)); have n1_ := Aside0.mk (KeepBut.trans (by repeat (first | (with_reducible first | exact HK.out | apply KeepBut.set_ | apply keep_drewN | apply keep_drew | apply keep_alloc) | exact HK.out)) hk (.inl rfl)); have n2_ := Aside0.mk (hb); have n3_ := Aside0.mk (hi); clear HO_5; clear HK; clear HB; clear HI0; have HO_5 := n0_; have HK := n1_; have HB := n2_; have HI0 := n3_; clear n0_ n1_ n2_ n3_; (try clear hb); (try clear hb2); (try clear hk); (try clear hi)))
              (try simp only [Act.put, List.setIfInBounds_toArray, List.set_cons_zero, List.set_cons_succ])
              go_loopg [5] kj12 (fun kq v5 w' => ∃ (x5_3 : List (S146)), Aside0 (spec_l20Ops.l1 kq x5_3 s0_0 t127 = some (r1, r2)) ∧ Aside0 (kq ≤ kj12) ∧ Aside0 (Kd.R k146 146 w' w.heap.size (fun _ => True) v5 x5_3) ∧ Aside0 (IsS143 w0 w' g s0_0 t127) ∧ Aside0 (KeepBut w w' g none) ∧ Aside0 (Below w0.heap.size w0 w'))
              case atStart => exact ⟨(x5_12), H', ⟨Nat.le_refl _⟩, ⟨by (with_reducible repeat (first | apply Kd.R_alloc | apply Kd.R_drewN | apply Kd.R_drew)); exact HO_5.out⟩, ⟨by repeat (first | (with_reducible first | exact HI0.out | apply IsS143.alloc | apply IsS143.drewN | apply IsS143.drew | apply IsS143.set_1) | exact HI0.out)⟩, ⟨by repeat (first | (with_reducible first | exact HK.out | apply KeepBut.set_ | apply keep_drewN | apply keep_drew | apply keep_alloc) | exact HK.out)⟩, ⟨by repeat (first | (with_reducible first | exact HB.out | apply below_alloc | apply pw_below_drewN | apply below_drew1 | refine below_set ?_ (IsS143.ge HI0.out)) | exact HB.out)⟩⟩
              case round =>
                clear H'
                try clear c1
                try clear c2
                try clear p2
                try clear p6
                try clear c7
                try clear c7b0
                try clear c9
                try clear c11
                try clear c12
                try clear c15
                try clear c17
                try clear c21
                try clear p2
                try clear p6
                obtain ⟨x5_3, HA, HK3, HO_5, HI0, HK, HB⟩ := hrel
                cases gk with
                | zero => exact absurd HA.out (by simp [spec_l20Ops.l1])
                | succ k3 =>
                  have H := HA.out
                  clear HA
                  simp only [spec_l20Ops.l1] at H
                  by_cases c23 : (x5_3.length : Int) ≤ 5
                  · rw [if_pos c23] at H
                    have c23b0 : decide ((x5_3.length : Int) ≤ 5) = true := decide_eq_true c23
                    have c23b1 : decide (x5_3.length ≤ 5) = true := decide_eq_true (by omega)
                    clear c23
                    by_cases c24 : x5_3.length < 3518437208883
                    · rw [if_pos c24] at H
                      have LMc24 := Aside0.mk c24
                      clear c24
                      obtain ⟨y128, hy128⟩ : ∃ y_ : List (S146), y_ = (x5_3 ++ [(⟨4, 0, 0, 0, 0⟩ : S146)]) := ⟨_, rfl⟩
                      replace H : (spec_l20Ops.l1 k3 y128 s0_0 t127) = some (r1, r2) := by first | (rw [hy128]; with_reducible exact H) | (have H2_ := (Option.bind_some _ _).symm.trans H; rw [hy128]; with_reducible exact H2_) | (have H2_ := (Option.bind_some _ _).symm.trans H; with_reducible exact H2_) | with_reducible exact H | (rw [hy128]; exact H) | exact H
                      have Ny128 := Aside0.mk hy128
                      clear hy128
                      have H' := Aside0.mk H
                      clear H
                      obtain ⟨Ao25, co25, eo25⟩ := Kd.R_slice HO_5.out
                      subst eo25
                      go_wp2_with (first | ((with_reducible refine gate_builtin (b := .append) (xs := #[.tmp 33, .tmp 35]) rfl ?_); at_builtin; refine Kd.R_append k146 w.heap.size rfl (.tmp 33) (.tmp 35) 40 146 (.agg #[(.int .i64 0), (.int .i64 0), (.int .i64 0), (.int .i64 0), (.int .i64 0)]) 40 rfl Try.underlying40 info146 rfl (by decide) (by omega) (.slice Ao25 x5_3.length co25) x5_3 (⟨4, 0, 0, 0, 0⟩ : S146) [.int .i64 4, .int .i64 0, .int .i64 0, .int .i64 0, .int .i64 0] (fun _ => True) (fun _ => False) rfl rfl ?aP (fun _ hk => hk.elim) ?aF ?aO (Below.refl _ _) ?aS ?aL ?_; (case aP => exact k146_mkM _ _ _ (⟨4, 0, 0, 0, 0⟩ : S146)); (case aF => exact (fun _ _ => trivial)); (case aO => exact (by (with_reducible repeat (first | apply Kd.R_alloc | apply Kd.R_drewN | apply Kd.R_drew)); exact HO_5.out)); (case aS => exact (keep_size (w := w) (g := g) (row := none) (by repeat (first | (with_reducible first | exact HK.out | apply KeepBut.set_ | apply keep_drewN | apply keep_drew | apply keep_alloc) | exact HK.out)))); (case aL => have := LMc24.out; omega); intro v129 w26 ho hb hg hat; rw [← Ny128.out] at ho; have n0_ := Aside0.mk (IsS143.grown (by repeat (first | (with_reducible first | exact HI0.out | apply IsS143.alloc | apply IsS143.drewN | apply IsS143.drew | apply IsS143.set_1) | exact HI0.out)) hg (IsS143.own_ne HI0.out HO_5.out (by decide))); have n1_ := Aside0.mk (below_weaken (by repeat (first | (with_reducible first | exact HB.out | apply below_alloc | apply pw_below_drewN | apply below_drew1 | refine below_set ?_ (IsS143.ge HI0.out)) | exact HB.out)) HL.out hb); have n2_ := Aside0.mk (KeepBut.trans (by repeat (first | (with_reducible first | exact HK.out | apply KeepBut.set_ | apply keep_drewN | apply keep_drew | apply keep_alloc) | exact HK.out)) (KeepBut.of_grown hg g) (Kd.R_base2 HO_5.out)); have n3_ := Aside0.mk (ho); clear HI0; clear HB; clear HK; clear HO_5; have HI0 := n0_; have HB := n1_; have HK := n2_; have HO130 := n3_; clear n0_ n1_ n2_ n3_; clear ho hb hg hat))
                      go_roundg k3
                      case measure => have := HK1.out; have := HJ12.out; have := HK3.out; omega
                      case rel => exact ⟨(y128), H', ⟨by have := HK1.out; have := HJ12.out; have := HK3.out; omega⟩, ⟨by (with_reducible repeat (first | apply Kd.R_alloc | apply Kd.R_drewN | apply Kd.R_drew)); exact HO130.out⟩, ⟨by repeat (first | (with_reducible first | exact HI0.out | apply IsS143.alloc | apply IsS143.drewN | apply IsS143.drew | apply IsS143.set_1) | exact HI0.out)⟩, ⟨by repeat (first | (with_reducible first | exact HK.out | apply KeepBut.set_ | apply keep_drewN | apply keep_drew | apply keep_alloc) | exact HK.out)⟩, ⟨by repeat (first | (with_reducible first | exact HB.out | apply below_alloc | apply pw_below_drewN | apply below_drew1 | refine below_set ?_ (IsS143.ge HI0.out)) | exact HB.out)⟩⟩
                    · rw [if_neg c24] at H
                      exact absurd H (by simp)
                  · rw [if_neg c23] at H
                    have c23b0 : decide ((x5_3.length : Int) ≤ 5) = false := decide_eq_false c23
                    have c23b1 : decide (x5_3.length ≤ 5) = false := decide_eq_false (by omega)
                    clear c23
                    simp only [Option.some.injEq, Prod.mk.injEq] at H
                    obtain ⟨rfl, rfl⟩ := H
                    obtain ⟨Ao27, co27, eo27⟩ := Kd.R_slice HO_5.out
                    subst eo27
                    go_wp2
                    go_ret
                    exact ⟨_, by first | rfl | (simp [errW_none, errW_some] <;> rfl) | (simp [*, errW_none, errW_some] <;> rfl), by (with_reducible repeat (first | apply Kd.R_alloc | apply Kd.R_drewN | apply Kd.R_drew)); exact HO_5.out, by repeat (first | (with_reducible first | exact HI0.out | apply IsS143.alloc | apply IsS143.drewN | apply IsS143.drew | apply IsS143.set_1) | exact HI0.out), by repeat (first | (with_reducible first | exact HB.out | apply below_alloc | apply pw_below_drewN | apply below_drew1 | refine below_set ?_ (IsS143.ge HI0.out)) | exact HB.out), by repeat (first | (with_reducible first | exact HK.out | apply KeepBut.set_ | apply keep_drewN | apply keep_drew | apply keep_alloc) | exact HK.out)⟩
            · replace c21 := Bool.eq_false_iff.mpr c21
              subst c21
              have H1 : (some (x5_12, t127)) = some (r1, r2) := by rw [if_neg (show ¬ (false = true) by decide)] at H; exact H
              clear H
              have H := H1
              clear H1
              simp only [Option.some.injEq, Prod.mk.injEq] at H
              obtain ⟨rfl, rfl⟩ := H
              go_wp2_with (first | ((with_reducible refine gate_callee (f := 117) rfl ?_); refine goesL_ (some 29) rfl rfl Try.func117 (by kernel_rfl) rfl #[.pointer (some ⟨g, 0, none⟩), .int .i64 a1] rfl (by (try simp only [List.map_toArray, List.map_cons, List.map_nil]); first | done | rfl | (simp only [List.length_drop, List.length_take]; rfl)) ?_; (with_reducible refine (spec_l20Rd_odd.calls kj12 g s0_0 x1001_12 a1 false t127 w0 _ ?side1 ?side2 A20.out).mono ?_); (case side1 => repeat (first | (with_reducible first | exact HI0.out | apply IsS143.alloc | apply IsS143.drewN | apply IsS143.drew | apply IsS143.set_1) | exact HI0.out)); (case side2 => repeat (first | (with_reducible first | exact HB.out | apply below_alloc | apply pw_below_drewN | apply below_drew1 | refine below_set ?_ (IsS143.ge HI0.out)) | exact HB.out)); rintro e w28 ⟨rfl, hi, hb, hk⟩; refine ⟨_, rfl, ?_⟩; have n0_ := Aside0.mk (Kd.R_mono (Kd.R_keep (IsS143.apart (show IsS143 w0 _ g s0_0 x1001_12 from by repeat (first | (with_reducible first | exact HI0.out | apply IsS143.alloc | apply IsS143.drewN | apply IsS143.drew | apply IsS143.set_1) | exact HI0.out)) (by (with_reducible repeat (first | apply Kd.R_alloc | apply Kd.R_drewN | apply Kd.R_drew)); exact HO_5.out) (by decide)) hk (fun _ h => h.2)) (fun _ h => h.1)); have n1_ := Aside0.mk (KeepBut.trans (by repeat (first | (with_reducible first | exact HK.out | apply KeepBut.set_ | apply keep_drewN | apply keep_drew | apply keep_alloc) | exact HK.out)) hk (.inl rfl)); have n2_ := Aside0.mk (hb); have n3_ := Aside0.mk (hi); clear HO_5; clear HK; clear HB; clear HI0; have HO_5 := n0_; have HK := n1_; have HB := n2_; have HI0 := n3_; clear n0_ n1_ n2_ n3_; (try clear hb); (try clear hb2); (try clear hk); (try clear hi)))
              go_ret
              exact ⟨_, by first | rfl | (simp [errW_none, errW_some] <;> rfl) | (simp [*, errW_none, errW_some] <;> rfl), by (with_reducible repeat (first | apply Kd.R_alloc | apply Kd.R_drewN | apply Kd.R_drew)); exact HO_5.out, by repeat (first | (with_reducible first | exact HI0.out | apply IsS143.alloc | apply IsS143.drewN | apply IsS143.drew | apply IsS143.set_1) | exact HI0.out), by repeat (first | (with_reducible first | exact HB.out | apply below_alloc | apply pw_below_drewN | apply below_drew1 | refine below_set ?_ (IsS143.ge HI0.out)) | exact HB.out), by repeat (first | (with_reducible first | exact HK.out | apply KeepBut.set_ | apply keep_drewN | apply keep_drew | apply keep_alloc) | exact HK.out)⟩

end Go.Proofs.Ytgpkkkmapgnhkaa.X

namespace Go.Proofs.Ytgpkkkmapgnhkaa.X
open Go.RowKit Go.Proofs.YtgpkkkmapgnhkaaW.PrintWords Go.Proofs.Ytgpkkkmapgnhkaa.Pl
set_option linter.unusedSimpArgs false
set_option linter.unusedVariables false

theorem l20Op_j0_tot {l : List Int} (hl : Bytes l) (n p o a b c d : Int) (h0 : 0 ≤ p) (h1 : p ≤ 900000000000) (hn : n ≤ 1000) :
    Tot (fun k => spec_l20Op.j0 k n l p o a b c d) (fun x => p ≤ x.2.2.2.2.2 ∧ x.2.2.2.2.2 ≤ p + 3) := by
  refine Tot.succ ?_
  simp only [spec_l20Op.j0]
  refine Tot.bind (odd_tot hl p n h0 (by omega) (by omega)) ?_
  rintro ⟨b1, p1⟩ ⟨e1, e2, -⟩
  dsimp only at e1 e2 ⊢
  refine Tot.ite ?_ ?_ <;> intro hb
  · refine Tot.bind (pick_tot hl p1 4 (by omega) (by omega)) ?_
    rintro ⟨r2, p2⟩ ⟨e3, e4, e5, -⟩
    dsimp only at e3 e4 e5 ⊢
    refine Tot.ite ?_ ?_ <;> intro h
    all_goals try (refine Tot.ite ?_ ?_ <;> intro h')
    all_goals try (refine Tot.ite ?_ ?_ <;> intro h'')
    all_goals
      refine Tot.some_bind ?_
      refine Tot.bind (pick_tot hl p2 2 (by omega) (by omega)) ?_
      rintro ⟨r3, p3⟩ ⟨e6, e7, e8, -⟩
      dsimp only at e6 e7 e8 ⊢
      refine Tot.pos e7 (Tot.pos ?_ (Tot.ret ?_))
      · simp only [List.length_cons, List.length_nil]; omega
      · dsimp only; omega
  · exact Tot.ret (by dsimp only; omega)

theorem l20Op_tot {l : List Int} (hl : Bytes l) (p n : Int) (h0 : 0 ≤ p) (h1 : p ≤ 800000000000) (hn : n ≤ 1000) :
    Tot (fun k => spec_l20Op.f k l p n) (fun x => p ≤ x.2.2.2.2.2 ∧ x.2.2.2.2.2 ≤ p + 8) := by
  simp only [spec_l20Op.f]
  refine Tot.bind (pick_tot hl p 8 h0 (by omega)) ?_
  rintro ⟨r0, p0⟩ ⟨e1, e2, e3, -⟩
  dsimp only at e1 e2 e3 ⊢
  refine Tot.ite ?_ ?_ <;> intro h
  · refine Tot.bind (pick_tot hl p0 3 (by omega) (by omega)) ?_
    rintro ⟨r4, p4⟩ ⟨e4, -, -, -⟩
    dsimp only at e4 ⊢
    refine Tot.bind (pick_tot hl p4 3 (by omega) (by omega)) ?_
    rintro ⟨r5, p5⟩ ⟨e5, -, -, -⟩
    dsimp only at e5 ⊢
    refine Tot.bind (pick_tot hl p5 4 (by omega) (by omega)) ?_
    rintro ⟨r6, p6⟩ ⟨e6, -, -, -⟩
    dsimp only at e6 ⊢
    refine Tot.bind (pick_tot hl p6 4 (by omega) (by omega)) ?_
    rintro ⟨r7, p7⟩ ⟨e7, -, -, -⟩
    dsimp only at e7 ⊢
    exact (l20Op_j0_tot hl n p7 _ _ _ _ _ (by omega) (by omega) hn).mono (fun x hx => by omega)
  refine Tot.ite ?_ ?_ <;> intro h
  · refine Tot.bind (pick_tot hl p0 6 (by omega) (by omega)) ?_
    rintro ⟨r4, p4⟩ ⟨e4, -, -, -⟩
    dsimp only at e4 ⊢
    refine Tot.bind (pick_tot hl p4 6 (by omega) (by omega)) ?_
    rintro ⟨r5, p5⟩ ⟨e5, -, -, -⟩
    dsimp only at e5 ⊢
    exact (l20Op_j0_tot hl n p5 _ _ _ _ _ (by omega) (by omega) hn).mono (fun x hx => by omega)
  refine Tot.ite ?_ ?_ <;> intro h
  · refine Tot.bind (pick_tot hl p0 256 (by omega) (by omega)) ?_
    rintro ⟨r4, p4⟩ ⟨e4, -, -, -⟩
    dsimp only at e4 ⊢
    refine Tot.bind (pick_tot hl p4 256 (by omega) (by omega)) ?_
    rintro ⟨r5, p5⟩ ⟨e5, -, -, -⟩
    dsimp only at e5 ⊢
    refine Tot.bind (pick_tot hl p5 256 (by omega) (by omega)) ?_
    rintro ⟨r6, p6⟩ ⟨e6, -, -, -⟩
    dsimp only at e6 ⊢
    exact (l20Op_j0_tot hl n p6 _ _ _ _ _ (by omega) (by omega) hn).mono (fun x hx => by omega)
  · exact (l20Op_j0_tot hl n p0 _ _ _ _ _ (by omega) (by omega) hn).mono (fun x hx => by omega)

abbrev DOp := S146
theorem l20Ops_l1_tot {l : List Int} (p : Int) : ∀ s : List DOp, s.length ≤ 100 → Tot (fun k => spec_l20Ops.l1 k s l p) (fun x => x.1.length ≤ 100 ∧ x.2 = p) := by
  refine tot_ind (fun k s => spec_l20Ops.l1 k s l p) (fun s => s.length ≤ 100) (fun s => 6 - s.length) _ ?_
  intro s hs ih
  refine Tot.succ ?_
  simp only [spec_l20Ops.l1]
  refine Tot.ite ?_ ?_ <;> intro h
  · refine Tot.pos (by omega) ?_
    exact ih (s ++ [⟨4, 0, 0, 0, 0⟩]) (by simp; omega) (by simp; omega)
  · exact Tot.ret ⟨hs, rfl⟩
theorem l20Ops_j1_tot {l : List Int} (hl : Bytes l) (n : Int) (s : List DOp) (p : Int) (hs : s.length ≤ 100) (h0 : 0 ≤ p) (h1 : p ≤ 750000000000) (hn : n ≤ 1000) :
    Tot (fun k => spec_l20Ops.j1 k n s l p) (fun x => x.1.length ≤ 100 ∧ p ≤ x.2 ∧ x.2 ≤ p + 1) := by
  refine Tot.succ ?_
  simp only [spec_l20Ops.j1]
  refine Tot.bind (odd_tot hl p n h0 (by omega) (by omega)) ?_
  rintro ⟨b1, p1⟩ ⟨e1, e2, -⟩
  dsimp only at e1 e2 ⊢
  refine Tot.ite ?_ ?_ <;> intro hb
  · exact (l20Ops_l1_tot p1 s hs).mono (fun x hx => ⟨hx.1, by omega, by omega⟩)
  · exact Tot.ret ⟨hs, e1, e2⟩
theorem l20Ops_l0_tot {l : List Int} (hl : Bytes l) (n P : Int) (hP : P ≤ 700000000000) (hn : n ≤ 1000) : ∀ s : List DOp × Int × Int, (0 ≤ s.2.2 ∧ s.2.1 ≤ 5 ∧ s.1.length ≤ 50 - s.2.1.toNat ∧ s.2.2 + 8 * (max s.2.1 0) ≤ P) →
    Tot (fun k => spec_l20Ops.l0 k n s.1 s.2.1 l s.2.2) (fun x => x.1.length ≤ 100 ∧ 0 ≤ x.2 ∧ x.2 ≤ P + 20) := by
  refine tot_ind (fun k (s : List DOp × Int × Int) => spec_l20Ops.l0 k n s.1 s.2.1 l s.2.2) _ (fun s => s.2.1.toNat) _ ?_
  rintro ⟨s, c, p⟩ ⟨i1, i2, i4, i5⟩ ih
  dsimp only at i1 i2 i4 i5 ⊢
  refine Tot.succ ?_
  simp only [spec_l20Ops.l0]
  refine Tot.ite ?_ ?_ <;> intro h
  · refine Tot.bind (l20Op_tot hl p 0 (by omega) (by omega) (by omega)) ?_
    rintro ⟨o, a, b, c', d, q⟩ ⟨e1, e2⟩
    dsimp only at e1 e2 ⊢
    refine Tot.pos (by omega) ?_
    have w : wrap64 (c - 1) = c - 1 := wrap_id (by omega) (by omega)
    rw [w]
    exact ih (s ++ [⟨o, a, b, c', d⟩], c - 1, q) (by dsimp only; rw [List.length_append]; simp only [List.length_cons, List.length_nil]; omega) (by dsimp only; omega)
  · refine Tot.bind (odd_tot hl p n (by omega) (by omega) (by omega)) ?_
    rintro ⟨b1, p1⟩ ⟨e1, e2, -⟩
    dsimp only at e1 e2 ⊢
    refine Tot.ite ?_ ?_ <;> intro hb
    · refine Tot.bind (l20Op_tot hl p1 1 (by omega) (by omega) (by omega)) ?_
      rintro ⟨o, a, b, c', d, q⟩ ⟨e3, e4⟩
      dsimp only at e3 e4 ⊢
      refine Tot.pos (by omega) ?_
      exact (l20Ops_j1_tot hl n _ q (by rw [List.length_append]; simp only [List.length_cons, List.length_nil]; omega) (by omega) (by omega) hn).mono (fun x hx => ⟨hx.1, by omega, by omega⟩)
    · exact (l20Ops_j1_tot hl n s p1 (by omega) (by omega) (by omega) hn).mono (fun x hx => ⟨hx.1, by omega, by omega⟩)
theorem l20Ops_tot {l : List Int} (hl : Bytes l) (p n : Int) (h0 : 0 ≤ p) (h1 : p ≤ 600000000000) (hn : n ≤ 1000) :
    Tot (fun k => spec_l20Ops.f k l p n) (fun x => x.1.length ≤ 100 ∧ 0 ≤ x.2 ∧ x.2 ≤ p + 100) := by
  simp only [spec_l20Ops.f]
  refine Tot.bind (pick_tot hl p 6 h0 (by omega)) ?_
  rintro ⟨r0, p0⟩ ⟨e1, e2, e3, -⟩
  dsimp only at e1 e2 e3 ⊢
  exact (l20Ops_l0_tot hl n (p0 + 50) (by omega) hn ([], r0, p0) (by dsimp only [List.length_nil]; omega)).mono (fun x hx => ⟨hx.1, by omega, by omega⟩)
end Go.Proofs.Ytgpkkkmapgnhkaa.X

namespace Go.Proofs.Ytgpkkkmapgnhkaa.X
open Go.RowKit Go.Proofs.YtgpkkkmapgnhkaaW.PrintWords Go.Proofs.YtgpkkkmapgnhkaaW.PrintLast Go.Proofs.YtgpkkkmapgnhkaaW.PrintMore
attribute [local go_sem] max2_int min2_int max_two min_two max_three min_three max_four min_four   -- for this text's walks alone
set_option linter.unusedVariables false
set_option linter.unusedSimpArgs false

/-! ### spec_l20Path: function 124 -/
def spec_l20Path.f (k : Nat) (s0_0 : List Int) (s0_1 : Int) : Option (ByteArray × Int) := (some (([(⟨#[97]⟩ : ByteArray), (⟨#[98]⟩ : ByteArray), (⟨#[99, 97, 116]⟩ : ByteArray), (⟨#[100, 48, 103]⟩ : ByteArray), (⟨#[97, 98, 99, 100, 101, 102]⟩ : ByteArray)] : List ByteArray) : List ByteArray)).bind fun y101 => ((spec_l20Rd_pick.f k s0_0 s0_1 5).bind fun bt104 => (if 0 ≤ bt104.1 then (if bt104.1 < (y101.length : Int) then (some (rdOf ByteArray.empty y101 bt104.1, bt104.2)) else (none)) else (none)))
theorem spec_l20Path.mono : ∀ a0 a1 k, LeO (spec_l20Path.f k a0 a1) (spec_l20Path.f (k + 1) a0 a1) := by
  intro a0 a1 k
  unfold spec_l20Path.f
  repeat' first
      | (with_reducible exact spec_l20Rd_pick.mono _ _ _ _)
      | (with_reducible exact LeO.refl _)
      | (with_reducible exact LeO.none _)
      | (with_reducible refine LeO.ite ?_ ?_)
      | (with_reducible refine LeO.bind ?_ (fun _ => ?_))
      | exact spec_l20Rd_pick.mono _ _ _ _
      | exact LeO.none _
      | refine LeO.ite ?_ ?_
      | refine LeO.bind ?_ (fun _ => ?_)
set_option maxHeartbeats 8000000 in
set_option maxRecDepth 100000 in
theorem spec_l20Path.calls (k : Nat) (g : Nat) (s0_0 : List Int) (s0_1 : Int) (r1 : ByteArray) (r2 : Int) (w0 w : World) (hI : IsS143 w0 w g s0_0 s0_1) (hB : Below w0.heap.size w0 w) (h : spec_l20Path.f k s0_0 s0_1 = some (r1, r2)) :
    Calls Try.prog 124 #[.pointer (some ⟨g, 0, none⟩)] w fun e w' => e = .returned (.string r1) ∧ IsS143 w0 w' g s0_0 r2 ∧ Below w0.heap.size w0 w' ∧ KeepBut w w' g none := by
  have HI0 := Aside0.mk hI
  have HK := Aside0.mk (KeepBut.refl w g none)
  have HL := Aside0.mk hB.size
  clear hI
  have HW0 := Aside0.mk hB.size
  have HB := Aside0.mk hB
  clear hB
  have H : ((some (([(⟨#[97]⟩ : ByteArray), (⟨#[98]⟩ : ByteArray), (⟨#[99, 97, 116]⟩ : ByteArray), (⟨#[100, 48, 103]⟩ : ByteArray), (⟨#[97, 98, 99, 100, 101, 102]⟩ : ByteArray)] : List ByteArray) : List ByteArray)).bind fun y101 => ((spec_l20Rd_pick.f k s0_0 s0_1 5).bind fun bt104 => (if 0 ≤ bt104.1 then (if bt104.1 < (y101.length : Int) then (some (rdOf ByteArray.empty y101 bt104.1, bt104.2)) else (none)) else (none)))) = some (r1, r2) := h
  clear h
  obtain ⟨y101, hy101⟩ : ∃ y_ : List ByteArray, y_ = (([(⟨#[97]⟩ : ByteArray), (⟨#[98]⟩ : ByteArray), (⟨#[99, 97, 116]⟩ : ByteArray), (⟨#[100, 48, 103]⟩ : ByteArray), (⟨#[97, 98, 99, 100, 101, 102]⟩ : ByteArray)] : List ByteArray)) := ⟨_, rfl⟩
  replace H : ((spec_l20Rd_pick.f k s0_0 s0_1 5).bind fun bt104 => (if 0 ≤ bt104.1 then (if bt104.1 < (y101.length : Int) then (some (rdOf ByteArray.empty y101 bt104.1, bt104.2)) else (none)) else (none))) = some (r1, r2) := by first | (rw [hy101]; with_reducible exact H) | (have H2_ := (Option.bind_some _ _).symm.trans H; rw [hy101]; with_reducible exact H2_) | (have H2_ := (Option.bind_some _ _).symm.trans H; with_reducible exact H2_) | with_reducible exact H | (rw [hy101]; exact H) | exact H
  have Ny101 := Aside0.mk hy101
  clear hy101
  replace H := Option.bind_eq_some_iff.mp H
  obtain ⟨⟨t104, t105⟩, A20, H⟩ := H
  replace H : (if 0 ≤ t104 then (if t104 < (y101.length : Int) then (some (rdOf ByteArray.empty y101 t104, t105)) else (none)) else (none)) = some (r1, r2) := H
  have A2 := Aside0.mk A20
  clear A20
  by_cases c3 : 0 ≤ t104
  · rw [if_pos c3] at H
    have c3b0 : decide (0 ≤ t104) = true := decide_eq_true c3
    clear c3
    by_cases c4 : t104 < (y101.length : Int)
    · rw [if_pos c4] at H
      have c4b0 : decide (t104 < (y101.length : Int)) = true := decide_eq_true c4
      clear c4
      simp only [Option.some.injEq, Prod.mk.injEq] at H
      obtain ⟨rfl, rfl⟩ := H
      go_enter Try.func124, Try.ntmps124
      go_wp2_with (first | ((with_reducible refine gate_dst (N := 3) rfl ?_); refine Kd.R_lit Kd.string _ 9 ?hg (N := 3) ?hd (xs := ([(⟨#[97]⟩ : ByteArray), (⟨#[98]⟩ : ByteArray), (⟨#[99, 97, 116]⟩ : ByteArray), (⟨#[100, 48, 103]⟩ : ByteArray), (⟨#[97, 98, 99, 100, 101, 102]⟩ : ByteArray)] : List ByteArray)) (inner := [.string (⟨#[97]⟩ : ByteArray), .string (⟨#[98]⟩ : ByteArray), .string (⟨#[99, 97, 116]⟩ : ByteArray), .string (⟨#[100, 48, 103]⟩ : ByteArray), .string (⟨#[97, 98, 99, 100, 101, 102]⟩ : ByteArray)]) (ok := fun _ => True) (okp := fun _ => True) ?hr ?hp (fun _ hk => hk) trivial (Below.refl _ _) (Nat.le_refl _) (by simp) ?_; (case hd => rfl); (case hg => rfl); (case hr => first | (go_simp; done) | (go_simp; rfl)); (case hp => exact (Reps.one (show Kd.M Kd.string _ _ _ (⟨#[97]⟩ : ByteArray) [.string (⟨#[97]⟩ : ByteArray)] from rfl) (Reps.one (show Kd.M Kd.string _ _ _ (⟨#[98]⟩ : ByteArray) [.string (⟨#[98]⟩ : ByteArray)] from rfl) (Reps.one (show Kd.M Kd.string _ _ _ (⟨#[99, 97, 116]⟩ : ByteArray) [.string (⟨#[99, 97, 116]⟩ : ByteArray)] from rfl) (Reps.one (show Kd.M Kd.string _ _ _ (⟨#[100, 48, 103]⟩ : ByteArray) [.string (⟨#[100, 48, 103]⟩ : ByteArray)] from rfl) (Reps.one (show Kd.M Kd.string _ _ _ (⟨#[97, 98, 99, 100, 101, 102]⟩ : ByteArray) [.string (⟨#[97, 98, 99, 100, 101, 102]⟩ : ByteArray)] from rfl) (Reps.none _ _))))))); intro v102 w5 ho6 hb hg_ hnew_; clear hg_ hnew_; (first | rw [← Ny101.out] at ho6 | (simp only [Int.reduceToNat] at ho6; rw [← Ny101.out] at ho6)); have n0_ := Aside0.mk (Kd.R_lower ho6 (keep_size (w := w) (g := g) (row := none) (by repeat (first | (with_reducible first | exact HK.out | apply KeepBut.set_ | apply keep_drewN | apply keep_drew | apply keep_alloc) | exact HK.out)))); have n1_ := Aside0.mk (IsS143.below (by repeat (first | (with_reducible first | exact HI0.out | apply IsS143.alloc | apply IsS143.drewN | apply IsS143.drew | apply IsS143.set_1) | exact HI0.out)) hb); have n2_ := Aside0.mk (KeepBut.trans (by repeat (first | (with_reducible first | exact HK.out | apply KeepBut.set_ | apply keep_drewN | apply keep_drew | apply keep_alloc) | exact HK.out)) (KeepBut.of_below hb g none) (.inl rfl)); have n3_ := Aside0.mk (below_step (by repeat (first | (with_reducible first | exact HB.out | apply below_alloc | apply pw_below_drewN | apply below_drew1 | refine below_set ?_ (IsS143.ge HI0.out)) | exact HB.out)) hb); clear HI0; clear HK; clear HB; have HO103 := n0_; have HI0 := n1_; have HK := n2_; have HB := n3_; clear n0_ n1_ n2_ n3_; clear hb ho6) | ((with_reducible refine gate_callee (f := 116) rfl ?_); refine goesL_ (some 5) rfl rfl Try.func116 (by kernel_rfl) rfl #[.pointer (some ⟨g, 0, none⟩), .int .i64 5] rfl (by (try simp only [List.map_toArray, List.map_cons, List.map_nil]); first | done | rfl | (simp only [List.length_drop, List.length_take]; rfl)) ?_; (with_reducible refine (spec_l20Rd_pick.calls k g s0_0 s0_1 5 t104 t105 w0 _ ?side1 ?side2 A2.out).mono ?_); (case side1 => repeat (first | (with_reducible first | exact HI0.out | apply IsS143.alloc | apply IsS143.drewN | apply IsS143.drew | apply IsS143.set_1) | exact HI0.out)); (case side2 => repeat (first | (with_reducible first | exact HB.out | apply below_alloc | apply pw_below_drewN | apply below_drew1 | refine below_set ?_ (IsS143.ge HI0.out)) | exact HB.out)); rintro e w7 ⟨rfl, hi, hb, hk⟩; refine ⟨_, rfl, ?_⟩; have n0_ := Aside0.mk (Kd.R_mono (Kd.R_keep (IsS143.apart (show IsS143 w0 _ g s0_0 s0_1 from by repeat (first | (with_reducible first | exact HI0.out | apply IsS143.alloc | apply IsS143.drewN | apply IsS143.drew | apply IsS143.set_1) | exact HI0.out)) (by (with_reducible repeat (first | apply Kd.R_alloc | apply Kd.R_drewN | apply Kd.R_drew)); exact HO103.out) (by decide)) hk (fun _ h => h.2)) (fun _ h => h.1)); have n1_ := Aside0.mk (KeepBut.trans (by repeat (first | (with_reducible first | exact HK.out | apply KeepBut.set_ | apply keep_drewN | apply keep_drew | apply keep_alloc) | exact HK.out)) hk (.inl rfl)); have n2_ := Aside0.mk (hb); have n3_ := Aside0.mk (hi); clear HO103; clear HK; clear HB; clear HI0; have HO103 := n0_; have HK := n1_; have HB := n2_; have HI0 := n3_; clear n0_ n1_ n2_ n3_; (try clear hb); (try clear hb2); (try clear hk); (try clear hi); obtain ⟨Ao8, co8, eo8⟩ := Kd.R_slice HO103.out; subst eo8; have p106 : 0 ≤ (t104 : Int) := of_decide_eq_true (by first | (with_reducible assumption) | assumption); have q106 : t104 < (y101.length : Int) := of_decide_eq_true (by first | (with_reducible assumption) | assumption); obtain ⟨ad106, e106, hx106_0⟩ := Kd.at_string (Kd.R_reads' HO103.out).2.2 t104 p106 q106; cases e106; replace p106 := eq_true p106; replace q106 := eq_true q106))
      go_ret
      exact ⟨by first | rfl | (simp [errW_none, errW_some] <;> rfl) | (simp [*, errW_none, errW_some] <;> rfl), by repeat (first | (with_reducible first | exact HI0.out | apply IsS143.alloc | apply IsS143.drewN | apply IsS143.drew | apply IsS143.set_1) | exact HI0.out), by repeat (first | (with_reducible first | exact HB.out | apply below_alloc | apply pw_below_drewN | apply below_drew1 | refine below_set ?_ (IsS143.ge HI0.out)) | exact HB.out), by repeat (first | (with_reducible first | exact HK.out | apply KeepBut.set_ | apply keep_drewN | apply keep_drew | apply keep_alloc) | exact HK.out)⟩
    · rw [if_neg c4] at H
      exact absurd H (by simp)
  · rw [if_neg c3] at H
    exact absurd H (by simp)

end Go.Proofs.Ytgpkkkmapgnhkaa.X

namespace Go.Proofs.YtgpkkkmapgnhkaaW.PrintLast
open Go.RowKit Go.Proofs.YtgpkkkmapgnhkaaW.PrintWords
variable {P : Program} {ops : Array Oper} {Q : Exit → Act → World → Prop} {S : World → Prop} {ds : List Nat}
/-- An operation that yields in every world. -/
theorem pz_ {T : Bool × List (List Nat × List Nat)} {oi : Oper} {v : Value} {fuel : Nat} {l : Array Bool} {a : Act} {w : World} (i d : Nat) (l' : Array Bool) (hT : Aside0 (rtab .any ops = T)) (hc : anyT T l.toList l'.toList i = true) {a' : Act}
    (h : wpAnyLast P .any ops Q S ds fuel l' a' w)
    (hi : ops[i]? = some oi := by rfl) (hN : oi.dst = some d := by rfl) (hw : Region.wanted oi (yielded ops a.tmps) = true := by rfl)
    (hy : ∀ w', (execOp a.eval oi).run P w' = .ok (.value v) w' := by (intro w'; go_simp; with_reducible rfl))
    (ha : a.put (some d) v = a' := by (simp only [Act.put, List.setIfInBounds_toArray, List.set_cons_zero, List.set_cons_succ, i64_w, i32_w]; rfl))
    (hQ : ∀ c a w, Q (.panic c) (a.put oi.dst v) w → Q (.panic c) a w := by exact fun _ _ _ h => h) :
    wpAnyLast P .any ops Q S ds (fuel + 1) l a w :=
  pure_ l' hi hN (any_of hT.out hc) hQ (Or.inl ⟨hw, hy⟩) ha h
/-- An operation that reads what S says. -/
theorem tz_ {T : Bool × List (List Nat × List Nat)} {B : List Nat} {oi : Oper} {v : Value} {fuel : Nat} {l : Array Bool} {a : Act} {w : World} (i d : Nat) (l' : Array Bool) (hT : Aside0 (rtab .any ops = T)) (hB : Aside0 (waitsOk T.2 B = true)) (hc : takeW T B ds l.toList l'.toList i = true) (hS : S w) {a' : Act}
    (h : wpAnyLast P .any ops Q S ds fuel l' a' w)
    (hi : ops[i]? = some oi := by rfl) (hN : oi.dst = some d := by rfl) (hw : Region.wanted oi (yielded ops a.tmps) = true := by rfl)
    (hy : ∀ w', S w' → (execOp a.eval oi).run P w' = .ok (.value v) w' := by (intro w' hs; go_simp; with_reducible rfl))
    (ha : a.put (some d) v = a' := by (simp only [Act.put, List.setIfInBounds_toArray, List.set_cons_zero, List.set_cons_succ, i64_w, i32_w]; rfl))
    (hQ : ∀ c a w, Q (.panic c) (a.put oi.dst v) w → Q (.panic c) a w := by exact fun _ _ _ h => h) :
    wpAnyLast P .any ops Q S ds (fuel + 1) l a w :=
  take_ l' hi hN (take_ofW hT.out hB.out hc) hQ (Or.inl ⟨hw, hy⟩) hS ha h
end Go.Proofs.YtgpkkkmapgnhkaaW.PrintLast
