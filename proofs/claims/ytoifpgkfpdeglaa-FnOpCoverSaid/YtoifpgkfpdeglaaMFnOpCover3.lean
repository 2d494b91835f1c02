/- Lemmas and contracts for the law FnOpCover, part 3: of the program's functions, and over data alone. No condition. -/
import Derived.Test.YtoifpgkfpdeglaaMFnOpCover2
namespace Go.Proofs.Ytoifpgkfpdeglaa.X
open Go.RowKit Go.Proofs.YtoifpgkfpdeglaaW.PrintWords Go.Proofs.YtoifpgkfpdeglaaW.PrintLast Go.Proofs.YtoifpgkfpdeglaaW.PrintMore
attribute [local go_sem] max2_int min2_int max_two min_two max_three min_three max_four min_four
set_option linter.unusedVariables false
set_option linter.unusedSimpArgs false
section
open Go.Proofs.YtoifpgkfpdeglaaW.PrintWords.Aside0 renaming mk → yaa
open Go.Proofs.Ytoifpgkfpdeglaa.X.IsS86 renaming far → yab, alloc → yah, drewN → yai, set_1 → yaj, drew → yam, ge → yas
open Go.Proofs.YtoifpgkfpdeglaaW.PrintWords renaming below_set → yac, pw_below_drewN → yad, keep_far → yaf, keep_drewN → yak, keep_alloc → yal, below_alloc → yan, below_drew1 → yao, keep_drew → yaq, blk_put → yar
open Go.Proofs.YtoifpgkfpdeglaaW.PrintWords.KeepBut renaming set_ → yae, blk → yag, trans → yap
def spec_l20Op.j0 : Nat → Int → List Int → Int → Int → Int → Int → Int → Int → Option (Int × Int × Int × Int × Int × Int)
 | 0, _, _, _, _, _, _, _, _ => none
 | k + 1, x1, x1000, x1001, x105000, x105001, x105002, x105003, x105004 => (spec_l20Rd_odd.f k x1000 x1001 x1).bind fun bt123 => (if bt123.1 = true then ((spec_l20Rd_pick.f k x1000 bt123.2 4).bind fun bt125 => (if bt125.1 = 0 then ((some (([0, 9] : List Int) : List Int)).bind fun y127 => ((spec_l20Rd_pick.f k x1000 bt125.2 2).bind fun bt130 => (if 0 ≤ bt130.1 then (if bt130.1 < (y127.length : Int) then (some (rd y127 bt130.1, x105001, x105002, x105003, x105004, bt130.2)) else (none)) else (none)))) else (if bt125.1 = 1 then ((some (([(-1), 256] : List Int) : List Int)).bind fun y133 => ((spec_l20Rd_pick.f k x1000 bt125.2 2).bind fun bt136 => (if 0 ≤ bt136.1 then (if bt136.1 < (y133.length : Int) then (some (x105000, rd y133 bt136.1, x105002, x105003, x105004, bt136.2)) else (none)) else (none)))) else (if bt125.1 = 2 then ((some (([(-1), 256] : List Int) : List Int)).bind fun y139 => ((spec_l20Rd_pick.f k x1000 bt125.2 2).bind fun bt142 => (if 0 ≤ bt142.1 then (if bt142.1 < (y139.length : Int) then (some (x105000, x105001, x105002, rd y139 bt142.1, x105004, bt142.2)) else (none)) else (none)))) else ((some (([1, 7] : List Int) : List Int)).bind fun y145 => ((spec_l20Rd_pick.f k x1000 bt125.2 2).bind fun bt148 => (if 0 ≤ bt148.1 then (if bt148.1 < (y145.length : Int) then (some (x105000, x105001, x105002, x105003, rd y145 bt148.1, bt148.2)) else (none)) else (none)))))))) else (some (x105000, x105001, x105002, x105003, x105004, bt123.2)))
def spec_l20Op.f (k : Nat) (s0_0 : List Int) (s0_1 : Int) (a1 : Int) : Option (Int × Int × Int × Int × Int × Int) := (spec_l20Rd_pick.f k s0_0 s0_1 8).bind fun bt102 => (if (wrap64 (1 + bt102.1)) = 1 then ((spec_l20Rd_pick.f k s0_0 bt102.2 3).bind fun bt105 => ((spec_l20Rd_pick.f k s0_0 bt105.2 3).bind fun bt107 => ((spec_l20Rd_pick.f k s0_0 bt107.2 4).bind fun bt109 => ((spec_l20Rd_pick.f k s0_0 bt109.2 4).bind fun bt111 => (spec_l20Op.j0 k a1 s0_0 bt111.2 1 bt105.1 bt107.1 (wrap64 (1 + bt109.1)) (wrap64 (1 + bt111.1))))))) else (if (wrap64 (1 + bt102.1)) = 7 then ((spec_l20Rd_pick.f k s0_0 bt102.2 6).bind fun bt113 => ((spec_l20Rd_pick.f k s0_0 bt113.2 6).bind fun bt115 => (spec_l20Op.j0 k a1 s0_0 bt115.2 7 (wrap64 (1 + bt113.1)) (wrap64 (1 + bt115.1)) 0 0))) else (if (wrap64 (1 + bt102.1)) = 8 then ((spec_l20Rd_pick.f k s0_0 bt102.2 256).bind fun bt117 => ((spec_l20Rd_pick.f k s0_0 bt117.2 256).bind fun bt119 => ((spec_l20Rd_pick.f k s0_0 bt119.2 256).bind fun bt121 => (spec_l20Op.j0 k a1 s0_0 bt121.2 8 bt117.1 bt119.1 bt121.1 0)))) else (spec_l20Op.j0 k a1 s0_0 bt102.2 (wrap64 (1 + bt102.1)) 0 0 0 0))))
set_option maxHeartbeats 8000000 in
set_option maxRecDepth 100000 in
theorem spec_l20Op.calls (k : Nat) (g : Nat) (s0_0 : List Int) (s0_1 : Int) (a1 : Int) (r1 : Int) (r2 : Int) (r3 : Int) (r4 : Int) (r5 : Int) (r6 : Int) (w0 w : World) (hI : IsS86 w0 w g s0_0 s0_1) (hB : Below w0.heap.size w0 w) (h : spec_l20Op.f k s0_0 s0_1 a1 = some (r1, r2, r3, r4, r5, r6)) :
  Calls Try.prog 35 #[.pointer (some ⟨g, 0, none⟩), .int .i64 a1] w fun e w' => e = .returned (.agg #[.int .i64 r1, .int .i64 r2, .int .i64 r3, .int .i64 r4, .int .i64 r5]) ∧ IsS86 w0 w' g s0_0 r6 ∧ Below w0.heap.size w0 w' ∧ KeepBut w w' g none := by
 have hu27 := Try.underlying27; have HI0 := yaa hI; have HK := yaa (KeepBut.refl w g none); have HL := yaa hB.size; clear hI; have HW0 := yaa hB.size; have HB := yaa hB; clear hB; have H : ((spec_l20Rd_pick.f k s0_0 s0_1 8).bind fun d0 => (if (wrap64 (1 + d0.1)) = 1 then ((spec_l20Rd_pick.f k s0_0 d0.2 3).bind fun k0 => ((spec_l20Rd_pick.f k s0_0 k0.2 3).bind fun k1 => ((spec_l20Rd_pick.f k s0_0 k1.2 4).bind fun k2 => ((spec_l20Rd_pick.f k s0_0 k2.2 4).bind fun k3 => (spec_l20Op.j0 k a1 s0_0 k3.2 1 k0.1 k1.1 (wrap64 (1 + k2.1)) (wrap64 (1 + k3.1))))))) else (if (wrap64 (1 + d0.1)) = 7 then ((spec_l20Rd_pick.f k s0_0 d0.2 6).bind fun k4 => ((spec_l20Rd_pick.f k s0_0 k4.2 6).bind fun k5 => (spec_l20Op.j0 k a1 s0_0 k5.2 7 (wrap64 (1 + k4.1)) (wrap64 (1 + k5.1)) 0 0))) else (if (wrap64 (1 + d0.1)) = 8 then ((spec_l20Rd_pick.f k s0_0 d0.2 256).bind fun k6 => ((spec_l20Rd_pick.f k s0_0 k6.2 256).bind fun k7 => ((spec_l20Rd_pick.f k s0_0 k7.2 256).bind fun k8 => (spec_l20Op.j0 k a1 s0_0 k8.2 8 k6.1 k7.1 k8.1 0)))) else (spec_l20Op.j0 k a1 s0_0 d0.2 (wrap64 (1 + d0.1)) 0 0 0 0))))) = some (r1, r2, r3, r4, r5, r6) := h; clear h; obtain ⟨⟨b8, e7⟩, A3, H⟩ := bindA H; (try dsimp only at H); have HC4 := yaa H; clear H
 go_enter Try.func35, Try.ntmps35
 go_upto_block 0 with (first | ((with_reducible refine gd_ 4 rfl ?_); refine bx_ 4 rfl #[.int .i64 0, .int .i64 0, .int .i64 0, .int .i64 0, .int .i64 0] 27 ?_; intro b9 hg w5 hbox hb; replace HB := yaa (below_step (by repeat (with_reducible first | exact HB.out | apply yan | apply yad | apply yao | refine yac ?_ (yas HI0.out))) hb); have a4 := yaa (hbox); have b3 := yaa ((by rw [hg]; exact (keep_size (w := w) (g := g) (row := none) (by repeat (with_reducible first | exact HK.out | apply yae | apply yak | apply yaq | apply yal))) : w.heap.size ≤ b9)); have B9 := yaa ((Nat.le_trans HW0.out (by rw [hg]; exact (keep_size (w := w) (g := g) (row := none) (by repeat (with_reducible first | exact HK.out | apply yae | apply yak | apply yaq | apply yal))) : w.heap.size ≤ b9) : w0.heap.size ≤ b9)); replace HK := yaa (yap (by repeat (with_reducible first | exact HK.out | apply yae | apply yak | apply yaq | apply yal)) (KeepBut.of_below hb g none) (.inl rfl)); have a5 := yaa ((by rw [hg]; exact Nat.ne_of_lt (IsS86.lt (show IsS86 w0 _ g s0_0 s0_1 from by repeat (with_reducible first | exact HI0.out | apply yah | apply yai | apply yam | apply yaj))) : g ≠ b9)); replace HI0 := yaa (IsS86.below (by repeat (with_reducible first | exact HI0.out | apply yah | apply yai | apply yam | apply yaj)) hb); have b2 := yaa a5.out.symm; clear hb hbox hg) | ((with_reducible refine gc_ 44 rfl ?_); refine gl_ (some 7) rfl Try.func44 #[.pointer (some ⟨g, 0, none⟩), .int .i64 8] ?_; (with_reducible refine (spec_l20Rd_pick.calls k g s0_0 s0_1 8 b8 e7 w0 _ ?side1 ?side2 A3.out).mono ?_); (case side1 => repeat (with_reducible first | exact HI0.out | apply yah | apply yai | apply yam | apply yaj | refine yab ?_ a5.out _)); (case side2 => repeat (with_reducible first | exact HB.out | apply yan | apply yad | apply yao | refine yac ?_ (Aside0.out ‹_›) | refine yac ?_ (yas HI0.out))); rintro e w6 ⟨rfl, hi, hb, hk⟩; refine ⟨_, rfl, ?_⟩; replace a4 := yaa (yag hk (upB a4.out) b2.out (by simp)); replace HK := yaa (yap (by repeat (with_reducible first | exact HK.out | apply yae | apply yak | apply yaq | apply yal | refine yaf ?_ b3.out _)) hk (.inl rfl)); replace HB := yaa (hb); replace HI0 := yaa (hi); (try clear hb hk hi)) | ((with_reducible refine gd_ 5 rfl ?_); refine bx_ 5 rfl #[.int .i64 0, .int .i64 0, .int .i64 0, .int .i64 0, .int .i64 0] 27 ?_; intro c6 hg w7 hbox hb; replace HB := yaa (below_step (by repeat (with_reducible first | exact HB.out | apply yan | apply yad | apply yao | refine yac ?_ (Aside0.out ‹_›) | refine yac ?_ (yas HI0.out))) hb); have a6 := yaa (hbox); have b4 := yaa ((by rw [hg]; exact (keep_size (w := w) (g := g) (row := none) (by repeat (with_reducible first | exact HK.out | apply yae | apply yak | apply yaq | apply yal | refine yaf ?_ b3.out _))) : w.heap.size ≤ c6)); have C0 := yaa ((Nat.le_trans HW0.out (by rw [hg]; exact (keep_size (w := w) (g := g) (row := none) (by repeat (with_reducible first | exact HK.out | apply yae | apply yak | apply yaq | apply yal | refine yaf ?_ b3.out _))) : w.heap.size ≤ c6) : w0.heap.size ≤ c6)); replace HK := yaa (yap (by repeat (with_reducible first | exact HK.out | apply yae | apply yak | apply yaq | apply yal | refine yaf ?_ b3.out _)) (KeepBut.of_below hb g none) (.inl rfl)); have b1 := yaa ((by rw [hg]; exact Nat.ne_of_lt (blk_lt (upB a4.out)) : b9 ≠ c6)); replace a4 := yaa (blk_below (upB a4.out) hb); have b7 := yaa b1.out.symm; have a3 := yaa ((by rw [hg]; exact Nat.ne_of_lt (IsS86.lt (show IsS86 w0 _ g s0_0 e7 from by repeat (with_reducible first | exact HI0.out | apply yah | apply yai | apply yam | apply yaj | refine yab ?_ a5.out _))) : g ≠ c6)); replace HI0 := yaa (IsS86.below (by repeat (with_reducible first | exact HI0.out | apply yah | apply yai | apply yam | apply yaj | refine yab ?_ a5.out _)) hb); have b0 := yaa a3.out.symm; clear hb hbox hg; have F5 := b7.out; have F6 := b1.out; have F7 := b0.out; have F8 := a3.out; obtain ⟨f5, f6, f7, f8, f9⟩ := cc5_ a6.out; obtain ⟨g0, g1, g2, g3⟩ := cf4_ a6.out; have g4 := blk_frozen a6.out 4))
 (try simp only [Act.put, List.setIfInBounds_toArray, List.set_cons_zero, List.set_cons_succ])
 go_cut [] (fun wc => ∃ (kq : Nat) (c0 : Int) (a7 : Int) (a8 : Int) (a9 : Int) (b5 : Int) (b6 : Int), Aside0 (spec_l20Op.j0 kq a1 s0_0 c0 a7 a8 a9 b5 b6 = some (r1, r2, r3, r4, r5, r6)) ∧ Aside0 (kq ≤ k) ∧ Aside0 (wc.heap[b9]? = some (.cells #[.int .i64 0, .int .i64 0, .int .i64 0, .int .i64 0, .int .i64 0] 27 (0, 0))) ∧ Aside0 (wc.heap[c6]? = some (.cells #[.int .i64 a7, .int .i64 a8, .int .i64 a9, .int .i64 b5, .int .i64 b6] 27 (0, 0))) ∧ Aside0 (IsS86 w0 wc g s0_0 c0) ∧ Aside0 (KeepBut w wc g none) ∧ Aside0 (Below w0.heap.size w0 wc))
 case first =>
  have H := HC4.out; clear HC4
  by_cases c11 : (wrap64 (1 + b8)) = 1
  ·
   rw [if_pos c11] at H
   have d3 := beq_iff_eq.mpr c11; have k9 := bne_eq_false_iff_eq.mpr c11; clear c11
   (first | rw [d3] | (simp only [i64_w, i32_w]; rw [d3]) | skip)
   obtain ⟨⟨e8, l6⟩, A12, H⟩ := bindA H; (try dsimp only at H); obtain ⟨⟨g5, l7⟩, A13, H⟩ := bindA H; (try dsimp only at H); obtain ⟨⟨l4, l8⟩, A14, H⟩ := bindA H; (try dsimp only at H); obtain ⟨⟨l9, m0⟩, A15, H⟩ := bindA H; (try dsimp only at H); have H' := yaa H; clear H
   go_wp2_with (first | ((with_reducible refine gc_ 44 rfl ?_); refine gl_ (some 15) rfl Try.func44 #[.pointer (some ⟨g, 0, none⟩), .int .i64 3] ?_; (with_reducible refine (spec_l20Rd_pick.calls k g s0_0 e7 3 e8 l6 w0 _ ?side1 ?side2 A12.out).mono ?_); (case side1 => repeat (with_reducible first | exact HI0.out | apply yah | apply yai | apply yam | apply yaj | refine yab ?_ a5.out _ | refine yab ?_ a3.out _)); (case side2 => repeat (with_reducible first | exact HB.out | apply yan | apply yad | apply yao | refine yac ?_ (Aside0.out ‹_›) | refine yac ?_ (yas HI0.out))); rintro e w16 ⟨rfl, hi, hb, hk⟩; refine ⟨_, rfl, ?_⟩; replace a4 := yaa (yag hk (g' := b9) (o := .cells #[.int .i64 0, .int .i64 0, .int .i64 0, .int .i64 0, .int .i64 0] 27 (0, 0)) (by repeat (with_reducible first | exact a4.out | refine oneB ?_ | refine blk_far ?_ b1.out _)) b2.out (by simp)); replace a6 := yaa (yag hk (g' := c6) (o := .cells #[.int .i64 (wrap64 (1 + b8)), .int .i64 0, .int .i64 0, .int .i64 0, .int .i64 0] 27 (0, 0)) (by (repeat refine oneB ?_); refine yar (cs := #[.int .i64 (wrap64 (1 + b8)), .int .i64 0, .int .i64 0, .int .i64 0, .int .i64 0]) ?_ 4 _ rfl; refine yar (cs := #[.int .i64 (wrap64 (1 + b8)), .int .i64 0, .int .i64 0, .int .i64 0, .int .i64 0]) ?_ 3 _ rfl; refine yar (cs := #[.int .i64 (wrap64 (1 + b8)), .int .i64 0, .int .i64 0, .int .i64 0, .int .i64 0]) ?_ 2 _ rfl; refine yar (cs := #[.int .i64 (wrap64 (1 + b8)), .int .i64 0, .int .i64 0, .int .i64 0, .int .i64 0]) ?_ 1 _ rfl; refine yar (cs := #[.int .i64 0, .int .i64 0, .int .i64 0, .int .i64 0, .int .i64 0]) ?_ 0 _ rfl; exact upB a6.out) b0.out (by simp)); replace HK := yaa (yap (by repeat (with_reducible first | exact HK.out | apply yae | apply yak | apply yaq | apply yal | refine yaf ?_ b3.out _ | refine yaf ?_ b4.out _)) hk (.inl rfl)); replace HB := yaa (hb); replace HI0 := yaa (hi); (try clear hb hk hi)) | ((with_reducible refine gc_ 44 rfl ?_); refine gl_ (some 17) rfl Try.func44 #[.pointer (some ⟨g, 0, none⟩), .int .i64 3] ?_; (with_reducible refine (spec_l20Rd_pick.calls k g s0_0 l6 3 g5 l7 w0 _ ?side1 ?side2 A13.out).mono ?_); (case side1 => repeat (with_reducible first | exact HI0.out | apply yah | apply yai | apply yam | apply yaj | refine yab ?_ a5.out _ | refine yab ?_ a3.out _)); (case side2 => repeat (with_reducible first | exact HB.out | apply yan | apply yad | apply yao | refine yac ?_ (Aside0.out ‹_›) | refine yac ?_ (yas HI0.out))); rintro e w17 ⟨rfl, hi, hb, hk⟩; refine ⟨_, rfl, ?_⟩; replace a4 := yaa (yag hk (upB a4.out) b2.out (by simp)); replace a6 := yaa (yag hk (upB a6.out) b0.out (by simp)); replace HK := yaa (yap (by repeat (with_reducible first | exact HK.out | apply yae | apply yak | apply yaq | apply yal | refine yaf ?_ b3.out _ | refine yaf ?_ b4.out _)) hk (.inl rfl)); replace HB := yaa (hb); replace HI0 := yaa (hi); (try clear hb hk hi)) | ((with_reducible refine gc_ 44 rfl ?_); refine gl_ (some 19) rfl Try.func44 #[.pointer (some ⟨g, 0, none⟩), .int .i64 4] ?_; (with_reducible refine (spec_l20Rd_pick.calls k g s0_0 l7 4 l4 l8 w0 _ ?side1 ?side2 A14.out).mono ?_); (case side1 => repeat (with_reducible first | exact HI0.out | apply yah | apply yai | apply yam | apply yaj | refine yab ?_ a5.out _ | refine yab ?_ a3.out _)); (case side2 => repeat (with_reducible first | exact HB.out | apply yan | apply yad | apply yao | refine yac ?_ (Aside0.out ‹_›) | refine yac ?_ (yas HI0.out))); rintro e w18 ⟨rfl, hi, hb, hk⟩; refine ⟨_, rfl, ?_⟩; replace a4 := yaa (yag hk (upB a4.out) b2.out (by simp)); replace a6 := yaa (yag hk (upB a6.out) b0.out (by simp)); replace HK := yaa (yap (by repeat (with_reducible first | exact HK.out | apply yae | apply yak | apply yaq | apply yal | refine yaf ?_ b3.out _ | refine yaf ?_ b4.out _)) hk (.inl rfl)); replace HB := yaa (hb); replace HI0 := yaa (hi); (try clear hb hk hi)) | ((with_reducible refine gc_ 44 rfl ?_); refine gl_ (some 22) rfl Try.func44 #[.pointer (some ⟨g, 0, none⟩), .int .i64 4] ?_; (with_reducible refine (spec_l20Rd_pick.calls k g s0_0 l8 4 l9 m0 w0 _ ?side1 ?side2 A15.out).mono ?_); (case side1 => repeat (with_reducible first | exact HI0.out | apply yah | apply yai | apply yam | apply yaj | refine yab ?_ a5.out _ | refine yab ?_ a3.out _)); (case side2 => repeat (with_reducible first | exact HB.out | apply yan | apply yad | apply yao | refine yac ?_ (Aside0.out ‹_›) | refine yac ?_ (yas HI0.out))); rintro e w19 ⟨rfl, hi, hb, hk⟩; refine ⟨_, rfl, ?_⟩; replace a4 := yaa (yag hk (upB a4.out) b2.out (by simp)); replace a6 := yaa (yag hk (upB a6.out) b0.out (by simp)); replace HK := yaa (yap (by repeat (with_reducible first | exact HK.out | apply yae | apply yak | apply yaq | apply yal | refine yaf ?_ b3.out _ | refine yaf ?_ b4.out _)) hk (.inl rfl)); replace HB := yaa (hb); replace HI0 := yaa (hi); (try clear hb hk hi); have C1 := b7.out; have C2 := b1.out; have C3 := b0.out; have C4 := a3.out; obtain ⟨g6, g7, g8, g9, h0⟩ := cc5_ a6.out; obtain ⟨h1, h2, h3, h4⟩ := cf4_ a6.out; have h5 := blk_frozen a6.out 4))
   go_meet
   case rel => exact ⟨_, (m0), (1), (e8), (g5), (wrap64 (1 + l4)), (wrap64 (1 + l9)), H', ⟨by first | omega | exact Nat.le_refl _⟩, ⟨by repeat (with_reducible first | exact a4.out | refine oneB ?_ | refine blk_far ?_ b1.out _)⟩, ⟨by (repeat refine oneB ?_); refine yar (cs := #[.int .i64 1, .int .i64 e8, .int .i64 g5, .int .i64 (wrap64 (1 + l4)), .int .i64 0]) ?_ 4 _ rfl; refine yar (cs := #[.int .i64 1, .int .i64 e8, .int .i64 g5, .int .i64 0, .int .i64 0]) ?_ 3 _ rfl; refine yar (cs := #[.int .i64 1, .int .i64 e8, .int .i64 0, .int .i64 0, .int .i64 0]) ?_ 2 _ rfl; refine yar (cs := #[.int .i64 1, .int .i64 0, .int .i64 0, .int .i64 0, .int .i64 0]) ?_ 1 _ rfl; refine yar (cs := #[.int .i64 (wrap64 (1 + b8)), .int .i64 0, .int .i64 0, .int .i64 0, .int .i64 0]) ?_ 0 _ rfl; exact upB a6.out⟩, ⟨by repeat (with_reducible first | exact HI0.out | apply yah | apply yai | apply yam | apply yaj | refine yab ?_ a5.out _ | refine yab ?_ a3.out _)⟩, ⟨by repeat (with_reducible first | exact HK.out | apply yae | apply yak | apply yaq | apply yal | refine yaf ?_ b3.out _ | refine yaf ?_ b4.out _)⟩, ⟨by repeat (with_reducible first | exact HB.out | apply yan | apply yad | apply yao | refine yac ?_ (Aside0.out ‹_›) | refine yac ?_ (yas HI0.out))⟩⟩
  rw [if_neg c11] at H
  have d3 := beq_eq_false_iff_ne.mpr c11; have k9 := bne_iff_ne.mpr c11
  (first | rw [d3] | (simp only [i64_w, i32_w]; rw [d3]) | skip)
  by_cases c23 : (wrap64 (1 + b8)) = 7
  ·
   rw [if_pos c23] at H
   have l0 := beq_iff_eq.mpr c23; have l1 := bne_eq_false_iff_eq.mpr c23; clear c23; obtain ⟨⟨e9, m1⟩, A24, H⟩ := bindA H; (try dsimp only at H); obtain ⟨⟨h6, m2⟩, A25, H⟩ := bindA H; (try dsimp only at H); have H' := yaa H; clear H
   go_wp2_with (first | ((with_reducible refine gc_ 44 rfl ?_); refine gl_ (some 28) rfl Try.func44 #[.pointer (some ⟨g, 0, none⟩), .int .i64 6] ?_; (with_reducible refine (spec_l20Rd_pick.calls k g s0_0 e7 6 e9 m1 w0 _ ?side1 ?side2 A24.out).mono ?_); (case side1 => repeat (with_reducible first | exact HI0.out | apply yah | apply yai | apply yam | apply yaj | refine yab ?_ a5.out _ | refine yab ?_ a3.out _)); (case side2 => repeat (with_reducible first | exact HB.out | apply yan | apply yad | apply yao | refine yac ?_ (Aside0.out ‹_›) | refine yac ?_ (yas HI0.out))); rintro e w26 ⟨rfl, hi, hb, hk⟩; refine ⟨_, rfl, ?_⟩; replace a4 := yaa (yag hk (g' := b9) (o := .cells #[.int .i64 0, .int .i64 0, .int .i64 0, .int .i64 0, .int .i64 0] 27 (0, 0)) (by repeat (with_reducible first | exact a4.out | refine oneB ?_ | refine blk_far ?_ b1.out _)) b2.out (by simp)); replace a6 := yaa (yag hk (g' := c6) (o := .cells #[.int .i64 (wrap64 (1 + b8)), .int .i64 0, .int .i64 0, .int .i64 0, .int .i64 0] 27 (0, 0)) (by (repeat refine oneB ?_); refine yar (cs := #[.int .i64 (wrap64 (1 + b8)), .int .i64 0, .int .i64 0, .int .i64 0, .int .i64 0]) ?_ 4 _ rfl; refine yar (cs := #[.int .i64 (wrap64 (1 + b8)), .int .i64 0, .int .i64 0, .int .i64 0, .int .i64 0]) ?_ 3 _ rfl; refine yar (cs := #[.int .i64 (wrap64 (1 + b8)), .int .i64 0, .int .i64 0, .int .i64 0, .int .i64 0]) ?_ 2 _ rfl; refine yar (cs := #[.int .i64 (wrap64 (1 + b8)), .int .i64 0, .int .i64 0, .int .i64 0, .int .i64 0]) ?_ 1 _ rfl; refine yar (cs := #[.int .i64 0, .int .i64 0, .int .i64 0, .int .i64 0, .int .i64 0]) ?_ 0 _ rfl; exact upB a6.out) b0.out (by simp)); replace HK := yaa (yap (by repeat (with_reducible first | exact HK.out | apply yae | apply yak | apply yaq | apply yal | refine yaf ?_ b3.out _ | refine yaf ?_ b4.out _)) hk (.inl rfl)); replace HB := yaa (hb); replace HI0 := yaa (hi); (try clear hb hk hi)) | ((with_reducible refine gc_ 44 rfl ?_); refine gl_ (some 31) rfl Try.func44 #[.pointer (some ⟨g, 0, none⟩), .int .i64 6] ?_; (with_reducible refine (spec_l20Rd_pick.calls k g s0_0 m1 6 h6 m2 w0 _ ?side1 ?side2 A25.out).mono ?_); (case side1 => repeat (with_reducible first | exact HI0.out | apply yah | apply yai | apply yam | apply yaj | refine yab ?_ a5.out _ | refine yab ?_ a3.out _)); (case side2 => repeat (with_reducible first | exact HB.out | apply yan | apply yad | apply yao | refine yac ?_ (Aside0.out ‹_›) | refine yac ?_ (yas HI0.out))); rintro e w27 ⟨rfl, hi, hb, hk⟩; refine ⟨_, rfl, ?_⟩; replace a4 := yaa (yag hk (upB a4.out) b2.out (by simp)); replace a6 := yaa (yag hk (upB a6.out) b0.out (by simp)); replace HK := yaa (yap (by repeat (with_reducible first | exact HK.out | apply yae | apply yak | apply yaq | apply yal | refine yaf ?_ b3.out _ | refine yaf ?_ b4.out _)) hk (.inl rfl)); replace HB := yaa (hb); replace HI0 := yaa (hi); (try clear hb hk hi); have C5 := b7.out; have C6 := b1.out; have C7 := b0.out; have C8 := a3.out; obtain ⟨h7, h8, h9, i0, i1⟩ := cc5_ a6.out; obtain ⟨i2, i3, i4, i5⟩ := cf4_ a6.out; have i6 := blk_frozen a6.out 4))
   go_meet
   case rel => exact ⟨_, (m2), (7), (wrap64 (1 + e9)), (wrap64 (1 + h6)), (0), (0), H', ⟨by first | omega | exact Nat.le_refl _⟩, ⟨by repeat (with_reducible first | exact a4.out | refine oneB ?_ | refine blk_far ?_ b1.out _)⟩, ⟨by (repeat refine oneB ?_); refine yar (cs := #[.int .i64 7, .int .i64 (wrap64 (1 + e9)), .int .i64 (wrap64 (1 + h6)), .int .i64 0, .int .i64 0]) ?_ 4 _ rfl; refine yar (cs := #[.int .i64 7, .int .i64 (wrap64 (1 + e9)), .int .i64 (wrap64 (1 + h6)), .int .i64 0, .int .i64 0]) ?_ 3 _ rfl; refine yar (cs := #[.int .i64 7, .int .i64 (wrap64 (1 + e9)), .int .i64 0, .int .i64 0, .int .i64 0]) ?_ 2 _ rfl; refine yar (cs := #[.int .i64 7, .int .i64 0, .int .i64 0, .int .i64 0, .int .i64 0]) ?_ 1 _ rfl; refine yar (cs := #[.int .i64 (wrap64 (1 + b8)), .int .i64 0, .int .i64 0, .int .i64 0, .int .i64 0]) ?_ 0 _ rfl; exact upB a6.out⟩, ⟨by repeat (with_reducible first | exact HI0.out | apply yah | apply yai | apply yam | apply yaj | refine yab ?_ a5.out _ | refine yab ?_ a3.out _)⟩, ⟨by repeat (with_reducible first | exact HK.out | apply yae | apply yak | apply yaq | apply yal | refine yaf ?_ b3.out _ | refine yaf ?_ b4.out _)⟩, ⟨by repeat (with_reducible first | exact HB.out | apply yan | apply yad | apply yao | refine yac ?_ (Aside0.out ‹_›) | refine yac ?_ (yas HI0.out))⟩⟩
  rw [if_neg c23] at H
  have l0 := beq_eq_false_iff_ne.mpr c23; have l1 := bne_iff_ne.mpr c23
  by_cases c31 : (wrap64 (1 + b8)) = 8
  ·
   rw [if_pos c31] at H
   have l2 := beq_iff_eq.mpr c31; have l3 := bne_eq_false_iff_eq.mpr c31; clear c31; obtain ⟨⟨f0, m3⟩, A32, H⟩ := bindA H; (try dsimp only at H); obtain ⟨⟨i7, m4⟩, A33, H⟩ := bindA H; (try dsimp only at H); obtain ⟨⟨l5, m5⟩, A34, H⟩ := bindA H; (try dsimp only at H); have H' := yaa H; clear H
   go_wp2_with (first | ((with_reducible refine gc_ 44 rfl ?_); refine gl_ (some 37) rfl Try.func44 #[.pointer (some ⟨g, 0, none⟩), .int .i64 256] ?_; (with_reducible refine (spec_l20Rd_pick.calls k g s0_0 e7 256 f0 m3 w0 _ ?side1 ?side2 A32.out).mono ?_); (case side1 => repeat (with_reducible first | exact HI0.out | apply yah | apply yai | apply yam | apply yaj | refine yab ?_ a5.out _ | refine yab ?_ a3.out _)); (case side2 => repeat (with_reducible first | exact HB.out | apply yan | apply yad | apply yao | refine yac ?_ (Aside0.out ‹_›) | refine yac ?_ (yas HI0.out))); rintro e w35 ⟨rfl, hi, hb, hk⟩; refine ⟨_, rfl, ?_⟩; replace a4 := yaa (yag hk (g' := b9) (o := .cells #[.int .i64 0, .int .i64 0, .int .i64 0, .int .i64 0, .int .i64 0] 27 (0, 0)) (by repeat (with_reducible first | exact a4.out | refine oneB ?_ | refine blk_far ?_ b1.out _)) b2.out (by simp)); replace a6 := yaa (yag hk (g' := c6) (o := .cells #[.int .i64 (wrap64 (1 + b8)), .int .i64 0, .int .i64 0, .int .i64 0, .int .i64 0] 27 (0, 0)) (by (repeat refine oneB ?_); refine yar (cs := #[.int .i64 (wrap64 (1 + b8)), .int .i64 0, .int .i64 0, .int .i64 0, .int .i64 0]) ?_ 4 _ rfl; refine yar (cs := #[.int .i64 (wrap64 (1 + b8)), .int .i64 0, .int .i64 0, .int .i64 0, .int .i64 0]) ?_ 3 _ rfl; refine yar (cs := #[.int .i64 (wrap64 (1 + b8)), .int .i64 0, .int .i64 0, .int .i64 0, .int .i64 0]) ?_ 2 _ rfl; refine yar (cs := #[.int .i64 (wrap64 (1 + b8)), .int .i64 0, .int .i64 0, .int .i64 0, .int .i64 0]) ?_ 1 _ rfl; refine yar (cs := #[.int .i64 0, .int .i64 0, .int .i64 0, .int .i64 0, .int .i64 0]) ?_ 0 _ rfl; exact upB a6.out) b0.out (by simp)); replace HK := yaa (yap (by repeat (with_reducible first | exact HK.out | apply yae | apply yak | apply yaq | apply yal | refine yaf ?_ b3.out _ | refine yaf ?_ b4.out _)) hk (.inl rfl)); replace HB := yaa (hb); replace HI0 := yaa (hi); (try clear hb hk hi)) | ((with_reducible refine gc_ 44 rfl ?_); refine gl_ (some 39) rfl Try.func44 #[.pointer (some ⟨g, 0, none⟩), .int .i64 256] ?_; (with_reducible refine (spec_l20Rd_pick.calls k g s0_0 m3 256 i7 m4 w0 _ ?side1 ?side2 A33.out).mono ?_); (case side1 => repeat (with_reducible first | exact HI0.out | apply yah | apply yai | apply yam | apply yaj | refine yab ?_ a5.out _ | refine yab ?_ a3.out _)); (case side2 => repeat (with_reducible first | exact HB.out | apply yan | apply yad | apply yao | refine yac ?_ (Aside0.out ‹_›) | refine yac ?_ (yas HI0.out))); rintro e w36 ⟨rfl, hi, hb, hk⟩; refine ⟨_, rfl, ?_⟩; replace a4 := yaa (yag hk (upB a4.out) b2.out (by simp)); replace a6 := yaa (yag hk (upB a6.out) b0.out (by simp)); replace HK := yaa (yap (by repeat (with_reducible first | exact HK.out | apply yae | apply yak | apply yaq | apply yal | refine yaf ?_ b3.out _ | refine yaf ?_ b4.out _)) hk (.inl rfl)); replace HB := yaa (hb); replace HI0 := yaa (hi); (try clear hb hk hi)) | ((with_reducible refine gc_ 44 rfl ?_); refine gl_ (some 41) rfl Try.func44 #[.pointer (some ⟨g, 0, none⟩), .int .i64 256] ?_; (with_reducible refine (spec_l20Rd_pick.calls k g s0_0 m4 256 l5 m5 w0 _ ?side1 ?side2 A34.out).mono ?_); (case side1 => repeat (with_reducible first | exact HI0.out | apply yah | apply yai | apply yam | apply yaj | refine yab ?_ a5.out _ | refine yab ?_ a3.out _)); (case side2 => repeat (with_reducible first | exact HB.out | apply yan | apply yad | apply yao | refine yac ?_ (Aside0.out ‹_›) | refine yac ?_ (yas HI0.out))); rintro e w37 ⟨rfl, hi, hb, hk⟩; refine ⟨_, rfl, ?_⟩; replace a4 := yaa (yag hk (upB a4.out) b2.out (by simp)); replace a6 := yaa (yag hk (upB a6.out) b0.out (by simp)); replace HK := yaa (yap (by repeat (with_reducible first | exact HK.out | apply yae | apply yak | apply yaq | apply yal | refine yaf ?_ b3.out _ | refine yaf ?_ b4.out _)) hk (.inl rfl)); replace HB := yaa (hb); replace HI0 := yaa (hi); (try clear hb hk hi); have C9 := b7.out; have D0 := b1.out; have D1 := b0.out; have D2 := a3.out; obtain ⟨i8, i9, j1, j2, j3⟩ := cc5_ a6.out; obtain ⟨j4, j5, j6, j7⟩ := cf4_ a6.out; have j8 := blk_frozen a6.out 4))
   go_meet
   case rel => exact ⟨_, (m5), (8), (f0), (i7), (l5), (0), H', ⟨by first | omega | exact Nat.le_refl _⟩, ⟨by repeat (with_reducible first | exact a4.out | refine oneB ?_ | refine blk_far ?_ b1.out _)⟩, ⟨by (repeat refine oneB ?_); refine yar (cs := #[.int .i64 8, .int .i64 f0, .int .i64 i7, .int .i64 l5, .int .i64 0]) ?_ 4 _ rfl; refine yar (cs := #[.int .i64 8, .int .i64 f0, .int .i64 i7, .int .i64 0, .int .i64 0]) ?_ 3 _ rfl; refine yar (cs := #[.int .i64 8, .int .i64 f0, .int .i64 0, .int .i64 0, .int .i64 0]) ?_ 2 _ rfl; refine yar (cs := #[.int .i64 8, .int .i64 0, .int .i64 0, .int .i64 0, .int .i64 0]) ?_ 1 _ rfl; refine yar (cs := #[.int .i64 (wrap64 (1 + b8)), .int .i64 0, .int .i64 0, .int .i64 0, .int .i64 0]) ?_ 0 _ rfl; exact upB a6.out⟩, ⟨by repeat (with_reducible first | exact HI0.out | apply yah | apply yai | apply yam | apply yaj | refine yab ?_ a5.out _ | refine yab ?_ a3.out _)⟩, ⟨by repeat (with_reducible first | exact HK.out | apply yae | apply yak | apply yaq | apply yal | refine yaf ?_ b3.out _ | refine yaf ?_ b4.out _)⟩, ⟨by repeat (with_reducible first | exact HB.out | apply yan | apply yad | apply yao | refine yac ?_ (Aside0.out ‹_›) | refine yac ?_ (yas HI0.out))⟩⟩
  rw [if_neg c31] at H
  have l2 := beq_eq_false_iff_ne.mpr c31; have l3 := bne_iff_ne.mpr c31; have H' := yaa H; clear H
  go_wp2
  go_meet
  case rel => exact ⟨_, (e7), (wrap64 (1 + b8)), (0), (0), (0), (0), H', ⟨by first | omega | exact Nat.le_refl _⟩, ⟨by repeat (with_reducible first | exact a4.out | refine oneB ?_ | refine blk_far ?_ b1.out _)⟩, ⟨by (repeat refine oneB ?_); refine yar (cs := #[.int .i64 (wrap64 (1 + b8)), .int .i64 0, .int .i64 0, .int .i64 0, .int .i64 0]) ?_ 4 _ rfl; refine yar (cs := #[.int .i64 (wrap64 (1 + b8)), .int .i64 0, .int .i64 0, .int .i64 0, .int .i64 0]) ?_ 3 _ rfl; refine yar (cs := #[.int .i64 (wrap64 (1 + b8)), .int .i64 0, .int .i64 0, .int .i64 0, .int .i64 0]) ?_ 2 _ rfl; refine yar (cs := #[.int .i64 (wrap64 (1 + b8)), .int .i64 0, .int .i64 0, .int .i64 0, .int .i64 0]) ?_ 1 _ rfl; refine yar (cs := #[.int .i64 0, .int .i64 0, .int .i64 0, .int .i64 0, .int .i64 0]) ?_ 0 _ rfl; exact upB a6.out⟩, ⟨by repeat (with_reducible first | exact HI0.out | apply yah | apply yai | apply yam | apply yaj | refine yab ?_ a5.out _ | refine yab ?_ a3.out _)⟩, ⟨by repeat (with_reducible first | exact HK.out | apply yae | apply yak | apply yaq | apply yal | refine yaf ?_ b3.out _ | refine yaf ?_ b4.out _)⟩, ⟨by repeat (with_reducible first | exact HB.out | apply yan | apply yad | apply yao | refine yac ?_ (Aside0.out ‹_›) | refine yac ?_ (yas HI0.out))⟩⟩
 case rest =>
  clear HC4; (try clear c1); (try clear c2); (try clear p2); (try clear c3); (try clear c4); (try clear p6); (try clear c8); (try clear c9); (try clear c11); (try clear d3); (try clear k9); (try clear c20); (try clear c21); (try clear c23); (try clear l0); (try clear l1); (try clear c28); (try clear c29); (try clear c31); (try clear l2); (try clear l3); (try clear c35); (try clear c38); (try clear c39); (try clear f5); (try clear f6); (try clear f7); (try clear f8); (try clear f9); (try clear g6); (try clear g7); (try clear g8); (try clear g9); (try clear h0); (try clear h7); (try clear h8); (try clear h9); (try clear i0); (try clear i1); (try clear i8); (try clear i9); (try clear j1); (try clear j2); (try clear j3); (try clear g0); (try clear g1); (try clear g2); (try clear g3); (try clear g4); (try clear h1); (try clear h2); (try clear h3); (try clear h4); (try clear h5); (try clear i2); (try clear i3); (try clear i4); (try clear i5); (try clear i6); (try clear j4); (try clear j5); (try clear j6); (try clear j7); (try clear j8); obtain ⟨kq, c0, a7, a8, a9, b5, b6, HA, HJ3, a4, a6, HI0, HK, HB⟩ := hcut
  cases kq with
  | zero => exact absurd HA.out (by simp [spec_l20Op.j0])
  | succ kj3 =>
   have H := HA.out; clear HA
   simp only [spec_l20Op.j0] at H
   obtain ⟨⟨z7, d4⟩, A41, H⟩ := bindA H; (try dsimp only at H)
   by_cases c42 : z7 = true
   rotate_left
   ·
    replace c42 := Bool.eq_false_iff.mpr c42
    subst c42
    rw [if_neg (show ¬ (false = true) by decide)] at H
    simp only [Option.some.injEq, Prod.mk.injEq] at H
    obtain ⟨rfl, rfl, rfl, rfl, rfl, rfl⟩ := H
    go_wp2_with (first | ((with_reducible refine gc_ 58 rfl ?_); refine gl_ (some 45) rfl Try.func58 #[.pointer (some ⟨g, 0, none⟩), .int .i64 a1] ?_; (with_reducible refine (spec_l20Rd_odd.calls kj3 g s0_0 c0 a1 false d4 w0 _ ?side1 ?side2 A41.out).mono ?_); (case side1 => repeat (with_reducible first | exact HI0.out | apply yah | apply yai | apply yam | apply yaj | refine yab ?_ a5.out _ | refine yab ?_ a3.out _)); (case side2 => repeat (with_reducible first | exact HB.out | apply yan | apply yad | apply yao | refine yac ?_ (Aside0.out ‹_›) | refine yac ?_ (yas HI0.out))); rintro e w103 ⟨rfl, hi, hb, hk⟩; refine ⟨_, rfl, ?_⟩; replace a4 := yaa (yag hk (upB a4.out) b2.out (by simp)); replace a6 := yaa (yag hk (upB a6.out) b0.out (by simp)); replace HK := yaa (yap (by repeat (with_reducible first | exact HK.out | apply yae | apply yak | apply yaq | apply yal | refine yaf ?_ b3.out _ | refine yaf ?_ b4.out _)) hk (.inl rfl)); replace HB := yaa (hb); replace HI0 := yaa (hi); (try clear hb hk hi); have B3 := b7.out; have B4 := b1.out; have B5 := b0.out; have B6 := a3.out; obtain ⟨p3, p4, p5, p7, p8⟩ := cc5_ a6.out; obtain ⟨p9, q0, q1, q2, q3⟩ := cf5_ a6.out; have B7 := b2.out; have B8 := a5.out; obtain ⟨q4, q5, q6, q7, q8⟩ := cc5_ a4.out; obtain ⟨q9, r0, r7, r8⟩ := cf4_ a4.out; have r9 := blk_frozen a4.out 4))
    refine bodyPost_ret (results_cell_row rfl _ _ b9 27 #[.int .i64 a7, .int .i64 a8, .int .i64 a9, .int .i64 b5, .int .i64 b6] (0, 0) _ rfl (by (repeat refine oneB ?_); refine yar (cs := #[.int .i64 a7, .int .i64 a8, .int .i64 a9, .int .i64 b5, .int .i64 0]) ?_ 4 _ rfl; refine yar (cs := #[.int .i64 a7, .int .i64 a8, .int .i64 a9, .int .i64 0, .int .i64 0]) ?_ 3 _ rfl; refine yar (cs := #[.int .i64 a7, .int .i64 a8, .int .i64 0, .int .i64 0, .int .i64 0]) ?_ 2 _ rfl; refine yar (cs := #[.int .i64 a7, .int .i64 0, .int .i64 0, .int .i64 0, .int .i64 0]) ?_ 1 _ rfl; refine yar (cs := #[.int .i64 0, .int .i64 0, .int .i64 0, .int .i64 0, .int .i64 0]) ?_ 0 _ rfl; exact upB a4.out) Try.underlying27 rfl (by kernel_rfl)) rfl ?_
    exact ⟨by first | rfl | (simp [*, errW_none, errW_some] <;> rfl), by repeat (with_reducible first | exact HI0.out | apply yah | apply yai | apply yam | apply yaj | refine yab ?_ a5.out _ | refine yab ?_ a3.out _), by repeat (with_reducible first | exact HB.out | apply yan | apply yad | apply yao | refine yac ?_ (Aside0.out ‹_›) | refine yac ?_ (yas HI0.out)), by repeat (with_reducible first | exact HK.out | apply yae | apply yak | apply yaq | apply yal | refine yaf ?_ b3.out _ | refine yaf ?_ b4.out _)⟩
   subst c42
   rw [if_pos rfl] at H
   obtain ⟨⟨d7, c5⟩, A43, H⟩ := bindA H; (try dsimp only at H)
   by_cases c44 : d7 = 0
   ·
    rw [if_pos c44] at H
    have m6 := beq_iff_eq.mpr c44; have m7 := bne_eq_false_iff_eq.mpr c44; clear c44; obtain ⟨y127, hy127⟩ : ∃ y_ : List Int, y_ = (([0, 9] : List Int)) := ⟨_, rfl⟩
    replace H : ((spec_l20Rd_pick.f kj3 s0_0 c5 2).bind fun d9 => (if 0 ≤ d9.1 then (if d9.1 < (y127.length : Int) then (some (rd y127 d9.1, a8, a9, b5, b6, d9.2)) else (none)) else (none))) = some (r1, r2, r3, r4, r5, r6) := by first | (rw [hy127]; with_reducible exact H) | (have H2_ := (Option.bind_some _ _).symm.trans H; rw [hy127]; with_reducible exact H2_) | (have H2_ := (Option.bind_some _ _).symm.trans H; with_reducible exact H2_) | with_reducible exact H | (rw [hy127]; exact H) | exact H
    have Ny127 := yaa hy127; clear hy127; obtain ⟨⟨d1, z8⟩, A45, H⟩ := bindA H; (try dsimp only at H)
    by_cases c46 : 0 ≤ d1
    ·
     rw [if_pos c46] at H
     replace c46 := decide_eq_true c46
     by_cases c47 : d1 < (y127.length : Int)
     ·
      rw [if_pos c47] at H
      replace c47 := decide_eq_true c47
      simp only [Option.some.injEq, Prod.mk.injEq] at H
      obtain ⟨rfl, rfl, rfl, rfl, rfl, rfl⟩ := H
      go_wp2_with (first | ((with_reducible refine gc_ 58 rfl ?_); refine gl_ (some 45) rfl Try.func58 #[.pointer (some ⟨g, 0, none⟩), .int .i64 a1] ?_; (with_reducible refine (spec_l20Rd_odd.calls kj3 g s0_0 c0 a1 true d4 w0 _ ?side1 ?side2 A41.out).mono ?_); (case side1 => repeat (with_reducible first | exact HI0.out | apply yah | apply yai | apply yam | apply yaj | refine yab ?_ a5.out _ | refine yab ?_ a3.out _)); (case side2 => repeat (with_reducible first | exact HB.out | apply yan | apply yad | apply yao | refine yac ?_ (Aside0.out ‹_›) | refine yac ?_ (yas HI0.out))); rintro e w48 ⟨rfl, hi, hb, hk⟩; refine ⟨_, rfl, ?_⟩; replace a4 := yaa (yag hk (upB a4.out) b2.out (by simp)); replace a6 := yaa (yag hk (upB a6.out) b0.out (by simp)); replace HK := yaa (yap (by repeat (with_reducible first | exact HK.out | apply yae | apply yak | apply yaq | apply yal | refine yaf ?_ b3.out _ | refine yaf ?_ b4.out _)) hk (.inl rfl)); replace HB := yaa (hb); replace HI0 := yaa (hi); (try clear hb hk hi)) | ((with_reducible refine gc_ 44 rfl ?_); refine gl_ (some 47) rfl Try.func44 #[.pointer (some ⟨g, 0, none⟩), .int .i64 4] ?_; (with_reducible refine (spec_l20Rd_pick.calls kj3 g s0_0 d4 4 d7 c5 w0 _ ?side1 ?side2 A43.out).mono ?_); (case side1 => repeat (with_reducible first | exact HI0.out | apply yah | apply yai | apply yam | apply yaj | refine yab ?_ a5.out _ | refine yab ?_ a3.out _)); (case side2 => repeat (with_reducible first | exact HB.out | apply yan | apply yad | apply yao | refine yac ?_ (Aside0.out ‹_›) | refine yac ?_ (yas HI0.out))); rintro e w49 ⟨rfl, hi, hb, hk⟩; refine ⟨_, rfl, ?_⟩; replace a4 := yaa (yag hk (upB a4.out) b2.out (by simp)); replace a6 := yaa (yag hk (upB a6.out) b0.out (by simp)); replace HK := yaa (yap (by repeat (with_reducible first | exact HK.out | apply yae | apply yak | apply yaq | apply yal | refine yaf ?_ b3.out _ | refine yaf ?_ b4.out _)) hk (.inl rfl)); replace HB := yaa (hb); replace HI0 := yaa (hi); (try clear hb hk hi)) | ((with_reducible refine gd_ 56 rfl ?_); refine Kd.R_lit (Kd.int .i64) _ 3 ?hg (N := 56) ?hd (xs := ([0, 9] : List Int)) (inner := [.int .i64 0, .int .i64 9]) (ok := fun _ => True) (okp := fun _ => True) ?hr ?hp (fun _ hk => hk) trivial (Below.refl _ _) (Nat.le_refl _) (by simp) ?_; (case hd => rfl); (case hg => rfl); (case hr => first | (go_simp; done) | (go_simp; rfl)); (case hp => exact (Reps.one (show Kd.M (Kd.int .i64) _ _ _ 0 [.int .i64 0] from rfl) (Reps.one (show Kd.M (Kd.int .i64) _ _ _ 9 [.int .i64 9] from rfl) (Reps.none _ _)))); intro F9 w50 f1 hb hg_ hnew_; clear hg_ hnew_; (first | rw [← Ny127.out] at f1 | (simp only [Int.reduceToNat] at f1; rw [← Ny127.out] at f1)); have e0 := yaa (Kd.R_lower f1 (keep_size (w := w) (g := g) (row := none) (by repeat (with_reducible first | exact HK.out | apply yae | apply yak | apply yaq | apply yal | refine yaf ?_ b3.out _ | refine yaf ?_ b4.out _)))); replace a4 := yaa (blk_below (upB a4.out) hb); replace a6 := yaa (blk_below (upB a6.out) hb); replace HK := yaa (yap (by repeat (with_reducible first | exact HK.out | apply yae | apply yak | apply yaq | apply yal | refine yaf ?_ b3.out _ | refine yaf ?_ b4.out _)) (KeepBut.of_below hb g none) (.inl rfl)); replace HB := yaa (below_step (by repeat (with_reducible first | exact HB.out | apply yan | apply yad | apply yao | refine yac ?_ (Aside0.out ‹_›) | refine yac ?_ (yas HI0.out))) hb); replace HI0 := yaa (IsS86.below (by repeat (with_reducible first | exact HI0.out | apply yah | apply yai | apply yam | apply yaj | refine yab ?_ a5.out _ | refine yab ?_ a3.out _)) hb); clear hb f1) | ((with_reducible refine gc_ 44 rfl ?_); refine gl_ (some 58) rfl Try.func44 #[.pointer (some ⟨g, 0, none⟩), .int .i64 2] ?_; (with_reducible refine (spec_l20Rd_pick.calls kj3 g s0_0 c5 2 d1 z8 w0 _ ?side1 ?side2 A45.out).mono ?_); (case side1 => repeat (with_reducible first | exact HI0.out | apply yah | apply yai | apply yam | apply yaj | refine yab ?_ a5.out _ | refine yab ?_ a3.out _)); (case side2 => repeat (with_reducible first | exact HB.out | apply yan | apply yad | apply yao | refine yac ?_ (Aside0.out ‹_›) | refine yac ?_ (yas HI0.out))); rintro e w52 ⟨rfl, hi, hb, hk⟩; refine ⟨_, rfl, ?_⟩; replace a4 := yaa (yag hk (upB a4.out) b2.out (by simp)); replace a6 := yaa (yag hk (upB a6.out) b0.out (by simp)); replace e0 := yaa (Kd.R_mono (Kd.R_keep (IsS86.apart (show IsS86 w0 _ g s0_0 c5 from by repeat (with_reducible first | exact HI0.out | apply yah | apply yai | apply yam | apply yaj | refine yab ?_ a5.out _ | refine yab ?_ a3.out _)) (upR e0.out) (by decide)) hk (fun _ h => h.2)) (fun _ h => h.1)); replace HK := yaa (yap (by repeat (with_reducible first | exact HK.out | apply yae | apply yak | apply yaq | apply yal | refine yaf ?_ b3.out _ | refine yaf ?_ b4.out _)) hk (.inl rfl)); replace HB := yaa (hb); replace HI0 := yaa (hi); (try clear hb hk hi); obtain ⟨G0, G1, z9⟩ := Kd.R_slice e0.out; subst z9; have p132 : 0 ≤ (d1 : Int) := of_decide_eq_true (by assumption); have q132 : d1 < (y127.length : Int) := of_decide_eq_true (by assumption); obtain ⟨ad132, A0, s0⟩ := Kd.at_int (Kd.R_reads' e0.out).2.2 d1 p132 q132; cases A0; replace p132 := eq_true p132; replace q132 := eq_true q132; have D3 := b7.out; have D4 := b1.out; have D5 := b0.out; have D6 := a3.out; obtain ⟨s1, s2, s3, s4, s5⟩ := cc5_ a6.out; obtain ⟨s6, s7, s8, s9, t0⟩ := cf5_ a6.out; have D7 := b2.out; have D8 := a5.out; obtain ⟨t1, t2, t3, t4, t5⟩ := cc5_ a4.out; obtain ⟨t6, t7, t8, t9⟩ := cf4_ a4.out; have u0 := blk_frozen a4.out 4))
      refine bodyPost_ret (results_cell_row rfl _ _ b9 27 #[.int .i64 (rd y127 d1), .int .i64 a8, .int .i64 a9, .int .i64 b5, .int .i64 b6] (0, 0) _ rfl (by (repeat refine oneB ?_); refine yar (cs := #[.int .i64 (rd y127 d1), .int .i64 a8, .int .i64 a9, .int .i64 b5, .int .i64 0]) ?_ 4 _ rfl; refine yar (cs := #[.int .i64 (rd y127 d1), .int .i64 a8, .int .i64 a9, .int .i64 0, .int .i64 0]) ?_ 3 _ rfl; refine yar (cs := #[.int .i64 (rd y127 d1), .int .i64 a8, .int .i64 0, .int .i64 0, .int .i64 0]) ?_ 2 _ rfl; refine yar (cs := #[.int .i64 (rd y127 d1), .int .i64 0, .int .i64 0, .int .i64 0, .int .i64 0]) ?_ 1 _ rfl; refine yar (cs := #[.int .i64 0, .int .i64 0, .int .i64 0, .int .i64 0, .int .i64 0]) ?_ 0 _ rfl; (repeat refine oneB ?_); refine blk_far ?_ b1.out _; exact upB a4.out) Try.underlying27 rfl (by kernel_rfl)) rfl ?_
      exact ⟨by first | rfl | (simp [*, errW_none, errW_some] <;> rfl), by repeat (with_reducible first | exact HI0.out | apply yah | apply yai | apply yam | apply yaj | refine yab ?_ a5.out _ | refine yab ?_ a3.out _), by repeat (with_reducible first | exact HB.out | apply yan | apply yad | apply yao | refine yac ?_ (Aside0.out ‹_›) | refine yac ?_ (yas HI0.out)), by repeat (with_reducible first | exact HK.out | apply yae | apply yak | apply yaq | apply yal | refine yaf ?_ b3.out _ | refine yaf ?_ b4.out _)⟩
     rw [if_neg c47] at H
     exact absurd H (by simp)
    rw [if_neg c46] at H
    exact absurd H (by simp)
   rw [if_neg c44] at H
   have m6 := beq_eq_false_iff_ne.mpr c44; have m7 := bne_iff_ne.mpr c44
   by_cases c59 : d7 = 1
   ·
    rw [if_pos c59] at H
    have m8 := beq_iff_eq.mpr c59; have m9 := bne_eq_false_iff_eq.mpr c59; clear c59; obtain ⟨y133, hy133⟩ : ∃ y_ : List Int, y_ = (([(-1), 256] : List Int)) := ⟨_, rfl⟩
    replace H : ((spec_l20Rd_pick.f kj3 s0_0 c5 2).bind fun e1 => (if 0 ≤ e1.1 then (if e1.1 < (y133.length : Int) then (some (a7, rd y133 e1.1, a9, b5, b6, e1.2)) else (none)) else (none))) = some (r1, r2, r3, r4, r5, r6) := by first | (rw [hy133]; with_reducible exact H) | (have H2_ := (Option.bind_some _ _).symm.trans H; rw [hy133]; with_reducible exact H2_) | (have H2_ := (Option.bind_some _ _).symm.trans H; with_reducible exact H2_) | with_reducible exact H | (rw [hy133]; exact H) | exact H
    have Ny133 := yaa hy133; clear hy133; obtain ⟨⟨d2, A1⟩, A60, H⟩ := bindA H; (try dsimp only at H)
    by_cases c61 : 0 ≤ d2
    ·
     rw [if_pos c61] at H
     replace c61 := decide_eq_true c61
     by_cases c62 : d2 < (y133.length : Int)
     ·
      rw [if_pos c62] at H
      replace c62 := decide_eq_true c62
      simp only [Option.some.injEq, Prod.mk.injEq] at H
      obtain ⟨rfl, rfl, rfl, rfl, rfl, rfl⟩ := H
      go_wp2_with (first | ((with_reducible refine gc_ 58 rfl ?_); refine gl_ (some 45) rfl Try.func58 #[.pointer (some ⟨g, 0, none⟩), .int .i64 a1] ?_; (with_reducible refine (spec_l20Rd_odd.calls kj3 g s0_0 c0 a1 true d4 w0 _ ?side1 ?side2 A41.out).mono ?_); (case side1 => repeat (with_reducible first | exact HI0.out | apply yah | apply yai | apply yam | apply yaj | refine yab ?_ a5.out _ | refine yab ?_ a3.out _)); (case side2 => repeat (with_reducible first | exact HB.out | apply yan | apply yad | apply yao | refine yac ?_ (Aside0.out ‹_›) | refine yac ?_ (yas HI0.out))); rintro e w63 ⟨rfl, hi, hb, hk⟩; refine ⟨_, rfl, ?_⟩; replace a4 := yaa (yag hk (upB a4.out) b2.out (by simp)); replace a6 := yaa (yag hk (upB a6.out) b0.out (by simp)); replace HK := yaa (yap (by repeat (with_reducible first | exact HK.out | apply yae | apply yak | apply yaq | apply yal | refine yaf ?_ b3.out _ | refine yaf ?_ b4.out _)) hk (.inl rfl)); replace HB := yaa (hb); replace HI0 := yaa (hi); (try clear hb hk hi)) | ((with_reducible refine gc_ 44 rfl ?_); refine gl_ (some 47) rfl Try.func44 #[.pointer (some ⟨g, 0, none⟩), .int .i64 4] ?_; (with_reducible refine (spec_l20Rd_pick.calls kj3 g s0_0 d4 4 d7 c5 w0 _ ?side1 ?side2 A43.out).mono ?_); (case side1 => repeat (with_reducible first | exact HI0.out | apply yah | apply yai | apply yam | apply yaj | refine yab ?_ a5.out _ | refine yab ?_ a3.out _)); (case side2 => repeat (with_reducible first | exact HB.out | apply yan | apply yad | apply yao | refine yac ?_ (Aside0.out ‹_›) | refine yac ?_ (yas HI0.out))); rintro e w64 ⟨rfl, hi, hb, hk⟩; refine ⟨_, rfl, ?_⟩; replace a4 := yaa (yag hk (upB a4.out) b2.out (by simp)); replace a6 := yaa (yag hk (upB a6.out) b0.out (by simp)); replace HK := yaa (yap (by repeat (with_reducible first | exact HK.out | apply yae | apply yak | apply yaq | apply yal | refine yaf ?_ b3.out _ | refine yaf ?_ b4.out _)) hk (.inl rfl)); replace HB := yaa (hb); replace HI0 := yaa (hi); (try clear hb hk hi)) | ((with_reducible refine gd_ 64 rfl ?_); refine Kd.R_lit (Kd.int .i64) _ 3 ?hg (N := 64) ?hd (xs := ([(-1), 256] : List Int)) (inner := [.int .i64 (-1), .int .i64 256]) (ok := fun _ => True) (okp := fun _ => True) ?hr ?hp (fun _ hk => hk) trivial (Below.refl _ _) (Nat.le_refl _) (by simp) ?_; (case hd => rfl); (case hg => rfl); (case hr => first | (go_simp; done) | (go_simp; rfl)); (case hp => exact (Reps.one (show Kd.M (Kd.int .i64) _ _ _ (-1) [.int .i64 (-1)] from rfl) (Reps.one (show Kd.M (Kd.int .i64) _ _ _ 256 [.int .i64 256] from rfl) (Reps.none _ _)))); intro G2 w65 f2 hb hg_ hnew_; clear hg_ hnew_; (first | rw [← Ny133.out] at f2 | (simp only [Int.reduceToNat] at f2; rw [← Ny133.out] at f2)); have e2 := yaa (Kd.R_lower f2 (keep_size (w := w) (g := g) (row := none) (by repeat (with_reducible first | exact HK.out | apply yae | apply yak | apply yaq | apply yal | refine yaf ?_ b3.out _ | refine yaf ?_ b4.out _)))); replace a4 := yaa (blk_below (upB a4.out) hb); replace a6 := yaa (blk_below (upB a6.out) hb); replace HK := yaa (yap (by repeat (with_reducible first | exact HK.out | apply yae | apply yak | apply yaq | apply yal | refine yaf ?_ b3.out _ | refine yaf ?_ b4.out _)) (KeepBut.of_below hb g none) (.inl rfl)); replace HB := yaa (below_step (by repeat (with_reducible first | exact HB.out | apply yan | apply yad | apply yao | refine yac ?_ (Aside0.out ‹_›) | refine yac ?_ (yas HI0.out))) hb); replace HI0 := yaa (IsS86.below (by repeat (with_reducible first | exact HI0.out | apply yah | apply yai | apply yam | apply yaj | refine yab ?_ a5.out _ | refine yab ?_ a3.out _)) hb); clear hb f2) | ((with_reducible refine gc_ 44 rfl ?_); refine gl_ (some 66) rfl Try.func44 #[.pointer (some ⟨g, 0, none⟩), .int .i64 2] ?_; (with_reducible refine (spec_l20Rd_pick.calls kj3 g s0_0 c5 2 d2 A1 w0 _ ?side1 ?side2 A60.out).mono ?_); (case side1 => repeat (with_reducible first | exact HI0.out | apply yah | apply yai | apply yam | apply yaj | refine yab ?_ a5.out _ | refine yab ?_ a3.out _)); (case side2 => repeat (with_reducible first | exact HB.out | apply yan | apply yad | apply yao | refine yac ?_ (Aside0.out ‹_›) | refine yac ?_ (yas HI0.out))); rintro e w67 ⟨rfl, hi, hb, hk⟩; refine ⟨_, rfl, ?_⟩; replace a4 := yaa (yag hk (upB a4.out) b2.out (by simp)); replace a6 := yaa (yag hk (upB a6.out) b0.out (by simp)); replace e2 := yaa (Kd.R_mono (Kd.R_keep (IsS86.apart (show IsS86 w0 _ g s0_0 c5 from by repeat (with_reducible first | exact HI0.out | apply yah | apply yai | apply yam | apply yaj | refine yab ?_ a5.out _ | refine yab ?_ a3.out _)) (upR e2.out) (by decide)) hk (fun _ h => h.2)) (fun _ h => h.1)); replace HK := yaa (yap (by repeat (with_reducible first | exact HK.out | apply yae | apply yak | apply yaq | apply yal | refine yaf ?_ b3.out _ | refine yaf ?_ b4.out _)) hk (.inl rfl)); replace HB := yaa (hb); replace HI0 := yaa (hi); (try clear hb hk hi); obtain ⟨G3, G4, A2⟩ := Kd.R_slice e2.out; subst A2; have p138 : 0 ≤ (d2 : Int) := of_decide_eq_true (by assumption); have q138 : d2 < (y133.length : Int) := of_decide_eq_true (by assumption); obtain ⟨ad138, A4, u1⟩ := Kd.at_int (Kd.R_reads' e2.out).2.2 d2 p138 q138; cases A4; replace p138 := eq_true p138; replace q138 := eq_true q138; have D9 := b7.out; have E0 := b1.out; have E1 := b0.out; have E2 := a3.out; obtain ⟨u2, u3, u4, u5, u6⟩ := cc5_ a6.out; obtain ⟨u7, u8, u9, v0, v1⟩ := cf5_ a6.out; have E3 := b2.out; have E4 := a5.out; obtain ⟨v2, v3, v4, v5, v6⟩ := cc5_ a4.out; obtain ⟨v7, v8, v9, w1⟩ := cf4_ a4.out; have w2 := blk_frozen a4.out 4))
      refine bodyPost_ret (results_cell_row rfl _ _ b9 27 #[.int .i64 a7, .int .i64 (rd y133 d2), .int .i64 a9, .int .i64 b5, .int .i64 b6] (0, 0) _ rfl (by (repeat refine oneB ?_); refine yar (cs := #[.int .i64 a7, .int .i64 (rd y133 d2), .int .i64 a9, .int .i64 b5, .int .i64 0]) ?_ 4 _ rfl; refine yar (cs := #[.int .i64 a7, .int .i64 (rd y133 d2), .int .i64 a9, .int .i64 0, .int .i64 0]) ?_ 3 _ rfl; refine yar (cs := #[.int .i64 a7, .int .i64 (rd y133 d2), .int .i64 0, .int .i64 0, .int .i64 0]) ?_ 2 _ rfl; refine yar (cs := #[.int .i64 a7, .int .i64 0, .int .i64 0, .int .i64 0, .int .i64 0]) ?_ 1 _ rfl; refine yar (cs := #[.int .i64 0, .int .i64 0, .int .i64 0, .int .i64 0, .int .i64 0]) ?_ 0 _ rfl; (repeat refine oneB ?_); refine blk_far ?_ b1.out _; exact upB a4.out) Try.underlying27 rfl (by kernel_rfl)) rfl ?_
      exact ⟨by first | rfl | (simp [*, errW_none, errW_some] <;> rfl), by repeat (with_reducible first | exact HI0.out | apply yah | apply yai | apply yam | apply yaj | refine yab ?_ a5.out _ | refine yab ?_ a3.out _), by repeat (with_reducible first | exact HB.out | apply yan | apply yad | apply yao | refine yac ?_ (Aside0.out ‹_›) | refine yac ?_ (yas HI0.out)), by repeat (with_reducible first | exact HK.out | apply yae | apply yak | apply yaq | apply yal | refine yaf ?_ b3.out _ | refine yaf ?_ b4.out _)⟩
     rw [if_neg c62] at H
     exact absurd H (by simp)
    rw [if_neg c61] at H
    exact absurd H (by simp)
   rw [if_neg c59] at H
   have m8 := beq_eq_false_iff_ne.mpr c59; have m9 := bne_iff_ne.mpr c59
   by_cases c74 : d7 = 2
   ·
    rw [if_pos c74] at H
    have n0 := beq_iff_eq.mpr c74; have n1 := bne_eq_false_iff_eq.mpr c74; clear c74; obtain ⟨y139, hy139⟩ : ∃ y_ : List Int, y_ = (([(-1), 256] : List Int)) := ⟨_, rfl⟩
    replace H : ((spec_l20Rd_pick.f kj3 s0_0 c5 2).bind fun e3 => (if 0 ≤ e3.1 then (if e3.1 < (y139.length : Int) then (some (a7, a8, a9, rd y139 e3.1, b6, e3.2)) else (none)) else (none))) = some (r1, r2, r3, r4, r5, r6) := by first | (rw [hy139]; with_reducible exact H) | (have H2_ := (Option.bind_some _ _).symm.trans H; rw [hy139]; with_reducible exact H2_) | (have H2_ := (Option.bind_some _ _).symm.trans H; with_reducible exact H2_) | with_reducible exact H | (rw [hy139]; exact H) | exact H
    have Ny139 := yaa hy139; clear hy139; obtain ⟨⟨d6, A5⟩, A75, H⟩ := bindA H; (try dsimp only at H)
    by_cases c76 : 0 ≤ d6
    ·
     rw [if_pos c76] at H
     replace c76 := decide_eq_true c76
     by_cases c77 : d6 < (y139.length : Int)
     ·
      rw [if_pos c77] at H
      replace c77 := decide_eq_true c77
      simp only [Option.some.injEq, Prod.mk.injEq] at H
      obtain ⟨rfl, rfl, rfl, rfl, rfl, rfl⟩ := H
      go_wp2_with (first | ((with_reducible refine gc_ 58 rfl ?_); refine gl_ (some 45) rfl Try.func58 #[.pointer (some ⟨g, 0, none⟩), .int .i64 a1] ?_; (with_reducible refine (spec_l20Rd_odd.calls kj3 g s0_0 c0 a1 true d4 w0 _ ?side1 ?side2 A41.out).mono ?_); (case side1 => repeat (with_reducible first | exact HI0.out | apply yah | apply yai | apply yam | apply yaj | refine yab ?_ a5.out _ | refine yab ?_ a3.out _)); (case side2 => repeat (with_reducible first | exact HB.out | apply yan | apply yad | apply yao | refine yac ?_ (Aside0.out ‹_›) | refine yac ?_ (yas HI0.out))); rintro e w78 ⟨rfl, hi, hb, hk⟩; refine ⟨_, rfl, ?_⟩; replace a4 := yaa (yag hk (upB a4.out) b2.out (by simp)); replace a6 := yaa (yag hk (upB a6.out) b0.out (by simp)); replace HK := yaa (yap (by repeat (with_reducible first | exact HK.out | apply yae | apply yak | apply yaq | apply yal | refine yaf ?_ b3.out _ | refine yaf ?_ b4.out _)) hk (.inl rfl)); replace HB := yaa (hb); replace HI0 := yaa (hi); (try clear hb hk hi)) | ((with_reducible refine gc_ 44 rfl ?_); refine gl_ (some 47) rfl Try.func44 #[.pointer (some ⟨g, 0, none⟩), .int .i64 4] ?_; (with_reducible refine (spec_l20Rd_pick.calls kj3 g s0_0 d4 4 d7 c5 w0 _ ?side1 ?side2 A43.out).mono ?_); (case side1 => repeat (with_reducible first | exact HI0.out | apply yah | apply yai | apply yam | apply yaj | refine yab ?_ a5.out _ | refine yab ?_ a3.out _)); (case side2 => repeat (with_reducible first | exact HB.out | apply yan | apply yad | apply yao | refine yac ?_ (Aside0.out ‹_›) | refine yac ?_ (yas HI0.out))); rintro e w79 ⟨rfl, hi, hb, hk⟩; refine ⟨_, rfl, ?_⟩; replace a4 := yaa (yag hk (upB a4.out) b2.out (by simp)); replace a6 := yaa (yag hk (upB a6.out) b0.out (by simp)); replace HK := yaa (yap (by repeat (with_reducible first | exact HK.out | apply yae | apply yak | apply yaq | apply yal | refine yaf ?_ b3.out _ | refine yaf ?_ b4.out _)) hk (.inl rfl)); replace HB := yaa (hb); replace HI0 := yaa (hi); (try clear hb hk hi)) | ((with_reducible refine gd_ 72 rfl ?_); refine Kd.R_lit (Kd.int .i64) _ 3 ?hg (N := 72) ?hd (xs := ([(-1), 256] : List Int)) (inner := [.int .i64 (-1), .int .i64 256]) (ok := fun _ => True) (okp := fun _ => True) ?hr ?hp (fun _ hk => hk) trivial (Below.refl _ _) (Nat.le_refl _) (by simp) ?_; (case hd => rfl); (case hg => rfl); (case hr => first | (go_simp; done) | (go_simp; rfl)); (case hp => exact (Reps.one (show Kd.M (Kd.int .i64) _ _ _ (-1) [.int .i64 (-1)] from rfl) (Reps.one (show Kd.M (Kd.int .i64) _ _ _ 256 [.int .i64 256] from rfl) (Reps.none _ _)))); intro G5 w80 f3 hb hg_ hnew_; clear hg_ hnew_; (first | rw [← Ny139.out] at f3 | (simp only [Int.reduceToNat] at f3; rw [← Ny139.out] at f3)); have e4 := yaa (Kd.R_lower f3 (keep_size (w := w) (g := g) (row := none) (by repeat (with_reducible first | exact HK.out | apply yae | apply yak | apply yaq | apply yal | refine yaf ?_ b3.out _ | refine yaf ?_ b4.out _)))); replace a4 := yaa (blk_below (upB a4.out) hb); replace a6 := yaa (blk_below (upB a6.out) hb); replace HK := yaa (yap (by repeat (with_reducible first | exact HK.out | apply yae | apply yak | apply yaq | apply yal | refine yaf ?_ b3.out _ | refine yaf ?_ b4.out _)) (KeepBut.of_below hb g none) (.inl rfl)); replace HB := yaa (below_step (by repeat (with_reducible first | exact HB.out | apply yan | apply yad | apply yao | refine yac ?_ (Aside0.out ‹_›) | refine yac ?_ (yas HI0.out))) hb); replace HI0 := yaa (IsS86.below (by repeat (with_reducible first | exact HI0.out | apply yah | apply yai | apply yam | apply yaj | refine yab ?_ a5.out _ | refine yab ?_ a3.out _)) hb); clear hb f3) | ((with_reducible refine gc_ 44 rfl ?_); refine gl_ (some 74) rfl Try.func44 #[.pointer (some ⟨g, 0, none⟩), .int .i64 2] ?_; (with_reducible refine (spec_l20Rd_pick.calls kj3 g s0_0 c5 2 d6 A5 w0 _ ?side1 ?side2 A75.out).mono ?_); (case side1 => repeat (with_reducible first | exact HI0.out | apply yah | apply yai | apply yam | apply yaj | refine yab ?_ a5.out _ | refine yab ?_ a3.out _)); (case side2 => repeat (with_reducible first | exact HB.out | apply yan | apply yad | apply yao | refine yac ?_ (Aside0.out ‹_›) | refine yac ?_ (yas HI0.out))); rintro e w82 ⟨rfl, hi, hb, hk⟩; refine ⟨_, rfl, ?_⟩; replace a4 := yaa (yag hk (upB a4.out) b2.out (by simp)); replace a6 := yaa (yag hk (upB a6.out) b0.out (by simp)); replace e4 := yaa (Kd.R_mono (Kd.R_keep (IsS86.apart (show IsS86 w0 _ g s0_0 c5 from by repeat (with_reducible first | exact HI0.out | apply yah | apply yai | apply yam | apply yaj | refine yab ?_ a5.out _ | refine yab ?_ a3.out _)) (upR e4.out) (by decide)) hk (fun _ h => h.2)) (fun _ h => h.1)); replace HK := yaa (yap (by repeat (with_reducible first | exact HK.out | apply yae | apply yak | apply yaq | apply yal | refine yaf ?_ b3.out _ | refine yaf ?_ b4.out _)) hk (.inl rfl)); replace HB := yaa (hb); replace HI0 := yaa (hi); (try clear hb hk hi); obtain ⟨G6, G7, A6⟩ := Kd.R_slice e4.out; subst A6; have p144 : 0 ≤ (d6 : Int) := of_decide_eq_true (by assumption); have q144 : d6 < (y139.length : Int) := of_decide_eq_true (by assumption); obtain ⟨ad144, A7, w3⟩ := Kd.at_int (Kd.R_reads' e4.out).2.2 d6 p144 q144; cases A7; replace p144 := eq_true p144; replace q144 := eq_true q144; have E5 := b7.out; have E6 := b1.out; have E7 := b0.out; have E8 := a3.out; obtain ⟨w4, w8, w9, x0, x2⟩ := cc5_ a6.out; obtain ⟨x3, x4, x5, x6, x7⟩ := cf5_ a6.out; have E9 := b2.out; have F0 := a5.out; obtain ⟨x8, x9, y8, y9, z0⟩ := cc5_ a4.out; obtain ⟨z1, z2, z3, z4⟩ := cf4_ a4.out; have z5 := blk_frozen a4.out 4))
      refine bodyPost_ret (results_cell_row rfl _ _ b9 27 #[.int .i64 a7, .int .i64 a8, .int .i64 a9, .int .i64 (rd y139 d6), .int .i64 b6] (0, 0) _ rfl (by (repeat refine oneB ?_); refine yar (cs := #[.int .i64 a7, .int .i64 a8, .int .i64 a9, .int .i64 (rd y139 d6), .int .i64 0]) ?_ 4 _ rfl; refine yar (cs := #[.int .i64 a7, .int .i64 a8, .int .i64 a9, .int .i64 0, .int .i64 0]) ?_ 3 _ rfl; refine yar (cs := #[.int .i64 a7, .int .i64 a8, .int .i64 0, .int .i64 0, .int .i64 0]) ?_ 2 _ rfl; refine yar (cs := #[.int .i64 a7, .int .i64 0, .int .i64 0, .int .i64 0, .int .i64 0]) ?_ 1 _ rfl; refine yar (cs := #[.int .i64 0, .int .i64 0, .int .i64 0, .int .i64 0, .int .i64 0]) ?_ 0 _ rfl; (repeat refine oneB ?_); refine blk_far ?_ b1.out _; exact upB a4.out) Try.underlying27 rfl (by kernel_rfl)) rfl ?_
      exact ⟨by first | rfl | (simp [*, errW_none, errW_some] <;> rfl), by repeat (with_reducible first | exact HI0.out | apply yah | apply yai | apply yam | apply yaj | refine yab ?_ a5.out _ | refine yab ?_ a3.out _), by repeat (with_reducible first | exact HB.out | apply yan | apply yad | apply yao | refine yac ?_ (Aside0.out ‹_›) | refine yac ?_ (yas HI0.out)), by repeat (with_reducible first | exact HK.out | apply yae | apply yak | apply yaq | apply yal | refine yaf ?_ b3.out _ | refine yaf ?_ b4.out _)⟩
     rw [if_neg c77] at H
     exact absurd H (by simp)
    rw [if_neg c76] at H
    exact absurd H (by simp)
   rw [if_neg c74] at H
   have n0 := beq_eq_false_iff_ne.mpr c74; have n1 := bne_iff_ne.mpr c74; obtain ⟨y145, hy145⟩ : ∃ y_ : List Int, y_ = (([1, 7] : List Int)) := ⟨_, rfl⟩
   replace H : ((spec_l20Rd_pick.f kj3 s0_0 c5 2).bind fun e5 => (if 0 ≤ e5.1 then (if e5.1 < (y145.length : Int) then (some (a7, a8, a9, b5, rd y145 e5.1, e5.2)) else (none)) else (none))) = some (r1, r2, r3, r4, r5, r6) := by first | (rw [hy145]; with_reducible exact H) | (have H2_ := (Option.bind_some _ _).symm.trans H; rw [hy145]; with_reducible exact H2_) | (have H2_ := (Option.bind_some _ _).symm.trans H; with_reducible exact H2_) | with_reducible exact H | (rw [hy145]; exact H) | exact H
   have Ny145 := yaa hy145; clear hy145; obtain ⟨⟨d8, A8⟩, A89, H⟩ := bindA H; (try dsimp only at H)
   by_cases c90 : 0 ≤ d8
   ·
    rw [if_pos c90] at H
    replace c90 := decide_eq_true c90
    by_cases c91 : d8 < (y145.length : Int)
    ·
     rw [if_pos c91] at H
     replace c91 := decide_eq_true c91
     simp only [Option.some.injEq, Prod.mk.injEq] at H
     obtain ⟨rfl, rfl, rfl, rfl, rfl, rfl⟩ := H
     go_wp2_with (first | ((with_reducible refine gc_ 58 rfl ?_); refine gl_ (some 45) rfl Try.func58 #[.pointer (some ⟨g, 0, none⟩), .int .i64 a1] ?_; (with_reducible refine (spec_l20Rd_odd.calls kj3 g s0_0 c0 a1 true d4 w0 _ ?side1 ?side2 A41.out).mono ?_); (case side1 => repeat (with_reducible first | exact HI0.out | apply yah | apply yai | apply yam | apply yaj | refine yab ?_ a5.out _ | refine yab ?_ a3.out _)); (case side2 => repeat (with_reducible first | exact HB.out | apply yan | apply yad | apply yao | refine yac ?_ (Aside0.out ‹_›) | refine yac ?_ (yas HI0.out))); rintro e w92 ⟨rfl, hi, hb, hk⟩; refine ⟨_, rfl, ?_⟩; replace a4 := yaa (yag hk (upB a4.out) b2.out (by simp)); replace a6 := yaa (yag hk (upB a6.out) b0.out (by simp)); replace HK := yaa (yap (by repeat (with_reducible first | exact HK.out | apply yae | apply yak | apply yaq | apply yal | refine yaf ?_ b3.out _ | refine yaf ?_ b4.out _)) hk (.inl rfl)); replace HB := yaa (hb); replace HI0 := yaa (hi); (try clear hb hk hi)) | ((with_reducible refine gc_ 44 rfl ?_); refine gl_ (some 47) rfl Try.func44 #[.pointer (some ⟨g, 0, none⟩), .int .i64 4] ?_; (with_reducible refine (spec_l20Rd_pick.calls kj3 g s0_0 d4 4 d7 c5 w0 _ ?side1 ?side2 A43.out).mono ?_); (case side1 => repeat (with_reducible first | exact HI0.out | apply yah | apply yai | apply yam | apply yaj | refine yab ?_ a5.out _ | refine yab ?_ a3.out _)); (case side2 => repeat (with_reducible first | exact HB.out | apply yan | apply yad | apply yao | refine yac ?_ (Aside0.out ‹_›) | refine yac ?_ (yas HI0.out))); rintro e w93 ⟨rfl, hi, hb, hk⟩; refine ⟨_, rfl, ?_⟩; replace a4 := yaa (yag hk (upB a4.out) b2.out (by simp)); replace a6 := yaa (yag hk (upB a6.out) b0.out (by simp)); replace HK := yaa (yap (by repeat (with_reducible first | exact HK.out | apply yae | apply yak | apply yaq | apply yal | refine yaf ?_ b3.out _ | refine yaf ?_ b4.out _)) hk (.inl rfl)); replace HB := yaa (hb); replace HI0 := yaa (hi); (try clear hb hk hi)) | ((with_reducible refine gd_ 48 rfl ?_); refine Kd.R_lit (Kd.int .i64) _ 3 ?hg (N := 48) ?hd (xs := ([1, 7] : List Int)) (inner := [.int .i64 1, .int .i64 7]) (ok := fun _ => True) (okp := fun _ => True) ?hr ?hp (fun _ hk => hk) trivial (Below.refl _ _) (Nat.le_refl _) (by simp) ?_; (case hd => rfl); (case hg => rfl); (case hr => first | (go_simp; done) | (go_simp; rfl)); (case hp => exact (Reps.one (show Kd.M (Kd.int .i64) _ _ _ 1 [.int .i64 1] from rfl) (Reps.one (show Kd.M (Kd.int .i64) _ _ _ 7 [.int .i64 7] from rfl) (Reps.none _ _)))); intro G8 w94 f4 hb hg_ hnew_; clear hg_ hnew_; (first | rw [← Ny145.out] at f4 | (simp only [Int.reduceToNat] at f4; rw [← Ny145.out] at f4)); have e6 := yaa (Kd.R_lower f4 (keep_size (w := w) (g := g) (row := none) (by repeat (with_reducible first | exact HK.out | apply yae | apply yak | apply yaq | apply yal | refine yaf ?_ b3.out _ | refine yaf ?_ b4.out _)))); replace a4 := yaa (blk_below (upB a4.out) hb); replace a6 := yaa (blk_below (upB a6.out) hb); replace HK := yaa (yap (by repeat (with_reducible first | exact HK.out | apply yae | apply yak | apply yaq | apply yal | refine yaf ?_ b3.out _ | refine yaf ?_ b4.out _)) (KeepBut.of_below hb g none) (.inl rfl)); replace HB := yaa (below_step (by repeat (with_reducible first | exact HB.out | apply yan | apply yad | apply yao | refine yac ?_ (Aside0.out ‹_›) | refine yac ?_ (yas HI0.out))) hb); replace HI0 := yaa (IsS86.below (by repeat (with_reducible first | exact HI0.out | apply yah | apply yai | apply yam | apply yaj | refine yab ?_ a5.out _ | refine yab ?_ a3.out _)) hb); clear hb f4) | ((with_reducible refine gc_ 44 rfl ?_); refine gl_ (some 50) rfl Try.func44 #[.pointer (some ⟨g, 0, none⟩), .int .i64 2] ?_; (with_reducible refine (spec_l20Rd_pick.calls kj3 g s0_0 c5 2 d8 A8 w0 _ ?side1 ?side2 A89.out).mono ?_); (case side1 => repeat (with_reducible first | exact HI0.out | apply yah | apply yai | apply yam | apply yaj | refine yab ?_ a5.out _ | refine yab ?_ a3.out _)); (case side2 => repeat (with_reducible first | exact HB.out | apply yan | apply yad | apply yao | refine yac ?_ (Aside0.out ‹_›) | refine yac ?_ (yas HI0.out))); rintro e w96 ⟨rfl, hi, hb, hk⟩; refine ⟨_, rfl, ?_⟩; replace a4 := yaa (yag hk (upB a4.out) b2.out (by simp)); replace a6 := yaa (yag hk (upB a6.out) b0.out (by simp)); replace e6 := yaa (Kd.R_mono (Kd.R_keep (IsS86.apart (show IsS86 w0 _ g s0_0 c5 from by repeat (with_reducible first | exact HI0.out | apply yah | apply yai | apply yam | apply yaj | refine yab ?_ a5.out _ | refine yab ?_ a3.out _)) (upR e6.out) (by decide)) hk (fun _ h => h.2)) (fun _ h => h.1)); replace HK := yaa (yap (by repeat (with_reducible first | exact HK.out | apply yae | apply yak | apply yaq | apply yal | refine yaf ?_ b3.out _ | refine yaf ?_ b4.out _)) hk (.inl rfl)); replace HB := yaa (hb); replace HI0 := yaa (hi); (try clear hb hk hi); obtain ⟨G9, H0, A9⟩ := Kd.R_slice e6.out; subst A9; have p150 : 0 ≤ (d8 : Int) := of_decide_eq_true (by assumption); have q150 : d8 < (y145.length : Int) := of_decide_eq_true (by assumption); obtain ⟨ad150, B0, z6⟩ := Kd.at_int (Kd.R_reads' e6.out).2.2 d8 p150 q150; cases B0; replace p150 := eq_true p150; replace q150 := eq_true q150; have F1 := b7.out; have F2 := b1.out; have F3 := b0.out; have F4 := a3.out; obtain ⟨n2, n3, n4, n5, n6⟩ := cc5_ a6.out; obtain ⟨n7, n8, n9, o0, o1⟩ := cf5_ a6.out; have B1 := b2.out; have B2 := a5.out; obtain ⟨o2, o3, o4, o5, o6⟩ := cc5_ a4.out; obtain ⟨o7, o8, o9, p0⟩ := cf4_ a4.out; have p1 := blk_frozen a4.out 4))
     refine bodyPost_ret (results_cell_row rfl _ _ b9 27 #[.int .i64 a7, .int .i64 a8, .int .i64 a9, .int .i64 b5, .int .i64 (rd y145 d8)] (0, 0) _ rfl (by (repeat refine oneB ?_); refine yar (cs := #[.int .i64 a7, .int .i64 a8, .int .i64 a9, .int .i64 b5, .int .i64 0]) ?_ 4 _ rfl; refine yar (cs := #[.int .i64 a7, .int .i64 a8, .int .i64 a9, .int .i64 0, .int .i64 0]) ?_ 3 _ rfl; refine yar (cs := #[.int .i64 a7, .int .i64 a8, .int .i64 0, .int .i64 0, .int .i64 0]) ?_ 2 _ rfl; refine yar (cs := #[.int .i64 a7, .int .i64 0, .int .i64 0, .int .i64 0, .int .i64 0]) ?_ 1 _ rfl; refine yar (cs := #[.int .i64 0, .int .i64 0, .int .i64 0, .int .i64 0, .int .i64 0]) ?_ 0 _ rfl; (repeat refine oneB ?_); refine blk_far ?_ b1.out _; exact upB a4.out) Try.underlying27 rfl (by kernel_rfl)) rfl ?_
     exact ⟨by first | rfl | (simp [*, errW_none, errW_some] <;> rfl), by repeat (with_reducible first | exact HI0.out | apply yah | apply yai | apply yam | apply yaj | refine yab ?_ a5.out _ | refine yab ?_ a3.out _), by repeat (with_reducible first | exact HB.out | apply yan | apply yad | apply yao | refine yac ?_ (Aside0.out ‹_›) | refine yac ?_ (yas HI0.out)), by repeat (with_reducible first | exact HK.out | apply yae | apply yak | apply yaq | apply yal | refine yaf ?_ b3.out _ | refine yaf ?_ b4.out _)⟩
    rw [if_neg c91] at H
    exact absurd H (by simp)
   rw [if_neg c90] at H
   exact absurd H (by simp)
end
section
open Go.Proofs.YtoifpgkfpdeglaaW.PrintWords.Aside0 renaming mk → yaa
def spec_DrawOpDo.f (k : Nat) (l0 : List Int) : Option (Int × Int × (List (S36)) × Int × Int × Int × Int × Int) := (spec_l20Open.f l0).bind fun bt103 => ((spec_l20Ras.f k bt103.1 bt103.2 16).bind fun bt106 => ((spec_l20Op.f k bt103.1 bt106.2.2.2 9).bind fun bt112 => (some (bt106.1, bt106.2.1, bt106.2.2.1, bt112.1, bt112.2.1, bt112.2.2.1, bt112.2.2.2.1, bt112.2.2.2.2.1))))
set_option maxHeartbeats 8000000 in
set_option maxRecDepth 100000 in
theorem spec_DrawOpDo.calls (k : Nat) (A0 : Option Addr) (c0 : Nat) (l0 : List Int) (r1 : Int) (r2 : Int) (r3 : List (S36)) (r4 : Int) (r5 : Int) (r6 : Int) (r7 : Int) (r8 : Int) (w : World) (hr0 : Kd.C (Kd.int .u8) w A0 l0.length l0) (hc0 : l0.length ≤ c0) (h : spec_DrawOpDo.f k l0 = some (r1, r2, r3, r4, r5, r6, r7, r8)) :
  Calls Try.prog 10 #[.slice A0 l0.length c0] w fun e w' => ∃ v2_ : Value, e = .returned (.tuple #[.agg #[.int .i64 r1, .int .i64 r2, v2_], .agg #[.int .i64 r4, .int .i64 r5, .int .i64 r6, .int .i64 r7, .int .i64 r8]]) ∧ Kd.Q k36 36 w' w.heap.size (fun _ => True) v2_ r3 ∧ Below w.heap.size w w' := by
 have hu25 := Try.underlying25; have hu27 := Try.underlying27; have HR0 := yaa hr0; have HC0 := yaa hc0; clear hr0 hc0; have HB := yaa (Below.refl w.heap.size w); have H : ((spec_l20Open.f l0).bind fun b7 => ((spec_l20Ras.f k b7.1 b7.2 16).bind fun b4 => ((spec_l20Op.f k b7.1 b4.2.2.2 9).bind fun b2 => (some (b4.1, b4.2.1, b4.2.2.1, b2.1, b2.2.1, b2.2.2.1, b2.2.2.2.1, b2.2.2.2.2.1))))) = some (r1, r2, r3, r4, r5, r6, r7, r8) := h; clear h; obtain ⟨⟨c1, c7⟩, A2, H⟩ := bindA H; (try dsimp only at H); obtain ⟨⟨b8, c2, c4, c5⟩, A3, H⟩ := bindA H; (try dsimp only at H); obtain ⟨⟨b3, b6, b9, c3, c6, e8⟩, A4, H⟩ := bindA H; (try dsimp only at H)
 simp only [Option.some.injEq, Prod.mk.injEq] at H
 obtain ⟨rfl, rfl, rfl, rfl, rfl, rfl, rfl, rfl⟩ := H
 go_enter Try.func10, Try.ntmps10
 go_wp2_with (first | ((with_reducible refine gd_ 2 rfl ?_); refine bx_ 2 rfl #[.int .i64 0, .int .i64 0, .slice none 0 0] 25 ?_; intro b1 hg w5 hbox hb; have a2 := yaa (hbox); have c8 := yaa ((by rw [hg]; exact (below_size (upH HB.out)) : w.heap.size ≤ b1)); replace HB := yaa (below_step (upH HB.out) hb); have f0 := c8; clear hb hbox hg) | ((with_reducible refine gd_ 3 rfl ?_); refine bx_ 3 rfl #[.int .i64 0, .int .i64 0, .int .i64 0, .int .i64 0, .int .i64 0] 27 ?_; intro b0 hg w6 hbox hb; have a3 := yaa (hbox); have c9 := yaa ((by rw [hg]; exact (below_size (by repeat (with_reducible first | exact HB.out | apply below_alloc | apply pw_below_drewN | apply below_drew1 | refine below_set ?_ (Aside0.out ‹_›)))) : w.heap.size ≤ b0)); replace HB := yaa (below_step (by repeat (with_reducible first | exact HB.out | apply below_alloc | apply pw_below_drewN | apply below_drew1 | refine below_set ?_ (Aside0.out ‹_›))) hb); have f1 := c9; have a1 := yaa ((by rw [hg]; exact Nat.ne_of_lt (blk_lt (upB a2.out)) : b1 ≠ b0)); replace a2 := yaa (blk_below (upB a2.out) hb); have a4 := yaa a1.out.symm; clear hb hbox hg) | ((with_reducible refine gc_ 33 rfl ?_); refine gl_ (some 6) rfl Try.func33 #[.slice A0 l0.length c0] ?_; (with_reducible refine (spec_l20Open.calls _ _ l0 c1 c7 w _ ?side1 ?side2 ?side3 A2.out).mono ?_); (case side1 => repeat (with_reducible first | exact HB.out | apply below_alloc | apply pw_below_drewN | apply below_drew1 | refine below_set ?_ (Aside0.out ‹_›))); (case side2 => exact HR0.out); (case side3 => exact HC0.out); rintro e w7 ⟨g105, rfl, hi, hb, hb2⟩; refine ⟨_, rfl, ?_⟩; replace HB := yaa (hb); have a7 := yaa (hi); have a5 := yaa (IsS86.ne_blk hi (blk_below (upB a2.out) hb2) (by decide)); have a8 := yaa (Ne.symm (IsS86.ne_blk hi (blk_below (upB a2.out) hb2) (by decide))); replace a2 := yaa (blk_below (upB a2.out) hb2); have a6 := yaa (IsS86.ne_blk hi (blk_below (upB a3.out) hb2) (by decide)); have a9 := yaa (Ne.symm (IsS86.ne_blk hi (blk_below (upB a3.out) hb2) (by decide))); replace a3 := yaa (blk_below (upB a3.out) hb2); (try clear hb hb2 hi)) | ((with_reducible refine gc_ 34 rfl ?_); refine gl_ (some 8) rfl Try.func34 #[.pointer (some ⟨g105, 0, none⟩), .int .i64 16] ?_; (with_reducible refine (spec_l20Ras.calls k g105 c1 c7 16 b8 c2 c4 c5 w _ ?side1 ?side2 A3.out).mono ?_); (case side1 => repeat (with_reducible first | exact a7.out | apply IsS86.alloc | apply IsS86.drewN | apply IsS86.drew | apply IsS86.set_1 | refine IsS86.far ?_ a5.out _ | refine IsS86.far ?_ a6.out _)); (case side2 => repeat (with_reducible first | exact HB.out | apply below_alloc | apply pw_below_drewN | apply below_drew1 | refine below_set ?_ (Aside0.out ‹_›) | refine below_set ?_ (IsS86.ge a7.out))); rintro e w8 ⟨f8, rfl, ho0, hi, hb, hk⟩; refine ⟨_, rfl, ?_⟩; replace a2 := yaa (KeepBut.blk hk (upB a2.out) a8.out (by simp)); replace a3 := yaa (KeepBut.blk hk (upB a3.out) a9.out (by simp)); have b5 := yaa (Kd.Q_lower ho0 (below_size (by repeat (with_reducible first | exact HB.out | apply below_alloc | apply pw_below_drewN | apply below_drew1 | refine below_set ?_ (Aside0.out ‹_›) | refine below_set ?_ (IsS86.ge a7.out))))); replace HB := yaa (hb); replace a7 := yaa (hi); (try clear hb hk hi ho0)) | ((with_reducible refine gc_ 35 rfl ?_); refine gl_ (some 10) rfl Try.func35 #[.pointer (some ⟨g105, 0, none⟩), .int .i64 9] ?_; (with_reducible refine (spec_l20Op.calls k g105 c1 c5 9 b3 b6 b9 c3 c6 e8 w _ ?side1 ?side2 A4.out).mono ?_); (case side1 => repeat (with_reducible first | exact a7.out | apply IsS86.alloc | apply IsS86.drewN | apply IsS86.drew | apply IsS86.set_1 | refine IsS86.far ?_ a5.out _ | refine IsS86.far ?_ a6.out _)); (case side2 => repeat (with_reducible first | exact HB.out | apply below_alloc | apply pw_below_drewN | apply below_drew1 | refine below_set ?_ (Aside0.out ‹_›) | refine below_set ?_ (IsS86.ge a7.out))); rintro e w9 ⟨rfl, hi, hb, hk⟩; refine ⟨_, rfl, ?_⟩; replace a2 := yaa (KeepBut.blk hk (upB a2.out) a8.out (by simp)); replace a3 := yaa (KeepBut.blk hk (upB a3.out) a9.out (by simp)); replace b5 := yaa (Kd.Q_mono (Kd.Q_keep (IsS86.apartQ (show IsS86 w _ g105 c1 c5 from by repeat (with_reducible first | exact a7.out | apply IsS86.alloc | apply IsS86.drewN | apply IsS86.drew | apply IsS86.set_1 | refine IsS86.far ?_ a5.out _ | refine IsS86.far ?_ a6.out _)) (upQ b5.out) (by decide)) hk (fun _ h => h.2)) (fun _ h => h.1)); replace HB := yaa (hb); replace a7 := yaa (hi); (try clear hb hk hi); have f2 := a1.out; have f3 := a4.out; have f4 := a8.out; have f5 := a5.out; obtain ⟨d2, d3, d4⟩ := cc3_ a2.out; obtain ⟨d5, d6, d7⟩ := cf3_ a2.out; obtain ⟨d0, d1, e9, _⟩ := Kd.Q_slice b5.out; subst e9; have f6 := a9.out; have f7 := a6.out; obtain ⟨d8, d9, e0, e1, e2⟩ := cc5_ a3.out; obtain ⟨e3, e4, e5, e6⟩ := cf4_ a3.out; have e7 := blk_frozen a3.out 4))
 refine bodyPost_ret (results_cc rfl _ _ b1 b0 25 27 #[.int .i64 b8, .int .i64 c2, .slice d0 c4.length d1] #[.int .i64 b3, .int .i64 b6, .int .i64 b9, .int .i64 c3, .int .i64 c6] (0, 0) (0, 0) _ _ rfl (by (repeat refine oneB ?_); refine blk_far ?_ a1.out _; (repeat refine oneB ?_); refine blk_far ?_ a1.out _; (repeat refine oneB ?_); refine blk_far ?_ a1.out _; (repeat refine oneB ?_); refine blk_far ?_ a1.out _; (repeat refine oneB ?_); refine blk_far ?_ a1.out _; (repeat refine oneB ?_); refine blk_put (cs := #[.int .i64 b8, .int .i64 c2, .slice none 0 0]) ?_ 2 _ rfl; refine blk_put (cs := #[.int .i64 b8, .int .i64 0, .slice none 0 0]) ?_ 1 _ rfl; refine blk_put (cs := #[.int .i64 0, .int .i64 0, .slice none 0 0]) ?_ 0 _ rfl; exact upB a2.out) Try.underlying25 rfl (by kernel_rfl) rfl (by (repeat refine oneB ?_); refine blk_put (cs := #[.int .i64 b3, .int .i64 b6, .int .i64 b9, .int .i64 c3, .int .i64 0]) ?_ 4 _ rfl; refine blk_put (cs := #[.int .i64 b3, .int .i64 b6, .int .i64 b9, .int .i64 0, .int .i64 0]) ?_ 3 _ rfl; refine blk_put (cs := #[.int .i64 b3, .int .i64 b6, .int .i64 0, .int .i64 0, .int .i64 0]) ?_ 2 _ rfl; refine blk_put (cs := #[.int .i64 b3, .int .i64 0, .int .i64 0, .int .i64 0, .int .i64 0]) ?_ 1 _ rfl; refine blk_put (cs := #[.int .i64 0, .int .i64 0, .int .i64 0, .int .i64 0, .int .i64 0]) ?_ 0 _ rfl; (repeat refine oneB ?_); refine blk_far ?_ a4.out _; (repeat refine oneB ?_); refine blk_far ?_ a4.out _; (repeat refine oneB ?_); refine blk_far ?_ a4.out _; exact upB a3.out) Try.underlying27 rfl (by kernel_rfl)) rfl ?_
 exact ⟨_, by first | rfl | (simp [*, errW_none, errW_some] <;> rfl), by (with_reducible repeat (first | apply Kd.Q_alloc | apply Kd.Q_drewN | apply Kd.Q_drew)); exact Kd.Q_mono (Kd.Q_far (p := ⟨b0, 4, none⟩) (Kd.Q_far (p := ⟨b0, 3, none⟩) (Kd.Q_far (p := ⟨b0, 2, none⟩) (Kd.Q_far (p := ⟨b0, 1, none⟩) (Kd.Q_far (p := ⟨b0, 0, none⟩) (Kd.Q_far (p := ⟨b1, 2, none⟩) (Kd.Q_far (p := ⟨b1, 1, none⟩) (Kd.Q_far (p := ⟨b1, 0, none⟩) (Kd.Q_types (Kd.Q_types b5.out a2.out (by decide)) a3.out (by decide)) (fun _ hk => hk.1.2) (.int .i64 b8)) (fun _ hk => hk.1.2) (.int .i64 c2)) (fun _ hk => hk.1.2) (.slice d0 c4.length d1)) (fun _ hk => hk.2) (.int .i64 b3)) (fun _ hk => hk.2) (.int .i64 b6)) (fun _ hk => hk.2) (.int .i64 b9)) (fun _ hk => hk.2) (.int .i64 c3)) (fun _ hk => hk.2) (.int .i64 c6)) (fun _ hk => trivial), by repeat (with_reducible first | exact HB.out | apply below_alloc | apply pw_below_drewN | apply below_drew1 | refine below_set ?_ (Aside0.out ‹_›) | refine below_set ?_ (IsS86.ge a7.out))⟩
end
section
theorem eqA27 (d : Nat) (w : World) (x0 y0 : Int) (x1 y1 : Int) (x2 y2 : Int) (x3 y3 : Int) (x4 y4 : Int) :
    (Op.equalIn (d + 2) 27 (.agg #[.int .i64 x0, .int .i64 x1, .int .i64 x2, .int .i64 x3, .int .i64 x4]) (.agg #[.int .i64 y0, .int .i64 y1, .int .i64 y2, .int .i64 y3, .int .i64 y4])).run Try.prog w = .ok (x0 == y0 && (x1 == y1 && (x2 == y2 && (x3 == y3 && (x4 == y4))))) w := by
  refine eqA_of Try.underlying27 (by kernel_rfl) ?_
  refine eqf_cons (by rfl) (by go_simp; rfl) (by go_simp; rfl) (by go_simp) ?_
  refine eqf_cons (by rfl) (by go_simp; rfl) (by go_simp; rfl) (by go_simp) ?_
  refine eqf_cons (by rfl) (by go_simp; rfl) (by go_simp; rfl) (by go_simp) ?_
  refine eqf_cons (by rfl) (by go_simp; rfl) (by go_simp; rfl) (by go_simp) ?_
  exact eqf_last (by rfl) (by go_simp; rfl) (by go_simp; rfl) (by go_simp)
end
section
def impl_partOk.f (a0 : Int) : Option (Bool) := if a0 ≥ 0 then (some (decide (a0 ≤ 255))) else (some false)
set_option maxHeartbeats 8000000 in
set_option maxRecDepth 100000 in
theorem impl_partOk.calls (a0 : Int) (r : Bool) (w : World) (h : impl_partOk.f a0 = some r) :
    Calls Try.prog 60 #[.int .i64 a0] w fun e w' => e = .returned (.bool r) ∧ Drawn0 w w' := by
  have H : (if a0 ≥ 0 then (some (decide (a0 ≤ 255))) else (some false)) = some r := h; clear h
  by_cases c2 : a0 ≥ 0
  · rw [if_pos c2] at H
    have c2b0 : decide (0 ≤ a0) = true := decide_eq_true c2; clear c2; obtain rfl := Option.some.inj H
    go_enter Try.func60, Try.ntmps60
    go_wp2
    go_ret
    exact ⟨by first | rfl | (simp; done) | (simp [*]; done), by repeat (first | exact Drawn0.refl _ | apply Drawn0.step)⟩
  · rw [if_neg c2] at H
    have c2b0 : decide (0 ≤ a0) = false := decide_eq_false c2; clear c2; obtain rfl := Option.some.inj H
    go_enter Try.func60, Try.ntmps60
    go_wp2
    go_ret
    exact ⟨by first | rfl | (simp; done) | (simp [*]; done), by repeat (first | exact Drawn0.refl _ | apply Drawn0.step)⟩
end
section
def impl_sizeOk.f (a0 : Int) : Option (Bool) := if a0 ≥ 1 then (some (decide (a0 ≤ 6))) else (some false)
set_option maxHeartbeats 8000000 in
set_option maxRecDepth 100000 in
theorem impl_sizeOk.calls (a0 : Int) (r : Bool) (w : World) (h : impl_sizeOk.f a0 = some r) :
    Calls Try.prog 42 #[.int .i64 a0] w fun e w' => e = .returned (.bool r) ∧ Drawn0 w w' := by
  have H : (if a0 ≥ 1 then (some (decide (a0 ≤ 6))) else (some false)) = some r := h; clear h
  by_cases c2 : a0 ≥ 1
  · rw [if_pos c2] at H
    have c2b0 : decide (1 ≤ a0) = true := decide_eq_true c2; clear c2; obtain rfl := Option.some.inj H
    go_enter Try.func42, Try.ntmps42
    go_wp2
    go_ret
    exact ⟨by first | rfl | (simp; done) | (simp [*]; done), by repeat (first | exact Drawn0.refl _ | apply Drawn0.step)⟩
  · rw [if_neg c2] at H
    have c2b0 : decide (1 ≤ a0) = false := decide_eq_false c2; clear c2; obtain rfl := Option.some.inj H
    go_enter Try.func42, Try.ntmps42
    go_wp2
    go_ret
    exact ⟨by first | rfl | (simp; done) | (simp [*]; done), by repeat (first | exact Drawn0.refl _ | apply Drawn0.step)⟩
end
section
def impl_within.f (a0 : Int) (a1 : Int) (a2 : Int) : Option (Bool) := if a0 ≥ a1 then (some (decide (a0 ≤ a2))) else (some false)
set_option maxHeartbeats 8000000 in
set_option maxRecDepth 100000 in
theorem impl_within.calls (a0 : Int) (a1 : Int) (a2 : Int) (r : Bool) (w : World) (h : impl_within.f a0 a1 a2 = some r) :
    Calls Try.prog 59 #[.int .i64 a0, .int .i64 a1, .int .i64 a2] w fun e w' => e = .returned (.bool r) ∧ Drawn0 w w' := by
  have H : (if a0 ≥ a1 then (some (decide (a0 ≤ a2))) else (some false)) = some r := h; clear h
  by_cases c4 : a0 ≥ a1
  · rw [if_pos c4] at H
    have c4b0 : decide (a1 ≤ a0) = true := decide_eq_true c4; clear c4; obtain rfl := Option.some.inj H
    go_enter Try.func59, Try.ntmps59
    go_wp2
    go_ret
    exact ⟨by first | rfl | (simp; done) | (simp [*]; done), by repeat (first | exact Drawn0.refl _ | apply Drawn0.step)⟩
  · rw [if_neg c4] at H
    have c4b0 : decide (a1 ≤ a0) = false := decide_eq_false c4; clear c4; obtain rfl := Option.some.inj H
    go_enter Try.func59, Try.ntmps59
    go_wp2
    go_ret
    exact ⟨by first | rfl | (simp; done) | (simp [*]; done), by repeat (first | exact Drawn0.refl _ | apply Drawn0.step)⟩
end
section
attribute [local go_sem high] eqA27
open Go.Proofs.YtoifpgkfpdeglaaW.PrintWords renaming pw_below_drewN → yaa, below_alloc → yab, below_drew1 → yac, below_set → yae
open Go.Proofs.YtoifpgkfpdeglaaW.PrintWords.Aside0 renaming mk → yad
def impl_OpOk.j0 : Nat → Int → Bool → Int → Int → Int → Int → Int → Option (Bool)
 | 0, _, _, _, _, _, _, _ => none
 | k + 1, x4, x25, x102000, x102001, x102002, x102003, x102004 => if x25 = true then (some (x102001 == 0 && (x102002 == 0 && (x102003 == 0 && (x102004 == 0))))) else (if x4 = 7 then ((impl_sizeOk.f x102001).bind fun t106 => (if t106 = true then ((impl_sizeOk.f x102002).bind fun t107 => (if t107 = true then (if x102003 = 0 then (some (x102004 == 0)) else (some false)) else (some false))) else (some false))) else (if x4 = 8 then ((impl_partOk.f x102001).bind fun t108 => (if t108 = true then ((impl_partOk.f x102002).bind fun t109 => (if t109 = true then ((impl_partOk.f x102003).bind fun t110 => (if t110 = true then (some (x102004 == 0)) else (some false))) else (some false))) else (some false))) else (some false)))
def impl_OpOk.f (k : Nat) (a0_0 : Int) (a0_1 : Int) (a0_2 : Int) (a0_3 : Int) (a0_4 : Int) : Option (Bool) := if a0_0 = 1 then ((impl_within.f a0_1 0 5).bind fun t102 => (if t102 = true then ((impl_within.f a0_2 0 5).bind fun t103 => (if t103 = true then ((impl_sizeOk.f a0_3).bind fun t104 => (if t104 = true then ((impl_sizeOk.f a0_4).bind fun t105 => (some t105)) else (some false))) else (some false))) else (some false))) else (if a0_0 = 2 then (impl_OpOk.j0 k a0_0 (a0_0 == 2) a0_0 a0_1 a0_2 a0_3 a0_4) else (if a0_0 = 3 then (impl_OpOk.j0 k a0_0 (a0_0 == 3) a0_0 a0_1 a0_2 a0_3 a0_4) else (if a0_0 = 4 then (impl_OpOk.j0 k a0_0 (a0_0 == 4) a0_0 a0_1 a0_2 a0_3 a0_4) else (if a0_0 = 5 then (impl_OpOk.j0 k a0_0 (a0_0 == 5) a0_0 a0_1 a0_2 a0_3 a0_4) else (impl_OpOk.j0 k a0_0 (a0_0 == 6) a0_0 a0_1 a0_2 a0_3 a0_4)))))
set_option maxHeartbeats 8000000 in
set_option maxRecDepth 100000 in
theorem impl_OpOk.calls (k : Nat) (a0_0 : Int) (a0_1 : Int) (a0_2 : Int) (a0_3 : Int) (a0_4 : Int) (r : Bool) (w : World) (h : impl_OpOk.f k a0_0 a0_1 a0_2 a0_3 a0_4 = some r) :
  Calls Try.prog 36 #[.agg #[.int .i64 a0_0, .int .i64 a0_1, .int .i64 a0_2, .int .i64 a0_3, .int .i64 a0_4]] w fun e w' => e = .returned (.bool r) ∧ Below w.heap.size w w' := by
 have hu27 := Try.underlying27; have HB := yad (Below.refl w.heap.size w); have H : (if a0_0 = 1 then ((impl_within.f a0_1 0 5).bind fun h7 => (if h7 = true then ((impl_within.f a0_2 0 5).bind fun h8 => (if h8 = true then ((impl_sizeOk.f a0_3).bind fun h9 => (if h9 = true then ((impl_sizeOk.f a0_4).bind fun i0 => (some i0)) else (some false))) else (some false))) else (some false))) else (if a0_0 = 2 then (impl_OpOk.j0 k a0_0 (a0_0 == 2) a0_0 a0_1 a0_2 a0_3 a0_4) else (if a0_0 = 3 then (impl_OpOk.j0 k a0_0 (a0_0 == 3) a0_0 a0_1 a0_2 a0_3 a0_4) else (if a0_0 = 4 then (impl_OpOk.j0 k a0_0 (a0_0 == 4) a0_0 a0_1 a0_2 a0_3 a0_4) else (if a0_0 = 5 then (impl_OpOk.j0 k a0_0 (a0_0 == 5) a0_0 a0_1 a0_2 a0_3 a0_4) else (impl_OpOk.j0 k a0_0 (a0_0 == 6) a0_0 a0_1 a0_2 a0_3 a0_4)))))) = some r := h; clear h
 by_cases c2 : a0_0 = 1
 ·
  rw [if_pos c2] at H
  have i1 := beq_iff_eq.mpr c2; have i2 := bne_eq_false_iff_eq.mpr c2; clear c2; obtain ⟨h7, A3, H⟩ := bindA H; (try dsimp only at H)
  by_cases c4 : h7 = true
  rotate_left
  ·
   replace c4 := Bool.eq_false_iff.mpr c4
   subst c4
   rw [if_neg (show ¬ (false = true) by decide)] at H
   obtain rfl := Option.some.inj H
   go_enter Try.func36, Try.ntmps36
   go_wp2_with (first | ((with_reducible refine gd_ 1 rfl ?_); refine bx_ 1 rfl #[.int .i64 a0_0, .int .i64 a0_1, .int .i64 a0_2, .int .i64 a0_3, .int .i64 a0_4] 27 ?_; intro a6 hg w16 hbox hb; have a5 := yad (hbox); have a7 := yad ((by rw [hg]; exact (below_size (upH HB.out)) : w.heap.size ≤ a6)); replace HB := yad (below_step (upH HB.out) hb); have b2 := a7; clear hb hbox hg; obtain ⟨f0, f1, f2, f3, f4⟩ := cc5_ a5.out; obtain ⟨f5, f6, f7, f8⟩ := cf4_ a5.out; have f9 := blk_frozen a5.out 4) | ((with_reducible refine gc_ 59 rfl ?_); refine gl_ (some 9) rfl Try.func59 #[.int .i64 a0_1, .int .i64 0, .int .i64 5] ?_; (with_reducible refine (impl_within.calls a0_1 0 5 false _ A3.out).mono ?_); rintro e w' ⟨rfl, ⟨nd, rfl⟩⟩; refine ⟨_, rfl, ?_⟩))
   go_ret
   exact ⟨by first | rfl | (simp [*, errW_none, errW_some] <;> rfl), by repeat (with_reducible first | exact HB.out | apply yab | apply yaa | apply yac | refine yae ?_ (Aside0.out ‹_›))⟩
  subst c4
  rw [if_pos rfl] at H
  obtain ⟨h8, A5, H⟩ := bindA H; (try dsimp only at H)
  by_cases c6 : h8 = true
  ·
   subst c6
   rw [if_pos rfl] at H
   obtain ⟨h9, A7, H⟩ := bindA H; (try dsimp only at H)
   by_cases c8 : h9 = true
   ·
    subst c8
    rw [if_pos rfl] at H
    obtain ⟨i0, A9, H⟩ := bindA H; (try dsimp only at H); obtain rfl := Option.some.inj H
    go_enter Try.func36, Try.ntmps36
    go_wp2_with (first | ((with_reducible refine gd_ 1 rfl ?_); refine bx_ 1 rfl #[.int .i64 a0_0, .int .i64 a0_1, .int .i64 a0_2, .int .i64 a0_3, .int .i64 a0_4] 27 ?_; intro a6 hg w10 hbox hb; have a5 := yad (hbox); have a7 := yad ((by rw [hg]; exact (below_size (upH HB.out)) : w.heap.size ≤ a6)); replace HB := yad (below_step (upH HB.out) hb); have b2 := a7; clear hb hbox hg; obtain ⟨b3, b4, b5, b6, b7⟩ := cc5_ a5.out; obtain ⟨b8, b9, c0, c1⟩ := cf4_ a5.out; have c9 := blk_frozen a5.out 4) | ((with_reducible refine gc_ 59 rfl ?_); refine gl_ (some 9) rfl Try.func59 #[.int .i64 a0_1, .int .i64 0, .int .i64 5] ?_; (with_reducible refine (impl_within.calls a0_1 0 5 true _ A3.out).mono ?_); rintro e w' ⟨rfl, ⟨nd, rfl⟩⟩; refine ⟨_, rfl, ?_⟩) | (go_at_call 59; (with_reducible refine (impl_within.calls a0_2 0 5 true _ A5.out).mono ?_); rintro e w' ⟨rfl, ⟨nd, rfl⟩⟩) | (go_at_call 42; (with_reducible refine (impl_sizeOk.calls a0_3 true _ A7.out).mono ?_); rintro e w' ⟨rfl, ⟨nd, rfl⟩⟩) | (go_at_call 42; (with_reducible refine (impl_sizeOk.calls a0_4 i0 _ A9.out).mono ?_); rintro e w' ⟨rfl, ⟨nd, rfl⟩⟩))
    go_ret
    exact ⟨by first | rfl | (simp [*, errW_none, errW_some] <;> rfl), by repeat (with_reducible first | exact HB.out | apply yab | apply yaa | apply yac | refine yae ?_ (Aside0.out ‹_›))⟩
   replace c8 := Bool.eq_false_iff.mpr c8
   subst c8
   rw [if_neg (show ¬ (false = true) by decide)] at H
   obtain rfl := Option.some.inj H
   go_enter Try.func36, Try.ntmps36
   go_wp2_with (first | ((with_reducible refine gd_ 1 rfl ?_); refine bx_ 1 rfl #[.int .i64 a0_0, .int .i64 a0_1, .int .i64 a0_2, .int .i64 a0_3, .int .i64 a0_4] 27 ?_; intro a6 hg w12 hbox hb; have a5 := yad (hbox); have a7 := yad ((by rw [hg]; exact (below_size (upH HB.out)) : w.heap.size ≤ a6)); replace HB := yad (below_step (upH HB.out) hb); have b2 := a7; clear hb hbox hg; obtain ⟨d0, d1, d2, d3, d4⟩ := cc5_ a5.out; obtain ⟨d5, d6, d7, d8⟩ := cf4_ a5.out; have d9 := blk_frozen a5.out 4) | ((with_reducible refine gc_ 59 rfl ?_); refine gl_ (some 9) rfl Try.func59 #[.int .i64 a0_1, .int .i64 0, .int .i64 5] ?_; (with_reducible refine (impl_within.calls a0_1 0 5 true _ A3.out).mono ?_); rintro e w' ⟨rfl, ⟨nd, rfl⟩⟩; refine ⟨_, rfl, ?_⟩) | (go_at_call 59; (with_reducible refine (impl_within.calls a0_2 0 5 true _ A5.out).mono ?_); rintro e w' ⟨rfl, ⟨nd, rfl⟩⟩) | (go_at_call 42; (with_reducible refine (impl_sizeOk.calls a0_3 false _ A7.out).mono ?_); rintro e w' ⟨rfl, ⟨nd, rfl⟩⟩))
   go_ret
   exact ⟨by first | rfl | (simp [*, errW_none, errW_some] <;> rfl), by repeat (with_reducible first | exact HB.out | apply yab | apply yaa | apply yac | refine yae ?_ (Aside0.out ‹_›))⟩
  replace c6 := Bool.eq_false_iff.mpr c6
  subst c6
  rw [if_neg (show ¬ (false = true) by decide)] at H
  obtain rfl := Option.some.inj H
  go_enter Try.func36, Try.ntmps36
  go_wp2_with (first | ((with_reducible refine gd_ 1 rfl ?_); refine bx_ 1 rfl #[.int .i64 a0_0, .int .i64 a0_1, .int .i64 a0_2, .int .i64 a0_3, .int .i64 a0_4] 27 ?_; intro a6 hg w14 hbox hb; have a5 := yad (hbox); have a7 := yad ((by rw [hg]; exact (below_size (upH HB.out)) : w.heap.size ≤ a6)); replace HB := yad (below_step (upH HB.out) hb); have b2 := a7; clear hb hbox hg; obtain ⟨e0, e1, e2, e3, e4⟩ := cc5_ a5.out; obtain ⟨e5, e6, e7, e8⟩ := cf4_ a5.out; have e9 := blk_frozen a5.out 4) | ((with_reducible refine gc_ 59 rfl ?_); refine gl_ (some 9) rfl Try.func59 #[.int .i64 a0_1, .int .i64 0, .int .i64 5] ?_; (with_reducible refine (impl_within.calls a0_1 0 5 true _ A3.out).mono ?_); rintro e w' ⟨rfl, ⟨nd, rfl⟩⟩; refine ⟨_, rfl, ?_⟩) | (go_at_call 59; (with_reducible refine (impl_within.calls a0_2 0 5 false _ A5.out).mono ?_); rintro e w' ⟨rfl, ⟨nd, rfl⟩⟩))
  go_ret
  exact ⟨by first | rfl | (simp [*, errW_none, errW_some] <;> rfl), by repeat (with_reducible first | exact HB.out | apply yab | apply yaa | apply yac | refine yae ?_ (Aside0.out ‹_›))⟩
 rw [if_neg c2] at H
 have i1 := beq_eq_false_iff_ne.mpr c2; have i2 := bne_iff_ne.mpr c2; have HC18 := yad H; clear H
 go_enter Try.func36, Try.ntmps36
 go_upto_if 25 with (first | ((with_reducible refine gd_ 1 rfl ?_); refine bx_ 1 rfl #[.int .i64 a0_0, .int .i64 a0_1, .int .i64 a0_2, .int .i64 a0_3, .int .i64 a0_4] 27 ?_; intro a6 hg w19 hbox hb; have a5 := yad (hbox); have a7 := yad ((by rw [hg]; exact (below_size (upH HB.out)) : w.heap.size ≤ a6)); replace HB := yad (below_step (upH HB.out) hb); have b2 := a7; clear hb hbox hg; obtain ⟨g0, g1, g2, g3, g4⟩ := cc5_ a5.out; obtain ⟨g5, g6, g7, g8⟩ := cf4_ a5.out; have g9 := blk_frozen a5.out 4))
 (try simp only [Act.put, List.setIfInBounds_toArray, List.set_cons_zero, List.set_cons_succ])
 go_cut [25] (fun v25 wc => ∃ (kq : Nat) (b0 : Bool), v25 = .bool b0 ∧ Aside0 (impl_OpOk.j0 kq a0_0 b0 a0_0 a0_1 a0_2 a0_3 a0_4 = some r) ∧ Aside0 (kq ≤ k) ∧ Aside0 (wc.heap[a6]? = some (.cells #[.int .i64 a0_0, .int .i64 a0_1, .int .i64 a0_2, .int .i64 a0_3, .int .i64 a0_4] 27 (0, 0))) ∧ Aside0 (Below w.heap.size w wc))
 case first =>
  have H := HC18.out; clear HC18
  by_cases c21 : a0_0 = 2
  ·
   rw [if_pos c21] at H
   have a9 := beq_iff_eq.mpr c21; have h0 := bne_eq_false_iff_eq.mpr c21; clear c21
   (first | rw [a9] | (simp only [i64_w, i32_w]; rw [a9]) | skip)
   have H' := yad H; clear H
   go_wp2
   go_meet
   case rel => exact ⟨_, ((a0_0 == 2)), (by first | rfl | (simp; done) | (simp [*]; done)), H', ⟨by first | omega | exact Nat.le_refl _⟩, ⟨by exact upB a5.out⟩, ⟨by repeat (with_reducible first | exact HB.out | apply yab | apply yaa | apply yac | refine yae ?_ (Aside0.out ‹_›))⟩⟩
  rw [if_neg c21] at H
  have a9 := beq_eq_false_iff_ne.mpr c21; have h0 := bne_iff_ne.mpr c21
  (first | rw [a9] | (simp only [i64_w, i32_w]; rw [a9]) | skip)
  by_cases c22 : a0_0 = 3
  ·
   rw [if_pos c22] at H
   have h1 := beq_iff_eq.mpr c22; have h2 := bne_eq_false_iff_eq.mpr c22; clear c22; have H' := yad H; clear H
   go_wp2
   go_meet
   case rel => exact ⟨_, ((a0_0 == 3)), (by first | rfl | (simp; done) | (simp [*]; done)), H', ⟨by first | omega | exact Nat.le_refl _⟩, ⟨by exact upB a5.out⟩, ⟨by repeat (with_reducible first | exact HB.out | apply yab | apply yaa | apply yac | refine yae ?_ (Aside0.out ‹_›))⟩⟩
  rw [if_neg c22] at H
  have h1 := beq_eq_false_iff_ne.mpr c22; have h2 := bne_iff_ne.mpr c22
  by_cases c23 : a0_0 = 4
  ·
   rw [if_pos c23] at H
   have h3 := beq_iff_eq.mpr c23; have h4 := bne_eq_false_iff_eq.mpr c23; clear c23; have H' := yad H; clear H
   go_wp2
   go_meet
   case rel => exact ⟨_, ((a0_0 == 4)), (by first | rfl | (simp; done) | (simp [*]; done)), H', ⟨by first | omega | exact Nat.le_refl _⟩, ⟨by exact upB a5.out⟩, ⟨by repeat (with_reducible first | exact HB.out | apply yab | apply yaa | apply yac | refine yae ?_ (Aside0.out ‹_›))⟩⟩
  rw [if_neg c23] at H
  have h3 := beq_eq_false_iff_ne.mpr c23; have h4 := bne_iff_ne.mpr c23
  by_cases c24 : a0_0 = 5
  ·
   rw [if_pos c24] at H
   have h5 := beq_iff_eq.mpr c24; have h6 := bne_eq_false_iff_eq.mpr c24; clear c24; have H' := yad H; clear H
   go_wp2
   go_meet
   case rel => exact ⟨_, ((a0_0 == 5)), (by first | rfl | (simp; done) | (simp [*]; done)), H', ⟨by first | omega | exact Nat.le_refl _⟩, ⟨by exact upB a5.out⟩, ⟨by repeat (with_reducible first | exact HB.out | apply yab | apply yaa | apply yac | refine yae ?_ (Aside0.out ‹_›))⟩⟩
  rw [if_neg c24] at H
  have h5 := beq_eq_false_iff_ne.mpr c24; have h6 := bne_iff_ne.mpr c24; have H' := yad H; clear H
  go_wp2
  go_meet
  case rel => exact ⟨_, ((a0_0 == 6)), (by first | rfl | (simp; done) | (simp [*]; done)), H', ⟨by first | omega | exact Nat.le_refl _⟩, ⟨by exact upB a5.out⟩, ⟨by repeat (with_reducible first | exact HB.out | apply yab | apply yaa | apply yac | refine yae ?_ (Aside0.out ‹_›))⟩⟩
 case rest =>
  clear HC18; (try clear c2); (try clear i1); (try clear i2); (try clear p2); (try clear c3); (try clear c4); (try clear c5); (try clear c6); (try clear c8); (try clear c21); (try clear a9); (try clear h0); (try clear c22); (try clear h1); (try clear h2); (try clear c23); (try clear h3); (try clear h4); (try clear c24); (try clear h5); (try clear h6); (try clear b3); (try clear b4); (try clear b5); (try clear b6); (try clear b7); (try clear d0); (try clear d1); (try clear d2); (try clear d3); (try clear d4); (try clear e0); (try clear e1); (try clear e2); (try clear e3); (try clear e4); (try clear f0); (try clear f1); (try clear f2); (try clear f3); (try clear f4); (try clear g0); (try clear g1); (try clear g2); (try clear g3); (try clear g4); (try clear b8); (try clear b9); (try clear c0); (try clear c1); (try clear c9); (try clear d5); (try clear d6); (try clear d7); (try clear d8); (try clear d9); (try clear e5); (try clear e6); (try clear e7); (try clear e8); (try clear e9); (try clear f5); (try clear f6); (try clear f7); (try clear f8); (try clear f9); (try clear g5); (try clear g6); (try clear g7); (try clear g8); (try clear g9); obtain ⟨kq, b0, rfl, HA, HJ17, a5, HB⟩ := hcut
  cases kq with
  | zero => exact absurd HA.out (by simp [impl_OpOk.j0])
  | succ kj17 =>
   have H := HA.out; clear HA
   simp only [impl_OpOk.j0] at H
   by_cases c25 : b0 = true
   ·
    subst c25
    rw [if_pos rfl] at H
    obtain rfl := Option.some.inj H; obtain ⟨i9, j1, j2, j3, j4⟩ := cc5_ a5.out; obtain ⟨j5, j6, j7, j8, j9⟩ := cf5_ a5.out
    go_wp2
    go_ret
    exact ⟨by first | rfl | (simp [*, errW_none, errW_some] <;> rfl), by repeat (with_reducible first | exact HB.out | apply yab | apply yaa | apply yac | refine yae ?_ (Aside0.out ‹_›))⟩
   replace c25 := Bool.eq_false_iff.mpr c25
   subst c25
   rw [if_neg (show ¬ (false = true) by decide)] at H
   by_cases c27 : a0_0 = 7
   ·
    rw [if_pos c27] at H
    have i3 := beq_iff_eq.mpr c27; have i4 := bne_eq_false_iff_eq.mpr c27; clear c27; obtain ⟨s1, A28, H⟩ := bindA H; (try dsimp only at H)
    by_cases c29 : s1 = true
    rotate_left
    ·
     replace c29 := Bool.eq_false_iff.mpr c29
     subst c29
     rw [if_neg (show ¬ (false = true) by decide)] at H
     obtain rfl := Option.some.inj H; obtain ⟨n0, n1, n2, n3, n4⟩ := cc5_ a5.out; obtain ⟨n5, n6, n7, n8, n9⟩ := cf5_ a5.out
     go_wp2_with (first | ((with_reducible refine gc_ 42 rfl ?_); refine gl_ (some 40) rfl Try.func42 #[.int .i64 a0_1] ?_; (with_reducible refine (impl_sizeOk.calls a0_1 false _ A28.out).mono ?_); rintro e w' ⟨rfl, ⟨nd, rfl⟩⟩; refine ⟨_, rfl, ?_⟩))
     go_ret
     exact ⟨by first | rfl | (simp [*, errW_none, errW_some] <;> rfl), by repeat (with_reducible first | exact HB.out | apply yab | apply yaa | apply yac | refine yae ?_ (Aside0.out ‹_›))⟩
    subst c29
    rw [if_pos rfl] at H
    obtain ⟨s2, A30, H⟩ := bindA H; (try dsimp only at H)
    by_cases c31 : s2 = true
    ·
     subst c31
     rw [if_pos rfl] at H
     by_cases c32 : a0_3 = 0
     ·
      rw [if_pos c32] at H
      have i5 := beq_iff_eq.mpr c32; have i6 := bne_eq_false_iff_eq.mpr c32; clear c32; obtain rfl := Option.some.inj H; obtain ⟨k0, k1, k2, k3, k4⟩ := cc5_ a5.out; obtain ⟨k5, k6, k7, k8, k9⟩ := cf5_ a5.out
      go_wp2_with (first | ((with_reducible refine gc_ 42 rfl ?_); refine gl_ (some 40) rfl Try.func42 #[.int .i64 a0_1] ?_; (with_reducible refine (impl_sizeOk.calls a0_1 true _ A28.out).mono ?_); rintro e w' ⟨rfl, ⟨nd, rfl⟩⟩; refine ⟨_, rfl, ?_⟩) | (go_at_call 42; (with_reducible refine (impl_sizeOk.calls a0_2 true _ A30.out).mono ?_); rintro e w' ⟨rfl, ⟨nd, rfl⟩⟩))
      go_ret
      exact ⟨by first | rfl | (simp [*, errW_none, errW_some] <;> rfl), by repeat (with_reducible first | exact HB.out | apply yab | apply yaa | apply yac | refine yae ?_ (Aside0.out ‹_›))⟩
     rw [if_neg c32] at H
     have i5 := beq_eq_false_iff_ne.mpr c32; have i6 := bne_iff_ne.mpr c32; obtain rfl := Option.some.inj H; obtain ⟨l0, l1, l2, l3, l4⟩ := cc5_ a5.out; obtain ⟨l5, l6, l7, l8, l9⟩ := cf5_ a5.out
     go_wp2_with (first | ((with_reducible refine gc_ 42 rfl ?_); refine gl_ (some 40) rfl Try.func42 #[.int .i64 a0_1] ?_; (with_reducible refine (impl_sizeOk.calls a0_1 true _ A28.out).mono ?_); rintro e w' ⟨rfl, ⟨nd, rfl⟩⟩; refine ⟨_, rfl, ?_⟩) | (go_at_call 42; (with_reducible refine (impl_sizeOk.calls a0_2 true _ A30.out).mono ?_); rintro e w' ⟨rfl, ⟨nd, rfl⟩⟩))
     go_ret
     exact ⟨by first | rfl | (simp [*, errW_none, errW_some] <;> rfl), by repeat (with_reducible first | exact HB.out | apply yab | apply yaa | apply yac | refine yae ?_ (Aside0.out ‹_›))⟩
    replace c31 := Bool.eq_false_iff.mpr c31
    subst c31
    rw [if_neg (show ¬ (false = true) by decide)] at H
    obtain rfl := Option.some.inj H; obtain ⟨m0, m1, m2, m3, m4⟩ := cc5_ a5.out; obtain ⟨m5, m6, m7, m8, m9⟩ := cf5_ a5.out
    go_wp2_with (first | ((with_reducible refine gc_ 42 rfl ?_); refine gl_ (some 40) rfl Try.func42 #[.int .i64 a0_1] ?_; (with_reducible refine (impl_sizeOk.calls a0_1 true _ A28.out).mono ?_); rintro e w' ⟨rfl, ⟨nd, rfl⟩⟩; refine ⟨_, rfl, ?_⟩) | (go_at_call 42; (with_reducible refine (impl_sizeOk.calls a0_2 false _ A30.out).mono ?_); rintro e w' ⟨rfl, ⟨nd, rfl⟩⟩))
    go_ret
    exact ⟨by first | rfl | (simp [*, errW_none, errW_some] <;> rfl), by repeat (with_reducible first | exact HB.out | apply yab | apply yaa | apply yac | refine yae ?_ (Aside0.out ‹_›))⟩
   rw [if_neg c27] at H
   have i3 := beq_eq_false_iff_ne.mpr c27; have i4 := bne_iff_ne.mpr c27
   by_cases c37 : a0_0 = 8
   rotate_left
   ·
    rw [if_neg c37] at H
    have i7 := beq_eq_false_iff_ne.mpr c37; have i8 := bne_iff_ne.mpr c37; obtain rfl := Option.some.inj H
    go_wp2
    go_ret
    exact ⟨by first | rfl | (simp [*, errW_none, errW_some] <;> rfl), by repeat (with_reducible first | exact HB.out | apply yab | apply yaa | apply yac | refine yae ?_ (Aside0.out ‹_›))⟩
   rw [if_pos c37] at H
   have i7 := beq_iff_eq.mpr c37; have i8 := bne_eq_false_iff_eq.mpr c37; clear c37; obtain ⟨s3, A38, H⟩ := bindA H; (try dsimp only at H)
   by_cases c39 : s3 = true
   rotate_left
   ·
    replace c39 := Bool.eq_false_iff.mpr c39
    subst c39
    rw [if_neg (show ¬ (false = true) by decide)] at H
    obtain rfl := Option.some.inj H; obtain ⟨r1, r2, r3, r4, r5⟩ := cc5_ a5.out; obtain ⟨r6, r7, r8, r9, s0⟩ := cf5_ a5.out
    go_wp2_with (first | ((with_reducible refine gc_ 60 rfl ?_); refine gl_ (some 60) rfl Try.func60 #[.int .i64 a0_1] ?_; (with_reducible refine (impl_partOk.calls a0_1 false _ A38.out).mono ?_); rintro e w' ⟨rfl, ⟨nd, rfl⟩⟩; refine ⟨_, rfl, ?_⟩))
    go_ret
    exact ⟨by first | rfl | (simp [*, errW_none, errW_some] <;> rfl), by repeat (with_reducible first | exact HB.out | apply yab | apply yaa | apply yac | refine yae ?_ (Aside0.out ‹_›))⟩
   subst c39
   rw [if_pos rfl] at H
   obtain ⟨s4, A40, H⟩ := bindA H; (try dsimp only at H)
   by_cases c41 : s4 = true
   ·
    subst c41
    rw [if_pos rfl] at H
    obtain ⟨s5, A42, H⟩ := bindA H; (try dsimp only at H)
    by_cases c43 : s5 = true
    ·
     subst c43
     rw [if_pos rfl] at H
     obtain rfl := Option.some.inj H; obtain ⟨o0, o1, o2, o3, o4⟩ := cc5_ a5.out; obtain ⟨o5, o6, o7, o8, o9⟩ := cf5_ a5.out
     go_wp2_with (first | ((with_reducible refine gc_ 60 rfl ?_); refine gl_ (some 60) rfl Try.func60 #[.int .i64 a0_1] ?_; (with_reducible refine (impl_partOk.calls a0_1 true _ A38.out).mono ?_); rintro e w' ⟨rfl, ⟨nd, rfl⟩⟩; refine ⟨_, rfl, ?_⟩) | (go_at_call 60; (with_reducible refine (impl_partOk.calls a0_2 true _ A40.out).mono ?_); rintro e w' ⟨rfl, ⟨nd, rfl⟩⟩) | (go_at_call 60; (with_reducible refine (impl_partOk.calls a0_3 true _ A42.out).mono ?_); rintro e w' ⟨rfl, ⟨nd, rfl⟩⟩))
     go_ret
     exact ⟨by first | rfl | (simp [*, errW_none, errW_some] <;> rfl), by repeat (with_reducible first | exact HB.out | apply yab | apply yaa | apply yac | refine yae ?_ (Aside0.out ‹_›))⟩
    replace c43 := Bool.eq_false_iff.mpr c43
    subst c43
    rw [if_neg (show ¬ (false = true) by decide)] at H
    obtain rfl := Option.some.inj H; obtain ⟨p0, p1, p3, p4, p5⟩ := cc5_ a5.out; obtain ⟨p6, p7, p8, p9, q0⟩ := cf5_ a5.out
    go_wp2_with (first | ((with_reducible refine gc_ 60 rfl ?_); refine gl_ (some 60) rfl Try.func60 #[.int .i64 a0_1] ?_; (with_reducible refine (impl_partOk.calls a0_1 true _ A38.out).mono ?_); rintro e w' ⟨rfl, ⟨nd, rfl⟩⟩; refine ⟨_, rfl, ?_⟩) | (go_at_call 60; (with_reducible refine (impl_partOk.calls a0_2 true _ A40.out).mono ?_); rintro e w' ⟨rfl, ⟨nd, rfl⟩⟩) | (go_at_call 60; (with_reducible refine (impl_partOk.calls a0_3 false _ A42.out).mono ?_); rintro e w' ⟨rfl, ⟨nd, rfl⟩⟩))
    go_ret
    exact ⟨by first | rfl | (simp [*, errW_none, errW_some] <;> rfl), by repeat (with_reducible first | exact HB.out | apply yab | apply yaa | apply yac | refine yae ?_ (Aside0.out ‹_›))⟩
   replace c41 := Bool.eq_false_iff.mpr c41
   subst c41
   rw [if_neg (show ¬ (false = true) by decide)] at H
   obtain rfl := Option.some.inj H; obtain ⟨q1, q2, q3, q4, q5⟩ := cc5_ a5.out; obtain ⟨q6, q7, q8, q9, r0⟩ := cf5_ a5.out
   go_wp2_with (first | ((with_reducible refine gc_ 60 rfl ?_); refine gl_ (some 60) rfl Try.func60 #[.int .i64 a0_1] ?_; (with_reducible refine (impl_partOk.calls a0_1 true _ A38.out).mono ?_); rintro e w' ⟨rfl, ⟨nd, rfl⟩⟩; refine ⟨_, rfl, ?_⟩) | (go_at_call 60; (with_reducible refine (impl_partOk.calls a0_2 false _ A40.out).mono ?_); rintro e w' ⟨rfl, ⟨nd, rfl⟩⟩))
   go_ret
   exact ⟨by first | rfl | (simp [*, errW_none, errW_some] <;> rfl), by repeat (with_reducible first | exact HB.out | apply yab | apply yaa | apply yac | refine yae ?_ (Aside0.out ‹_›))⟩
end
section
open Go.Proofs.Ytoifpgkfpdeglaa.X renaming rd_T27 → yaa
end
section
def spec_l1In.f (a0 : Int) (a1 : Int) (a2 : Int) : Option (Bool) := if a0 ≥ a1 then (some (decide (a0 ≤ a2))) else (some false)
set_option maxHeartbeats 8000000 in
set_option maxRecDepth 100000 in
theorem spec_l1In.calls (a0 : Int) (a1 : Int) (a2 : Int) (r : Bool) (w : World) (h : spec_l1In.f a0 a1 a2 = some r) :
    Calls Try.prog 41 #[.int .i64 a0, .int .i64 a1, .int .i64 a2] w fun e w' => e = .returned (.bool r) ∧ Drawn0 w w' := by
  have H : (if a0 ≥ a1 then (some (decide (a0 ≤ a2))) else (some false)) = some r := h; clear h
  by_cases c4 : a0 ≥ a1
  · rw [if_pos c4] at H
    have c4b0 : decide (a1 ≤ a0) = true := decide_eq_true c4; clear c4; obtain rfl := Option.some.inj H
    go_enter Try.func41, Try.ntmps41
    go_wp2
    go_ret
    exact ⟨by first | rfl | (simp; done) | (simp [*]; done), by repeat (first | exact Drawn0.refl _ | apply Drawn0.step)⟩
  · rw [if_neg c4] at H
    have c4b0 : decide (a1 ≤ a0) = false := decide_eq_false c4; clear c4; obtain rfl := Option.some.inj H
    go_enter Try.func41, Try.ntmps41
    go_wp2
    go_ret
    exact ⟨by first | rfl | (simp; done) | (simp [*]; done), by repeat (first | exact Drawn0.refl _ | apply Drawn0.step)⟩
end
section
open Go.Proofs.YtoifpgkfpdeglaaW.PrintWords.Aside0 renaming mk → yaa
open Go.Proofs.YtoifpgkfpdeglaaW.PrintWords renaming pw_below_drewN → yab, below_alloc → yac, below_drew1 → yad, below_size → yae, below_step → yaf, blk_frozen → yag, below_set → yah
def spec_OpOk.f (a0_0 : Int) (a0_1 : Int) (a0_2 : Int) (a0_3 : Int) (a0_4 : Int) : Option (Bool) := if a0_0 = 1 then ((spec_l1In.f a0_1 0 5).bind fun t102 => (if t102 = true then ((spec_l1In.f a0_2 0 5).bind fun t103 => (if t103 = true then ((spec_l1In.f a0_3 1 6).bind fun t104 => (if t104 = true then ((spec_l1In.f a0_4 1 6).bind fun t105 => (some t105)) else (some false))) else (some false))) else (some false))) else (if a0_0 = 7 then ((spec_l1In.f a0_1 1 6).bind fun t106 => (if t106 = true then ((spec_l1In.f a0_2 1 6).bind fun t107 => (if t107 = true then (if a0_3 = 0 then (some (a0_4 == 0)) else (some false)) else (some false))) else (some false))) else (if a0_0 = 8 then ((spec_l1In.f a0_1 0 255).bind fun t108 => (if t108 = true then ((spec_l1In.f a0_2 0 255).bind fun t109 => (if t109 = true then ((spec_l1In.f a0_3 0 255).bind fun t110 => (if t110 = true then (some (a0_4 == 0)) else (some false))) else (some false))) else (some false))) else ((spec_l1In.f a0_0 2 6).bind fun t111 => (if t111 = true then (if a0_1 = 0 then (if a0_2 = 0 then (if a0_3 = 0 then (some (a0_4 == 0)) else (some false)) else (some false)) else (some false)) else (some false)))))
set_option maxHeartbeats 8000000 in
set_option maxRecDepth 100000 in
theorem spec_OpOk.calls (a0_0 : Int) (a0_1 : Int) (a0_2 : Int) (a0_3 : Int) (a0_4 : Int) (r : Bool) (w : World) (h : spec_OpOk.f a0_0 a0_1 a0_2 a0_3 a0_4 = some r) :
  Calls Try.prog 38 #[.agg #[.int .i64 a0_0, .int .i64 a0_1, .int .i64 a0_2, .int .i64 a0_3, .int .i64 a0_4]] w fun e w' => e = .returned (.bool r) ∧ Below w.heap.size w w' := by
 have hu27 := Try.underlying27; have HB := yaa (Below.refl w.heap.size w); have H : (if a0_0 = 1 then ((spec_l1In.f a0_1 0 5).bind fun a6 => (if a6 = true then ((spec_l1In.f a0_2 0 5).bind fun a7 => (if a7 = true then ((spec_l1In.f a0_3 1 6).bind fun a8 => (if a8 = true then ((spec_l1In.f a0_4 1 6).bind fun a9 => (some a9)) else (some false))) else (some false))) else (some false))) else (if a0_0 = 7 then ((spec_l1In.f a0_1 1 6).bind fun b0 => (if b0 = true then ((spec_l1In.f a0_2 1 6).bind fun b1 => (if b1 = true then (if a0_3 = 0 then (some (a0_4 == 0)) else (some false)) else (some false))) else (some false))) else (if a0_0 = 8 then ((spec_l1In.f a0_1 0 255).bind fun b2 => (if b2 = true then ((spec_l1In.f a0_2 0 255).bind fun b3 => (if b3 = true then ((spec_l1In.f a0_3 0 255).bind fun b4 => (if b4 = true then (some (a0_4 == 0)) else (some false))) else (some false))) else (some false))) else ((spec_l1In.f a0_0 2 6).bind fun b5 => (if b5 = true then (if a0_1 = 0 then (if a0_2 = 0 then (if a0_3 = 0 then (some (a0_4 == 0)) else (some false)) else (some false)) else (some false)) else (some false)))))) = some r := h; clear h
 by_cases c2 : a0_0 = 1
 ·
  rw [if_pos c2] at H
  have u2 := beq_iff_eq.mpr c2; have u3 := bne_eq_false_iff_eq.mpr c2; clear c2; obtain ⟨a6, A3, H⟩ := bindA H; (try dsimp only at H)
  by_cases c4 : a6 = true
  rotate_left
  ·
   replace c4 := Bool.eq_false_iff.mpr c4
   subst c4
   rw [if_neg (show ¬ (false = true) by decide)] at H
   obtain rfl := Option.some.inj H
   go_enter Try.func38, Try.ntmps38
   go_wp2_with (first | ((with_reducible refine gd_ 1 rfl ?_); refine bx_ 1 rfl #[.int .i64 a0_0, .int .i64 a0_1, .int .i64 a0_2, .int .i64 a0_3, .int .i64 a0_4] 27 ?_; intro a1 hg w16 hbox hb; have a0 := yaa (hbox); have a2 := yaa ((by rw [hg]; exact (yae (upH HB.out)) : w.heap.size ≤ a1)); replace HB := yaa (yaf (upH HB.out) hb); have a3 := a2; clear hb hbox hg; obtain ⟨g2, g3, g4, g5, g6⟩ := cc5_ a0.out; obtain ⟨g7, g8, g9, h0⟩ := cf4_ a0.out; have h1 := yag a0.out 4) | ((with_reducible refine gc_ 41 rfl ?_); refine gl_ (some 9) rfl Try.func41 #[.int .i64 a0_1, .int .i64 0, .int .i64 5] ?_; (with_reducible refine (spec_l1In.calls a0_1 0 5 false _ A3.out).mono ?_); rintro e w' ⟨rfl, ⟨nd, rfl⟩⟩; refine ⟨_, rfl, ?_⟩))
   go_ret
   exact ⟨by first | rfl | (simp [*, errW_none, errW_some] <;> rfl), by repeat (with_reducible first | exact HB.out | apply yac | apply yab | apply yad | refine yah ?_ (Aside0.out ‹_›))⟩
  subst c4
  rw [if_pos rfl] at H
  obtain ⟨a7, A5, H⟩ := bindA H; (try dsimp only at H)
  by_cases c6 : a7 = true
  ·
   subst c6
   rw [if_pos rfl] at H
   obtain ⟨a8, A7, H⟩ := bindA H; (try dsimp only at H)
   by_cases c8 : a8 = true
   ·
    subst c8
    rw [if_pos rfl] at H
    obtain ⟨a9, A9, H⟩ := bindA H; (try dsimp only at H); obtain rfl := Option.some.inj H
    go_enter Try.func38, Try.ntmps38
    go_wp2_with (first | ((with_reducible refine gd_ 1 rfl ?_); refine bx_ 1 rfl #[.int .i64 a0_0, .int .i64 a0_1, .int .i64 a0_2, .int .i64 a0_3, .int .i64 a0_4] 27 ?_; intro a1 hg w10 hbox hb; have a0 := yaa (hbox); have a2 := yaa ((by rw [hg]; exact (yae (upH HB.out)) : w.heap.size ≤ a1)); replace HB := yaa (yaf (upH HB.out) hb); have a3 := a2; clear hb hbox hg; obtain ⟨d2, d3, d4, d5, d6⟩ := cc5_ a0.out; obtain ⟨d7, d8, d9, e0⟩ := cf4_ a0.out; have e1 := yag a0.out 4) | ((with_reducible refine gc_ 41 rfl ?_); refine gl_ (some 9) rfl Try.func41 #[.int .i64 a0_1, .int .i64 0, .int .i64 5] ?_; (with_reducible refine (spec_l1In.calls a0_1 0 5 true _ A3.out).mono ?_); rintro e w' ⟨rfl, ⟨nd, rfl⟩⟩; refine ⟨_, rfl, ?_⟩) | (go_at_call 41; (with_reducible refine (spec_l1In.calls a0_2 0 5 true _ A5.out).mono ?_); rintro e w' ⟨rfl, ⟨nd, rfl⟩⟩) | (go_at_call 41; (with_reducible refine (spec_l1In.calls a0_3 1 6 true _ A7.out).mono ?_); rintro e w' ⟨rfl, ⟨nd, rfl⟩⟩) | (go_at_call 41; (with_reducible refine (spec_l1In.calls a0_4 1 6 a9 _ A9.out).mono ?_); rintro e w' ⟨rfl, ⟨nd, rfl⟩⟩))
    go_ret
    exact ⟨by first | rfl | (simp [*, errW_none, errW_some] <;> rfl), by repeat (with_reducible first | exact HB.out | apply yac | apply yab | apply yad | refine yah ?_ (Aside0.out ‹_›))⟩
   replace c8 := Bool.eq_false_iff.mpr c8
   subst c8
   rw [if_neg (show ¬ (false = true) by decide)] at H
   obtain rfl := Option.some.inj H
   go_enter Try.func38, Try.ntmps38
   go_wp2_with (first | ((with_reducible refine gd_ 1 rfl ?_); refine bx_ 1 rfl #[.int .i64 a0_0, .int .i64 a0_1, .int .i64 a0_2, .int .i64 a0_3, .int .i64 a0_4] 27 ?_; intro a1 hg w12 hbox hb; have a0 := yaa (hbox); have a2 := yaa ((by rw [hg]; exact (yae (upH HB.out)) : w.heap.size ≤ a1)); replace HB := yaa (yaf (upH HB.out) hb); have a3 := a2; clear hb hbox hg; obtain ⟨e2, e3, e4, e5, e6⟩ := cc5_ a0.out; obtain ⟨e7, e8, e9, f0⟩ := cf4_ a0.out; have f1 := yag a0.out 4) | ((with_reducible refine gc_ 41 rfl ?_); refine gl_ (some 9) rfl Try.func41 #[.int .i64 a0_1, .int .i64 0, .int .i64 5] ?_; (with_reducible refine (spec_l1In.calls a0_1 0 5 true _ A3.out).mono ?_); rintro e w' ⟨rfl, ⟨nd, rfl⟩⟩; refine ⟨_, rfl, ?_⟩) | (go_at_call 41; (with_reducible refine (spec_l1In.calls a0_2 0 5 true _ A5.out).mono ?_); rintro e w' ⟨rfl, ⟨nd, rfl⟩⟩) | (go_at_call 41; (with_reducible refine (spec_l1In.calls a0_3 1 6 false _ A7.out).mono ?_); rintro e w' ⟨rfl, ⟨nd, rfl⟩⟩))
   go_ret
   exact ⟨by first | rfl | (simp [*, errW_none, errW_some] <;> rfl), by repeat (with_reducible first | exact HB.out | apply yac | apply yab | apply yad | refine yah ?_ (Aside0.out ‹_›))⟩
  replace c6 := Bool.eq_false_iff.mpr c6
  subst c6
  rw [if_neg (show ¬ (false = true) by decide)] at H
  obtain rfl := Option.some.inj H
  go_enter Try.func38, Try.ntmps38
  go_wp2_with (first | ((with_reducible refine gd_ 1 rfl ?_); refine bx_ 1 rfl #[.int .i64 a0_0, .int .i64 a0_1, .int .i64 a0_2, .int .i64 a0_3, .int .i64 a0_4] 27 ?_; intro a1 hg w14 hbox hb; have a0 := yaa (hbox); have a2 := yaa ((by rw [hg]; exact (yae (upH HB.out)) : w.heap.size ≤ a1)); replace HB := yaa (yaf (upH HB.out) hb); have a3 := a2; clear hb hbox hg; obtain ⟨f2, f3, f4, f5, f6⟩ := cc5_ a0.out; obtain ⟨f7, f8, f9, g0⟩ := cf4_ a0.out; have g1 := yag a0.out 4) | ((with_reducible refine gc_ 41 rfl ?_); refine gl_ (some 9) rfl Try.func41 #[.int .i64 a0_1, .int .i64 0, .int .i64 5] ?_; (with_reducible refine (spec_l1In.calls a0_1 0 5 true _ A3.out).mono ?_); rintro e w' ⟨rfl, ⟨nd, rfl⟩⟩; refine ⟨_, rfl, ?_⟩) | (go_at_call 41; (with_reducible refine (spec_l1In.calls a0_2 0 5 false _ A5.out).mono ?_); rintro e w' ⟨rfl, ⟨nd, rfl⟩⟩))
  go_ret
  exact ⟨by first | rfl | (simp [*, errW_none, errW_some] <;> rfl), by repeat (with_reducible first | exact HB.out | apply yac | apply yab | apply yad | refine yah ?_ (Aside0.out ‹_›))⟩
 rw [if_neg c2] at H
 have u2 := beq_eq_false_iff_ne.mpr c2; have u3 := bne_iff_ne.mpr c2
 by_cases c18 : a0_0 = 7
 ·
  rw [if_pos c18] at H
  have b6 := beq_iff_eq.mpr c18; have b7 := bne_eq_false_iff_eq.mpr c18; clear c18; obtain ⟨b0, A19, H⟩ := bindA H; (try dsimp only at H)
  by_cases c20 : b0 = true
  rotate_left
  ·
   replace c20 := Bool.eq_false_iff.mpr c20
   subst c20
   rw [if_neg (show ¬ (false = true) by decide)] at H
   obtain rfl := Option.some.inj H
   go_enter Try.func38, Try.ntmps38
   go_wp2_with (first | ((with_reducible refine gd_ 1 rfl ?_); refine bx_ 1 rfl #[.int .i64 a0_0, .int .i64 a0_1, .int .i64 a0_2, .int .i64 a0_3, .int .i64 a0_4] 27 ?_; intro a1 hg w30 hbox hb; have a0 := yaa (hbox); have a2 := yaa ((by rw [hg]; exact (yae (upH HB.out)) : w.heap.size ≤ a1)); replace HB := yaa (yaf (upH HB.out) hb); have a3 := a2; clear hb hbox hg; obtain ⟨k2, k3, k4, k5, k6⟩ := cc5_ a0.out; obtain ⟨k7, k8, k9, l0⟩ := cf4_ a0.out; have l1 := yag a0.out 4) | ((with_reducible refine gc_ 41 rfl ?_); refine gl_ (some 29) rfl Try.func41 #[.int .i64 a0_1, .int .i64 1, .int .i64 6] ?_; (with_reducible refine (spec_l1In.calls a0_1 1 6 false _ A19.out).mono ?_); rintro e w' ⟨rfl, ⟨nd, rfl⟩⟩; refine ⟨_, rfl, ?_⟩))
   go_ret
   exact ⟨by first | rfl | (simp [*, errW_none, errW_some] <;> rfl), by repeat (with_reducible first | exact HB.out | apply yac | apply yab | apply yad | refine yah ?_ (Aside0.out ‹_›))⟩
  subst c20
  rw [if_pos rfl] at H
  obtain ⟨b1, A21, H⟩ := bindA H; (try dsimp only at H)
  by_cases c22 : b1 = true
  ·
   subst c22
   rw [if_pos rfl] at H
   by_cases c23 : a0_3 = 0
   ·
    rw [if_pos c23] at H
    have b8 := beq_iff_eq.mpr c23; have b9 := bne_eq_false_iff_eq.mpr c23; clear c23; obtain rfl := Option.some.inj H
    go_enter Try.func38, Try.ntmps38
    go_wp2_with (first | ((with_reducible refine gd_ 1 rfl ?_); refine bx_ 1 rfl #[.int .i64 a0_0, .int .i64 a0_1, .int .i64 a0_2, .int .i64 a0_3, .int .i64 a0_4] 27 ?_; intro a1 hg w24 hbox hb; have a0 := yaa (hbox); have a2 := yaa ((by rw [hg]; exact (yae (upH HB.out)) : w.heap.size ≤ a1)); replace HB := yaa (yaf (upH HB.out) hb); have a3 := a2; clear hb hbox hg; obtain ⟨h2, h3, h4, h5, h6⟩ := cc5_ a0.out; obtain ⟨h7, h8, h9, i0⟩ := cf4_ a0.out; have i1 := yag a0.out 4) | ((with_reducible refine gc_ 41 rfl ?_); refine gl_ (some 29) rfl Try.func41 #[.int .i64 a0_1, .int .i64 1, .int .i64 6] ?_; (with_reducible refine (spec_l1In.calls a0_1 1 6 true _ A19.out).mono ?_); rintro e w' ⟨rfl, ⟨nd, rfl⟩⟩; refine ⟨_, rfl, ?_⟩) | (go_at_call 41; (with_reducible refine (spec_l1In.calls a0_2 1 6 true _ A21.out).mono ?_); rintro e w' ⟨rfl, ⟨nd, rfl⟩⟩))
    go_ret
    exact ⟨by first | rfl | (simp [*, errW_none, errW_some] <;> rfl), by repeat (with_reducible first | exact HB.out | apply yac | apply yab | apply yad | refine yah ?_ (Aside0.out ‹_›))⟩
   rw [if_neg c23] at H
   have b8 := beq_eq_false_iff_ne.mpr c23; have b9 := bne_iff_ne.mpr c23; obtain rfl := Option.some.inj H
   go_enter Try.func38, Try.ntmps38
   go_wp2_with (first | ((with_reducible refine gd_ 1 rfl ?_); refine bx_ 1 rfl #[.int .i64 a0_0, .int .i64 a0_1, .int .i64 a0_2, .int .i64 a0_3, .int .i64 a0_4] 27 ?_; intro a1 hg w26 hbox hb; have a0 := yaa (hbox); have a2 := yaa ((by rw [hg]; exact (yae (upH HB.out)) : w.heap.size ≤ a1)); replace HB := yaa (yaf (upH HB.out) hb); have a3 := a2; clear hb hbox hg; obtain ⟨i2, i3, i4, i5, i6⟩ := cc5_ a0.out; obtain ⟨i7, i8, i9, j0⟩ := cf4_ a0.out; have j1 := yag a0.out 4) | ((with_reducible refine gc_ 41 rfl ?_); refine gl_ (some 29) rfl Try.func41 #[.int .i64 a0_1, .int .i64 1, .int .i64 6] ?_; (with_reducible refine (spec_l1In.calls a0_1 1 6 true _ A19.out).mono ?_); rintro e w' ⟨rfl, ⟨nd, rfl⟩⟩; refine ⟨_, rfl, ?_⟩) | (go_at_call 41; (with_reducible refine (spec_l1In.calls a0_2 1 6 true _ A21.out).mono ?_); rintro e w' ⟨rfl, ⟨nd, rfl⟩⟩))
   go_ret
   exact ⟨by first | rfl | (simp [*, errW_none, errW_some] <;> rfl), by repeat (with_reducible first | exact HB.out | apply yac | apply yab | apply yad | refine yah ?_ (Aside0.out ‹_›))⟩
  replace c22 := Bool.eq_false_iff.mpr c22
  subst c22
  rw [if_neg (show ¬ (false = true) by decide)] at H
  obtain rfl := Option.some.inj H
  go_enter Try.func38, Try.ntmps38
  go_wp2_with (first | ((with_reducible refine gd_ 1 rfl ?_); refine bx_ 1 rfl #[.int .i64 a0_0, .int .i64 a0_1, .int .i64 a0_2, .int .i64 a0_3, .int .i64 a0_4] 27 ?_; intro a1 hg w28 hbox hb; have a0 := yaa (hbox); have a2 := yaa ((by rw [hg]; exact (yae (upH HB.out)) : w.heap.size ≤ a1)); replace HB := yaa (yaf (upH HB.out) hb); have a3 := a2; clear hb hbox hg; obtain ⟨j2, j3, j4, j5, j6⟩ := cc5_ a0.out; obtain ⟨j7, j8, j9, k0⟩ := cf4_ a0.out; have k1 := yag a0.out 4) | ((with_reducible refine gc_ 41 rfl ?_); refine gl_ (some 29) rfl Try.func41 #[.int .i64 a0_1, .int .i64 1, .int .i64 6] ?_; (with_reducible refine (spec_l1In.calls a0_1 1 6 true _ A19.out).mono ?_); rintro e w' ⟨rfl, ⟨nd, rfl⟩⟩; refine ⟨_, rfl, ?_⟩) | (go_at_call 41; (with_reducible refine (spec_l1In.calls a0_2 1 6 false _ A21.out).mono ?_); rintro e w' ⟨rfl, ⟨nd, rfl⟩⟩))
  go_ret
  exact ⟨by first | rfl | (simp [*, errW_none, errW_some] <;> rfl), by repeat (with_reducible first | exact HB.out | apply yac | apply yab | apply yad | refine yah ?_ (Aside0.out ‹_›))⟩
 rw [if_neg c18] at H
 have b6 := beq_eq_false_iff_ne.mpr c18; have b7 := bne_iff_ne.mpr c18
 by_cases c32 : a0_0 = 8
 ·
  rw [if_pos c32] at H
  have c0 := beq_iff_eq.mpr c32; have c1 := bne_eq_false_iff_eq.mpr c32; clear c32; obtain ⟨b2, A33, H⟩ := bindA H; (try dsimp only at H)
  by_cases c34 : b2 = true
  rotate_left
  ·
   replace c34 := Bool.eq_false_iff.mpr c34
   subst c34
   rw [if_neg (show ¬ (false = true) by decide)] at H
   obtain rfl := Option.some.inj H
   go_enter Try.func38, Try.ntmps38
   go_wp2_with (first | ((with_reducible refine gd_ 1 rfl ?_); refine bx_ 1 rfl #[.int .i64 a0_0, .int .i64 a0_1, .int .i64 a0_2, .int .i64 a0_3, .int .i64 a0_4] 27 ?_; intro a1 hg w45 hbox hb; have a0 := yaa (hbox); have a2 := yaa ((by rw [hg]; exact (yae (upH HB.out)) : w.heap.size ≤ a1)); replace HB := yaa (yaf (upH HB.out) hb); have a3 := a2; clear hb hbox hg; obtain ⟨o2, o3, o4, o5, o6⟩ := cc5_ a0.out; obtain ⟨o7, o8, o9, p0⟩ := cf4_ a0.out; have p1 := yag a0.out 4) | ((with_reducible refine gc_ 41 rfl ?_); refine gl_ (some 49) rfl Try.func41 #[.int .i64 a0_1, .int .i64 0, .int .i64 255] ?_; (with_reducible refine (spec_l1In.calls a0_1 0 255 false _ A33.out).mono ?_); rintro e w' ⟨rfl, ⟨nd, rfl⟩⟩; refine ⟨_, rfl, ?_⟩))
   go_ret
   exact ⟨by first | rfl | (simp [*, errW_none, errW_some] <;> rfl), by repeat (with_reducible first | exact HB.out | apply yac | apply yab | apply yad | refine yah ?_ (Aside0.out ‹_›))⟩
  subst c34
  rw [if_pos rfl] at H
  obtain ⟨b3, A35, H⟩ := bindA H; (try dsimp only at H)
  by_cases c36 : b3 = true
  ·
   subst c36
   rw [if_pos rfl] at H
   obtain ⟨b4, A37, H⟩ := bindA H; (try dsimp only at H)
   by_cases c38 : b4 = true
   ·
    subst c38
    rw [if_pos rfl] at H
    obtain rfl := Option.some.inj H
    go_enter Try.func38, Try.ntmps38
    go_wp2_with (first | ((with_reducible refine gd_ 1 rfl ?_); refine bx_ 1 rfl #[.int .i64 a0_0, .int .i64 a0_1, .int .i64 a0_2, .int .i64 a0_3, .int .i64 a0_4] 27 ?_; intro a1 hg w39 hbox hb; have a0 := yaa (hbox); have a2 := yaa ((by rw [hg]; exact (yae (upH HB.out)) : w.heap.size ≤ a1)); replace HB := yaa (yaf (upH HB.out) hb); have a3 := a2; clear hb hbox hg; obtain ⟨l2, l3, l4, l5, l6⟩ := cc5_ a0.out; obtain ⟨l7, l8, l9, m0⟩ := cf4_ a0.out; have m1 := yag a0.out 4) | ((with_reducible refine gc_ 41 rfl ?_); refine gl_ (some 49) rfl Try.func41 #[.int .i64 a0_1, .int .i64 0, .int .i64 255] ?_; (with_reducible refine (spec_l1In.calls a0_1 0 255 true _ A33.out).mono ?_); rintro e w' ⟨rfl, ⟨nd, rfl⟩⟩; refine ⟨_, rfl, ?_⟩) | (go_at_call 41; (with_reducible refine (spec_l1In.calls a0_2 0 255 true _ A35.out).mono ?_); rintro e w' ⟨rfl, ⟨nd, rfl⟩⟩) | (go_at_call 41; (with_reducible refine (spec_l1In.calls a0_3 0 255 true _ A37.out).mono ?_); rintro e w' ⟨rfl, ⟨nd, rfl⟩⟩))
    go_ret
    exact ⟨by first | rfl | (simp [*, errW_none, errW_some] <;> rfl), by repeat (with_reducible first | exact HB.out | apply yac | apply yab | apply yad | refine yah ?_ (Aside0.out ‹_›))⟩
   replace c38 := Bool.eq_false_iff.mpr c38
   subst c38
   rw [if_neg (show ¬ (false = true) by decide)] at H
   obtain rfl := Option.some.inj H
   go_enter Try.func38, Try.ntmps38
   go_wp2_with (first | ((with_reducible refine gd_ 1 rfl ?_); refine bx_ 1 rfl #[.int .i64 a0_0, .int .i64 a0_1, .int .i64 a0_2, .int .i64 a0_3, .int .i64 a0_4] 27 ?_; intro a1 hg w41 hbox hb; have a0 := yaa (hbox); have a2 := yaa ((by rw [hg]; exact (yae (upH HB.out)) : w.heap.size ≤ a1)); replace HB := yaa (yaf (upH HB.out) hb); have a3 := a2; clear hb hbox hg; obtain ⟨m2, m3, m4, m5, m6⟩ := cc5_ a0.out; obtain ⟨m7, m8, m9, n0⟩ := cf4_ a0.out; have n1 := yag a0.out 4) | ((with_reducible refine gc_ 41 rfl ?_); refine gl_ (some 49) rfl Try.func41 #[.int .i64 a0_1, .int .i64 0, .int .i64 255] ?_; (with_reducible refine (spec_l1In.calls a0_1 0 255 true _ A33.out).mono ?_); rintro e w' ⟨rfl, ⟨nd, rfl⟩⟩; refine ⟨_, rfl, ?_⟩) | (go_at_call 41; (with_reducible refine (spec_l1In.calls a0_2 0 255 true _ A35.out).mono ?_); rintro e w' ⟨rfl, ⟨nd, rfl⟩⟩) | (go_at_call 41; (with_reducible refine (spec_l1In.calls a0_3 0 255 false _ A37.out).mono ?_); rintro e w' ⟨rfl, ⟨nd, rfl⟩⟩))
   go_ret
   exact ⟨by first | rfl | (simp [*, errW_none, errW_some] <;> rfl), by repeat (with_reducible first | exact HB.out | apply yac | apply yab | apply yad | refine yah ?_ (Aside0.out ‹_›))⟩
  replace c36 := Bool.eq_false_iff.mpr c36
  subst c36
  rw [if_neg (show ¬ (false = true) by decide)] at H
  obtain rfl := Option.some.inj H
  go_enter Try.func38, Try.ntmps38
  go_wp2_with (first | ((with_reducible refine gd_ 1 rfl ?_); refine bx_ 1 rfl #[.int .i64 a0_0, .int .i64 a0_1, .int .i64 a0_2, .int .i64 a0_3, .int .i64 a0_4] 27 ?_; intro a1 hg w43 hbox hb; have a0 := yaa (hbox); have a2 := yaa ((by rw [hg]; exact (yae (upH HB.out)) : w.heap.size ≤ a1)); replace HB := yaa (yaf (upH HB.out) hb); have a3 := a2; clear hb hbox hg; obtain ⟨n2, n3, n4, n5, n6⟩ := cc5_ a0.out; obtain ⟨n7, n8, n9, o0⟩ := cf4_ a0.out; have o1 := yag a0.out 4) | ((with_reducible refine gc_ 41 rfl ?_); refine gl_ (some 49) rfl Try.func41 #[.int .i64 a0_1, .int .i64 0, .int .i64 255] ?_; (with_reducible refine (spec_l1In.calls a0_1 0 255 true _ A33.out).mono ?_); rintro e w' ⟨rfl, ⟨nd, rfl⟩⟩; refine ⟨_, rfl, ?_⟩) | (go_at_call 41; (with_reducible refine (spec_l1In.calls a0_2 0 255 false _ A35.out).mono ?_); rintro e w' ⟨rfl, ⟨nd, rfl⟩⟩))
  go_ret
  exact ⟨by first | rfl | (simp [*, errW_none, errW_some] <;> rfl), by repeat (with_reducible first | exact HB.out | apply yac | apply yab | apply yad | refine yah ?_ (Aside0.out ‹_›))⟩
 rw [if_neg c32] at H
 have c0 := beq_eq_false_iff_ne.mpr c32; have c1 := bne_iff_ne.mpr c32; obtain ⟨b5, A47, H⟩ := bindA H; (try dsimp only at H)
 by_cases c48 : b5 = true
 rotate_left
 ·
  replace c48 := Bool.eq_false_iff.mpr c48
  subst c48
  rw [if_neg (show ¬ (false = true) by decide)] at H
  obtain rfl := Option.some.inj H
  go_enter Try.func38, Try.ntmps38
  go_wp2_with (first | ((with_reducible refine gd_ 1 rfl ?_); refine bx_ 1 rfl #[.int .i64 a0_0, .int .i64 a0_1, .int .i64 a0_2, .int .i64 a0_3, .int .i64 a0_4] 27 ?_; intro a1 hg w60 hbox hb; have a0 := yaa (hbox); have a2 := yaa ((by rw [hg]; exact (yae (upH HB.out)) : w.heap.size ≤ a1)); replace HB := yaa (yaf (upH HB.out) hb); have a3 := a2; clear hb hbox hg; obtain ⟨t2, t3, t4, t5, t6⟩ := cc5_ a0.out; obtain ⟨t7, t8, t9, u0⟩ := cf4_ a0.out; have u1 := yag a0.out 4) | ((with_reducible refine gc_ 41 rfl ?_); refine gl_ (some 67) rfl Try.func41 #[.int .i64 a0_0, .int .i64 2, .int .i64 6] ?_; (with_reducible refine (spec_l1In.calls a0_0 2 6 false _ A47.out).mono ?_); rintro e w' ⟨rfl, ⟨nd, rfl⟩⟩; refine ⟨_, rfl, ?_⟩))
  go_ret
  exact ⟨by first | rfl | (simp [*, errW_none, errW_some] <;> rfl), by repeat (with_reducible first | exact HB.out | apply yac | apply yab | apply yad | refine yah ?_ (Aside0.out ‹_›))⟩
 subst c48
 rw [if_pos rfl] at H
 by_cases c49 : a0_1 = 0
 rotate_left
 ·
  rw [if_neg c49] at H
  have c3 := beq_eq_false_iff_ne.mpr c49; have c5 := bne_iff_ne.mpr c49; obtain rfl := Option.some.inj H
  go_enter Try.func38, Try.ntmps38
  go_wp2_with (first | ((with_reducible refine gd_ 1 rfl ?_); refine bx_ 1 rfl #[.int .i64 a0_0, .int .i64 a0_1, .int .i64 a0_2, .int .i64 a0_3, .int .i64 a0_4] 27 ?_; intro a1 hg w58 hbox hb; have a0 := yaa (hbox); have a2 := yaa ((by rw [hg]; exact (yae (upH HB.out)) : w.heap.size ≤ a1)); replace HB := yaa (yaf (upH HB.out) hb); have a3 := a2; clear hb hbox hg; obtain ⟨s2, s3, s4, s5, s6⟩ := cc5_ a0.out; obtain ⟨s7, s8, s9, t0⟩ := cf4_ a0.out; have t1 := yag a0.out 4) | ((with_reducible refine gc_ 41 rfl ?_); refine gl_ (some 67) rfl Try.func41 #[.int .i64 a0_0, .int .i64 2, .int .i64 6] ?_; (with_reducible refine (spec_l1In.calls a0_0 2 6 true _ A47.out).mono ?_); rintro e w' ⟨rfl, ⟨nd, rfl⟩⟩; refine ⟨_, rfl, ?_⟩))
  go_ret
  exact ⟨by first | rfl | (simp [*, errW_none, errW_some] <;> rfl), by repeat (with_reducible first | exact HB.out | apply yac | apply yab | apply yad | refine yah ?_ (Aside0.out ‹_›))⟩
 rw [if_pos c49] at H
 have c3 := beq_iff_eq.mpr c49; have c5 := bne_eq_false_iff_eq.mpr c49; clear c49
 by_cases c50 : a0_2 = 0
 ·
  rw [if_pos c50] at H
  have c7 := beq_iff_eq.mpr c50; have c9 := bne_eq_false_iff_eq.mpr c50; clear c50
  by_cases c51 : a0_3 = 0
  ·
   rw [if_pos c51] at H
   have d0 := beq_iff_eq.mpr c51; have d1 := bne_eq_false_iff_eq.mpr c51; clear c51; obtain rfl := Option.some.inj H
   go_enter Try.func38, Try.ntmps38
   go_wp2_with (first | ((with_reducible refine gd_ 1 rfl ?_); refine bx_ 1 rfl #[.int .i64 a0_0, .int .i64 a0_1, .int .i64 a0_2, .int .i64 a0_3, .int .i64 a0_4] 27 ?_; intro a1 hg w52 hbox hb; have a0 := yaa (hbox); have a2 := yaa ((by rw [hg]; exact (yae (upH HB.out)) : w.heap.size ≤ a1)); replace HB := yaa (yaf (upH HB.out) hb); have a3 := a2; clear hb hbox hg; obtain ⟨p2, p3, p4, p5, p6⟩ := cc5_ a0.out; obtain ⟨p7, p8, p9, q0⟩ := cf4_ a0.out; have q1 := yag a0.out 4) | ((with_reducible refine gc_ 41 rfl ?_); refine gl_ (some 67) rfl Try.func41 #[.int .i64 a0_0, .int .i64 2, .int .i64 6] ?_; (with_reducible refine (spec_l1In.calls a0_0 2 6 true _ A47.out).mono ?_); rintro e w' ⟨rfl, ⟨nd, rfl⟩⟩; refine ⟨_, rfl, ?_⟩))
   go_ret
   exact ⟨by first | rfl | (simp [*, errW_none, errW_some] <;> rfl), by repeat (with_reducible first | exact HB.out | apply yac | apply yab | apply yad | refine yah ?_ (Aside0.out ‹_›))⟩
  rw [if_neg c51] at H
  have d0 := beq_eq_false_iff_ne.mpr c51; have d1 := bne_iff_ne.mpr c51; obtain rfl := Option.some.inj H
  go_enter Try.func38, Try.ntmps38
  go_wp2_with (first | ((with_reducible refine gd_ 1 rfl ?_); refine bx_ 1 rfl #[.int .i64 a0_0, .int .i64 a0_1, .int .i64 a0_2, .int .i64 a0_3, .int .i64 a0_4] 27 ?_; intro a1 hg w54 hbox hb; have a0 := yaa (hbox); have a2 := yaa ((by rw [hg]; exact (yae (upH HB.out)) : w.heap.size ≤ a1)); replace HB := yaa (yaf (upH HB.out) hb); have a3 := a2; clear hb hbox hg; obtain ⟨q2, q3, q4, q5, q6⟩ := cc5_ a0.out; obtain ⟨q7, q8, q9, r0⟩ := cf4_ a0.out; have r1 := yag a0.out 4) | ((with_reducible refine gc_ 41 rfl ?_); refine gl_ (some 67) rfl Try.func41 #[.int .i64 a0_0, .int .i64 2, .int .i64 6] ?_; (with_reducible refine (spec_l1In.calls a0_0 2 6 true _ A47.out).mono ?_); rintro e w' ⟨rfl, ⟨nd, rfl⟩⟩; refine ⟨_, rfl, ?_⟩))
  go_ret
  exact ⟨by first | rfl | (simp [*, errW_none, errW_some] <;> rfl), by repeat (with_reducible first | exact HB.out | apply yac | apply yab | apply yad | refine yah ?_ (Aside0.out ‹_›))⟩
 rw [if_neg c50] at H
 have c7 := beq_eq_false_iff_ne.mpr c50; have c9 := bne_iff_ne.mpr c50; obtain rfl := Option.some.inj H
 go_enter Try.func38, Try.ntmps38
 go_wp2_with (first | ((with_reducible refine gd_ 1 rfl ?_); refine bx_ 1 rfl #[.int .i64 a0_0, .int .i64 a0_1, .int .i64 a0_2, .int .i64 a0_3, .int .i64 a0_4] 27 ?_; intro a1 hg w56 hbox hb; have a0 := yaa (hbox); have a2 := yaa ((by rw [hg]; exact (yae (upH HB.out)) : w.heap.size ≤ a1)); replace HB := yaa (yaf (upH HB.out) hb); have a3 := a2; clear hb hbox hg; obtain ⟨r2, r3, r4, r5, r6⟩ := cc5_ a0.out; obtain ⟨r7, r8, r9, s0⟩ := cf4_ a0.out; have s1 := yag a0.out 4) | ((with_reducible refine gc_ 41 rfl ?_); refine gl_ (some 67) rfl Try.func41 #[.int .i64 a0_0, .int .i64 2, .int .i64 6] ?_; (with_reducible refine (spec_l1In.calls a0_0 2 6 true _ A47.out).mono ?_); rintro e w' ⟨rfl, ⟨nd, rfl⟩⟩; refine ⟨_, rfl, ?_⟩))
 go_ret
 exact ⟨by first | rfl | (simp [*, errW_none, errW_some] <;> rfl), by repeat (with_reducible first | exact HB.out | apply yac | apply yab | apply yad | refine yah ?_ (Aside0.out ‹_›))⟩
end
section
end
section
def impl_PixOk.f (a0_0 : Int) (a0_1 : Int) (a0_2 : Int) (a0_3 : Int) : Option (Bool) := (impl_partOk.f a0_0).bind fun t102 => (if t102 = true then ((impl_partOk.f a0_1).bind fun t103 => (if t103 = true then ((impl_partOk.f a0_2).bind fun t104 => (if t104 = true then ((impl_partOk.f a0_3).bind fun t105 => (some t105)) else (some false))) else (some false))) else (some false))
set_option maxHeartbeats 8000000 in
set_option maxRecDepth 100000 in
theorem impl_PixOk.calls (a0_0 : Int) (a0_1 : Int) (a0_2 : Int) (a0_3 : Int) (r : Bool) (w : World) (h : impl_PixOk.f a0_0 a0_1 a0_2 a0_3 = some r) :
  Calls Try.prog 40 #[.agg #[.int .i64 a0_0, .int .i64 a0_1, .int .i64 a0_2, .int .i64 a0_3]] w fun e w' => e = .returned (.bool r) ∧ Below w.heap.size w w' := by
 have hu36 := Try.underlying36; have HB := Aside0.mk (Below.refl w.heap.size w); have H : ((impl_partOk.f a0_0).bind fun a4 => (if a4 = true then ((impl_partOk.f a0_1).bind fun a5 => (if a5 = true then ((impl_partOk.f a0_2).bind fun a6 => (if a6 = true then ((impl_partOk.f a0_3).bind fun a7 => (some a7)) else (some false))) else (some false))) else (some false))) = some r := h; clear h; obtain ⟨a4, A2, H⟩ := bindA H; (try dsimp only at H)
 by_cases c3 : a4 = true
 rotate_left
 ·
  replace c3 := Bool.eq_false_iff.mpr c3
  subst c3
  rw [if_neg (show ¬ (false = true) by decide)] at H
  obtain rfl := Option.some.inj H
  go_enter Try.func40, Try.ntmps40
  go_wp2_with (first | ((with_reducible refine gd_ 1 rfl ?_); refine bx_ 1 rfl #[.int .i64 a0_0, .int .i64 a0_1, .int .i64 a0_2, .int .i64 a0_3] 36 ?_; intro a1 hg w15 hbox hb; have a0 := Aside0.mk (hbox); have a2 := Aside0.mk ((by rw [hg]; exact (below_size (upH HB.out)) : w.heap.size ≤ a1)); replace HB := Aside0.mk (below_step (upH HB.out) hb); have a3 := a2; clear hb hbox hg; obtain ⟨d7, d8, d9, e0⟩ := cc4_ a0.out; obtain ⟨e1, e2, e3⟩ := cf3_ a0.out; have e4 := blk_frozen a0.out 3) | ((with_reducible refine gc_ 60 rfl ?_); refine gl_ (some 5) rfl Try.func60 #[.int .i64 a0_0] ?_; (with_reducible refine (impl_partOk.calls a0_0 false _ A2.out).mono ?_); rintro e w' ⟨rfl, ⟨nd, rfl⟩⟩; refine ⟨_, rfl, ?_⟩))
  go_ret
  exact ⟨by first | rfl | (simp [*, errW_none, errW_some] <;> rfl), by repeat (with_reducible first | exact HB.out | apply below_alloc | apply pw_below_drewN | apply below_drew1 | refine below_set ?_ (Aside0.out ‹_›))⟩
 subst c3
 rw [if_pos rfl] at H
 obtain ⟨a5, A4, H⟩ := bindA H; (try dsimp only at H)
 by_cases c5 : a5 = true
 ·
  subst c5
  rw [if_pos rfl] at H
  obtain ⟨a6, A6, H⟩ := bindA H; (try dsimp only at H)
  by_cases c7 : a6 = true
  ·
   subst c7
   rw [if_pos rfl] at H
   obtain ⟨a7, A8, H⟩ := bindA H; (try dsimp only at H); obtain rfl := Option.some.inj H
   go_enter Try.func40, Try.ntmps40
   go_wp2_with (first | ((with_reducible refine gd_ 1 rfl ?_); refine bx_ 1 rfl #[.int .i64 a0_0, .int .i64 a0_1, .int .i64 a0_2, .int .i64 a0_3] 36 ?_; intro a1 hg w9 hbox hb; have a0 := Aside0.mk (hbox); have a2 := Aside0.mk ((by rw [hg]; exact (below_size (upH HB.out)) : w.heap.size ≤ a1)); replace HB := Aside0.mk (below_step (upH HB.out) hb); have a3 := a2; clear hb hbox hg; obtain ⟨b0, b1, b2, b3⟩ := cc4_ a0.out; obtain ⟨b4, b5, b6⟩ := cf3_ a0.out; have b7 := blk_frozen a0.out 3) | ((with_reducible refine gc_ 60 rfl ?_); refine gl_ (some 5) rfl Try.func60 #[.int .i64 a0_0] ?_; (with_reducible refine (impl_partOk.calls a0_0 true _ A2.out).mono ?_); rintro e w' ⟨rfl, ⟨nd, rfl⟩⟩; refine ⟨_, rfl, ?_⟩) | (go_at_call 60; (with_reducible refine (impl_partOk.calls a0_1 true _ A4.out).mono ?_); rintro e w' ⟨rfl, ⟨nd, rfl⟩⟩) | (go_at_call 60; (with_reducible refine (impl_partOk.calls a0_2 true _ A6.out).mono ?_); rintro e w' ⟨rfl, ⟨nd, rfl⟩⟩) | (go_at_call 60; (with_reducible refine (impl_partOk.calls a0_3 a7 _ A8.out).mono ?_); rintro e w' ⟨rfl, ⟨nd, rfl⟩⟩))
   go_ret
   exact ⟨by first | rfl | (simp [*, errW_none, errW_some] <;> rfl), by repeat (with_reducible first | exact HB.out | apply below_alloc | apply pw_below_drewN | apply below_drew1 | refine below_set ?_ (Aside0.out ‹_›))⟩
  replace c7 := Bool.eq_false_iff.mpr c7
  subst c7
  rw [if_neg (show ¬ (false = true) by decide)] at H
  obtain rfl := Option.some.inj H
  go_enter Try.func40, Try.ntmps40
  go_wp2_with (first | ((with_reducible refine gd_ 1 rfl ?_); refine bx_ 1 rfl #[.int .i64 a0_0, .int .i64 a0_1, .int .i64 a0_2, .int .i64 a0_3] 36 ?_; intro a1 hg w11 hbox hb; have a0 := Aside0.mk (hbox); have a2 := Aside0.mk ((by rw [hg]; exact (below_size (upH HB.out)) : w.heap.size ≤ a1)); replace HB := Aside0.mk (below_step (upH HB.out) hb); have a3 := a2; clear hb hbox hg; obtain ⟨b8, b9, c0, c1⟩ := cc4_ a0.out; obtain ⟨c2, c4, c6⟩ := cf3_ a0.out; have c8 := blk_frozen a0.out 3) | ((with_reducible refine gc_ 60 rfl ?_); refine gl_ (some 5) rfl Try.func60 #[.int .i64 a0_0] ?_; (with_reducible refine (impl_partOk.calls a0_0 true _ A2.out).mono ?_); rintro e w' ⟨rfl, ⟨nd, rfl⟩⟩; refine ⟨_, rfl, ?_⟩) | (go_at_call 60; (with_reducible refine (impl_partOk.calls a0_1 true _ A4.out).mono ?_); rintro e w' ⟨rfl, ⟨nd, rfl⟩⟩) | (go_at_call 60; (with_reducible refine (impl_partOk.calls a0_2 false _ A6.out).mono ?_); rintro e w' ⟨rfl, ⟨nd, rfl⟩⟩))
  go_ret
  exact ⟨by first | rfl | (simp [*, errW_none, errW_some] <;> rfl), by repeat (with_reducible first | exact HB.out | apply below_alloc | apply pw_below_drewN | apply below_drew1 | refine below_set ?_ (Aside0.out ‹_›))⟩
 replace c5 := Bool.eq_false_iff.mpr c5
 subst c5
 rw [if_neg (show ¬ (false = true) by decide)] at H
 obtain rfl := Option.some.inj H
 go_enter Try.func40, Try.ntmps40
 go_wp2_with (first | ((with_reducible refine gd_ 1 rfl ?_); refine bx_ 1 rfl #[.int .i64 a0_0, .int .i64 a0_1, .int .i64 a0_2, .int .i64 a0_3] 36 ?_; intro a1 hg w13 hbox hb; have a0 := Aside0.mk (hbox); have a2 := Aside0.mk ((by rw [hg]; exact (below_size (upH HB.out)) : w.heap.size ≤ a1)); replace HB := Aside0.mk (below_step (upH HB.out) hb); have a3 := a2; clear hb hbox hg; obtain ⟨c9, d0, d1, d2⟩ := cc4_ a0.out; obtain ⟨d3, d4, d5⟩ := cf3_ a0.out; have d6 := blk_frozen a0.out 3) | ((with_reducible refine gc_ 60 rfl ?_); refine gl_ (some 5) rfl Try.func60 #[.int .i64 a0_0] ?_; (with_reducible refine (impl_partOk.calls a0_0 true _ A2.out).mono ?_); rintro e w' ⟨rfl, ⟨nd, rfl⟩⟩; refine ⟨_, rfl, ?_⟩) | (go_at_call 60; (with_reducible refine (impl_partOk.calls a0_1 false _ A4.out).mono ?_); rintro e w' ⟨rfl, ⟨nd, rfl⟩⟩))
 go_ret
 exact ⟨by first | rfl | (simp [*, errW_none, errW_some] <;> rfl), by repeat (with_reducible first | exact HB.out | apply below_alloc | apply pw_below_drewN | apply below_drew1 | refine below_set ?_ (Aside0.out ‹_›))⟩
end
section
open Go.Proofs.YtoifpgkfpdeglaaW.PrintWords.Aside0 renaming mk → yaa
open Go.Proofs.YtoifpgkfpdeglaaW.PrintWords renaming pw_below_drewN → yab, below_alloc → yac, below_drew1 → yad
open Go.Proofs.Ytoifpgkfpdeglaa.X renaming rd_T36 → yae
mutual
def impl_RasOk.j0 : Nat → Bool → Int → Int → List (S36) → Option (Bool)
 | 0, _, _, _, _ => none
 | k + 1, x25, x102000, x102001, x102002 => if x25 = true then (some false) else (impl_RasOk.l0 k x102002 (x102002.length : Int) 0)
def impl_RasOk.l0 : Nat → List (S36) → Int → Int → Option (Bool)
 | 0, _, _, _ => none
 | k + 1, x27, x28, x29 => if x29 < x28 then (if 0 ≤ x29 then (if x29 < (x27.length : Int) then ((impl_PixOk.f ((rd_T36 x27 x29).f0) ((rd_T36 x27 x29).f1) ((rd_T36 x27 x29).f2) ((rd_T36 x27 x29).f3)).bind fun t106 => (if t106 = true then (impl_RasOk.l0 k x27 x28 (wrap64 (x29 + 1))) else (some false))) else (none)) else (none)) else (some true)
end
def impl_RasOk.f (k : Nat) (a0_0 : Int) (a0_1 : Int) (l0_2 : List (S36)) : Option (Bool) := (impl_sizeOk.f a0_0).bind fun t102 => (if t102 = true then ((impl_sizeOk.f a0_1).bind fun t103 => (if t103 = true then (impl_RasOk.j0 k ((l0_2.length : Int) != (wrap64 (a0_0 * a0_1))) a0_0 a0_1 l0_2) else (impl_RasOk.j0 k true a0_0 a0_1 l0_2))) else (impl_RasOk.j0 k true a0_0 a0_1 l0_2))
set_option maxHeartbeats 8000000 in
set_option maxRecDepth 100000 in
theorem impl_RasOk.calls (k : Nat) (a0_0 : Int) (a0_1 : Int) (A0_2 : Option Addr) (c0_2 : Nat) (l0_2 : List (S36)) (r : Bool) (w : World) (hr0_2 : Kd.C k36 w A0_2 l0_2.length l0_2) (hc0_2 : l0_2.length ≤ c0_2) (h : impl_RasOk.f k a0_0 a0_1 l0_2 = some r) :
  Calls Try.prog 17 #[.agg #[.int .i64 a0_0, .int .i64 a0_1, .slice A0_2 l0_2.length c0_2]] w fun e w' => e = .returned (.bool r) ∧ Below w.heap.size w w' := by
 have hu25 := Try.underlying25; have hu36 := Try.underlying36; have HR0_2 := yaa hr0_2; have HC0_2 := yaa hc0_2; clear hr0_2 hc0_2; have HB := yaa (Below.refl w.heap.size w); have H : ((impl_sizeOk.f a0_0).bind fun e5 => (if e5 = true then ((impl_sizeOk.f a0_1).bind fun e6 => (if e6 = true then (impl_RasOk.j0 k ((l0_2.length : Int) != (wrap64 (a0_0 * a0_1))) a0_0 a0_1 l0_2) else (impl_RasOk.j0 k true a0_0 a0_1 l0_2))) else (impl_RasOk.j0 k true a0_0 a0_1 l0_2))) = some r := h; clear h; have HC2 := yaa H; clear H
 go_enter Try.func17, Try.ntmps17
 go_upto_region 1 with (first | ((with_reducible refine gd_ 1 rfl ?_); (try (refine gate_guard (by rfl) ?_; dsimp only)); refine bx_ 1 rfl #[.int .i64 a0_0, .int .i64 a0_1, .slice A0_2 l0_2.length c0_2] 25 ?_; intro b2 hg w3 hbox hb; have a4 := yaa (hbox); have e9 := yaa ((by rw [hg]; exact (below_size (upH HB.out)) : w.heap.size ≤ b2)); replace HB := yaa (below_step (upH HB.out) hb); have h4 := e9; clear hb hbox hg))
 (try simp only [Act.put, List.setIfInBounds_toArray, List.set_cons_zero, List.set_cons_succ])
 go_cut [25] (fun v25 wc => ∃ (kq : Nat) (b4 : Bool), v25 = .bool b4 ∧ Aside0 (impl_RasOk.j0 kq b4 a0_0 a0_1 l0_2 = some r) ∧ Aside0 (kq ≤ k) ∧ Aside0 (wc.heap[b2]? = some (.cells #[.int .i64 a0_0, .int .i64 a0_1, (.slice A0_2 l0_2.length c0_2)] 25 (0, 0))) ∧ Aside0 (Below w.heap.size w wc))
 case first =>
  have H := HC2.out; clear HC2; obtain ⟨e5, A4, H⟩ := bindA H; (try dsimp only at H)
  by_cases c5 : e5 = true
  ·
   subst c5
   rw [if_pos rfl] at H
   obtain ⟨e6, A6, H⟩ := bindA H; (try dsimp only at H)
   by_cases c7 : e6 = true
   ·
    subst c7
    rw [if_pos rfl] at H
    have H' := yaa H; clear H; obtain ⟨c2, c3, c6⟩ := cc3_ a4.out; obtain ⟨c8, c9, d0⟩ := cf3_ a4.out
    go_wp2_with (first | ((with_reducible refine gc_ 42 rfl ?_); refine gl_ (some 7) rfl Try.func42 #[.int .i64 a0_0] ?_; (with_reducible refine (impl_sizeOk.calls a0_0 true _ A4.out).mono ?_); rintro e w' ⟨rfl, ⟨nd, rfl⟩⟩; refine ⟨_, rfl, ?_⟩) | (go_at_call 42; (with_reducible refine (impl_sizeOk.calls a0_1 true _ A6.out).mono ?_); rintro e w' ⟨rfl, ⟨nd, rfl⟩⟩))
    go_meet
    case rel => exact ⟨_, (((l0_2.length : Int) != (wrap64 (a0_0 * a0_1)))), (by first | rfl | (simp; done) | (simp [*]; done)), H', ⟨by first | omega | exact Nat.le_refl _⟩, ⟨by exact upB a4.out⟩, ⟨by repeat (with_reducible first | exact HB.out | apply yac | apply yab | apply yad | refine below_set ?_ (Aside0.out ‹_›))⟩⟩
   replace c7 := Bool.eq_false_iff.mpr c7
   subst c7
   rw [if_neg (show ¬ (false = true) by decide)] at H
   have H' := yaa H; clear H; obtain ⟨d2, d3, d4⟩ := cc3_ a4.out; obtain ⟨d5, d6, d7⟩ := cf3_ a4.out
   go_wp2_with (first | ((with_reducible refine gc_ 42 rfl ?_); refine gl_ (some 7) rfl Try.func42 #[.int .i64 a0_0] ?_; (with_reducible refine (impl_sizeOk.calls a0_0 true _ A4.out).mono ?_); rintro e w' ⟨rfl, ⟨nd, rfl⟩⟩; refine ⟨_, rfl, ?_⟩) | (go_at_call 42; (with_reducible refine (impl_sizeOk.calls a0_1 false _ A6.out).mono ?_); rintro e w' ⟨rfl, ⟨nd, rfl⟩⟩))
   go_meet
   case rel => exact ⟨_, (true), (by first | rfl | (simp; done) | (simp [*]; done)), H', ⟨by first | omega | exact Nat.le_refl _⟩, ⟨by exact upB a4.out⟩, ⟨by repeat (with_reducible first | exact HB.out | apply yac | apply yab | apply yad | refine below_set ?_ (Aside0.out ‹_›))⟩⟩
  replace c5 := Bool.eq_false_iff.mpr c5
  subst c5
  rw [if_neg (show ¬ (false = true) by decide)] at H
  have H' := yaa H; clear H; obtain ⟨b5, b6, b7⟩ := cc3_ a4.out; obtain ⟨b8, b9, c0⟩ := cf3_ a4.out
  go_wp2_with (first | ((with_reducible refine gc_ 42 rfl ?_); refine gl_ (some 7) rfl Try.func42 #[.int .i64 a0_0] ?_; (with_reducible refine (impl_sizeOk.calls a0_0 false _ A4.out).mono ?_); rintro e w' ⟨rfl, ⟨nd, rfl⟩⟩; refine ⟨_, rfl, ?_⟩))
  go_meet
  case rel => exact ⟨_, (true), (by first | rfl | (simp; done) | (simp [*]; done)), H', ⟨by first | omega | exact Nat.le_refl _⟩, ⟨by exact upB a4.out⟩, ⟨by repeat (with_reducible first | exact HB.out | apply yac | apply yab | apply yad | refine below_set ?_ (Aside0.out ‹_›))⟩⟩
 case rest =>
  clear HC2; (try clear c1); (try clear p2); (try clear c4); (try clear c5); (try clear p6); (try clear c7); (try clear b5); (try clear b6); (try clear b7); (try clear c2); (try clear c3); (try clear c6); (try clear d2); (try clear d3); (try clear d4); (try clear b8); (try clear b9); (try clear c0); (try clear c8); (try clear c9); (try clear d0); (try clear d5); (try clear d6); (try clear d7); obtain ⟨kq, b4, rfl, HA, HJ1, a4, HB⟩ := hcut
  cases kq with
  | zero => exact absurd HA.out (by simp [impl_RasOk.j0])
  | succ kj1 =>
   have H := HA.out; clear HA
   simp only [impl_RasOk.j0] at H
   by_cases c11 : b4 = true
   ·
    subst c11
    rw [if_pos rfl] at H
    obtain rfl := Option.some.inj H
    go_wp2
    go_ret
    exact ⟨by first | rfl | (simp [*, errW_none, errW_some] <;> rfl), by repeat (with_reducible first | exact HB.out | apply yac | apply yab | apply yad | refine below_set ?_ (Aside0.out ‹_›))⟩
   replace c11 := Bool.eq_false_iff.mpr c11
   subst c11
   rw [if_neg (show ¬ (false = true) by decide)] at H
   have H' := yaa H; clear H; obtain ⟨d9, e0, e1⟩ := cc3_ a4.out; obtain ⟨e2, e3, e4⟩ := cf3_ a4.out
   go_wp2
   (try simp only [Act.put, List.setIfInBounds_toArray, List.set_cons_zero, List.set_cons_succ])
   go_loopg [29] kj1 (fun kq v29 w' => ∃ (a3 : Int), v29 = .int .i64 a3 ∧ Aside0 (impl_RasOk.l0 kq l0_2 (l0_2.length : Int) a3 = some r) ∧ Aside0 (kq ≤ kj1) ∧ Aside0 (w'.heap[b2]? = some (.cells #[.int .i64 a0_0, .int .i64 a0_1, (.slice A0_2 l0_2.length c0_2)] 25 (0, 0))) ∧ Aside0 (Below w.heap.size w w'))
   case atStart => exact ⟨(0), (by first | rfl | (simp; done) | (simp [*]; done)), H', ⟨Nat.le_refl _⟩, ⟨by exact upB a4.out⟩, ⟨by repeat (with_reducible first | exact HB.out | apply yac | apply yab | apply yad | refine below_set ?_ (Aside0.out ‹_›))⟩⟩
   case round =>
    clear H'; (try clear c1); (try clear p2); (try clear c4); (try clear c5); (try clear p6); (try clear c7); (try clear c11); (try clear b5); (try clear b6); (try clear b7); (try clear d9); (try clear e0); (try clear e1); (try clear c2); (try clear c3); (try clear c6); (try clear d2); (try clear d3); (try clear d4); (try clear b8); (try clear b9); (try clear c0); (try clear e2); (try clear e3); (try clear e4); (try clear c8); (try clear c9); (try clear d0); (try clear d5); (try clear d6); (try clear d7); (try clear p2); (try clear p6); obtain ⟨a3, rfl, HA, HK2, a4, HB⟩ := hrel
    cases gk with
    | zero => exact absurd HA.out (by simp [impl_RasOk.l0])
    | succ k2 =>
     have H := HA.out; clear HA
     simp only [impl_RasOk.l0] at H
     by_cases c13 : a3 < (l0_2.length : Int)
     rotate_left
     ·
      rw [if_neg c13] at H
      have f4 : decide (a3 < (l0_2.length : Int)) = false := decide_eq_false c13; clear c13; obtain rfl := Option.some.inj H
      go_wp2
      go_ret
      exact ⟨by first | rfl | (simp [*, errW_none, errW_some] <;> rfl), by repeat (with_reducible first | exact HB.out | apply yac | apply yab | apply yad | refine below_set ?_ (Aside0.out ‹_›))⟩
     rw [if_pos c13] at H
     have f4 : decide (a3 < (l0_2.length : Int)) = true := decide_eq_true c13; clear c13
     by_cases c14 : 0 ≤ a3
     rotate_left
     ·
      rw [if_neg c14] at H
      exact absurd H (by simp)
     rw [if_pos c14] at H
     replace c14 := decide_eq_true c14
     by_cases c15 : a3 < (l0_2.length : Int)
     ·
      rw [if_pos c15] at H
      replace c15 := decide_eq_true c15; obtain ⟨h2, A16, H⟩ := bindA H; (try dsimp only at H)
      by_cases c17 : h2 = true
      ·
       subst c17
       rw [if_pos rfl] at H
       have H' := yaa H; clear H; have p104 : 0 ≤ (a3 : Int) := of_decide_eq_true (by assumption); have q104 : a3 < (l0_2.length : Int) := of_decide_eq_true (by assumption); obtain ⟨ad104, e8, a7, a8, a9, b0⟩ := at_T36 HR0_2.out a3 p104 q104
       cases e8
       replace a7 := (upc_ HB.out a7 :); replace a8 := (upc_ HB.out a8 :); replace a9 := (upc_ HB.out a9 :); replace b0 := (upc_ HB.out b0 :); replace p104 := eq_true p104; replace q104 := eq_true q104
       go_wp2_with (first | ((with_reducible refine gd_ 4 rfl ?_); (try (refine gate_guard (by rfl) ?_; dsimp only)); refine bx_ 4 rfl #[.int .i64 0, .int .i64 0, .int .i64 0, .int .i64 0] 36 ?_; intro b3 hg w18 hbox hb; have a6 := yaa (hbox); have d8 := yaa ((by rw [hg]; exact (below_size (by repeat (with_reducible first | exact HB.out | apply yac | apply yab | apply yad | refine below_set ?_ (Aside0.out ‹_›)))) : w.heap.size ≤ b3)); replace HB := yaa (below_step (by repeat (with_reducible first | exact HB.out | apply yac | apply yab | apply yad | refine below_set ?_ (Aside0.out ‹_›))) hb); have f5 := d8; have a5 := yaa ((by rw [hg]; exact Nat.ne_of_lt (blk_lt (upB a4.out)) : b2 ≠ b3)); replace a4 := yaa (blk_below (upB a4.out) hb); have b1 := yaa a5.out.symm; clear hb hbox hg; have h5 := b1.out; have h6 := a5.out; obtain ⟨f6, f7, f8, f9⟩ := cc4_ a6.out; obtain ⟨g0, g1, g2⟩ := cf3_ a6.out; have g3 := blk_frozen a6.out 3) | ((with_reducible refine gc_ 40 rfl ?_); refine gl_ (some 34) rfl Try.func40 #[.agg #[.int .i64 ((yae l0_2 a3).f0), .int .i64 ((yae l0_2 a3).f1), .int .i64 ((yae l0_2 a3).f2), .int .i64 ((yae l0_2 a3).f3)]] ?_; (with_reducible refine (impl_PixOk.calls ((yae l0_2 a3).f0) ((yae l0_2 a3).f1) ((yae l0_2 a3).f2) ((yae l0_2 a3).f3) true _ A16.out).mono ?_); rintro e w21 ⟨rfl, hb⟩; refine ⟨_, rfl, ?_⟩; replace a4 := yaa (blk_below (g := b2) (o := .cells #[.int .i64 a0_0, .int .i64 a0_1, .slice (some ad104) l0_2.length c0_2] 25 (0, 0)) (by repeat (with_reducible first | exact a4.out | refine oneB ?_ | refine blk_far ?_ a5.out _)) hb); replace a6 := yaa (blk_below (g := b3) (o := .cells #[.int .i64 ((yae l0_2 a3).f0), .int .i64 ((yae l0_2 a3).f1), .int .i64 ((yae l0_2 a3).f2), .int .i64 ((yae l0_2 a3).f3)] 36 (0, 0)) (by (repeat refine oneB ?_); refine blk_put (cs := #[.int .i64 ((yae l0_2 a3).f0), .int .i64 ((yae l0_2 a3).f1), .int .i64 ((yae l0_2 a3).f2), .int .i64 0]) ?_ 3 _ rfl; refine blk_put (cs := #[.int .i64 ((yae l0_2 a3).f0), .int .i64 ((yae l0_2 a3).f1), .int .i64 0, .int .i64 0]) ?_ 2 _ rfl; refine blk_put (cs := #[.int .i64 ((yae l0_2 a3).f0), .int .i64 0, .int .i64 0, .int .i64 0]) ?_ 1 _ rfl; refine blk_put (cs := #[.int .i64 0, .int .i64 0, .int .i64 0, .int .i64 0]) ?_ 0 _ rfl; exact upB a6.out) hb); replace HB := yaa (below_step (by repeat (with_reducible first | exact HB.out | apply yac | apply yab | apply yad | refine below_set ?_ (Aside0.out ‹_›))) hb); (try clear hb)))
       go_roundg k2
       case measure => have := HJ1.out; have := HK2.out; omega
       case rel => exact ⟨(wrap64 (a3 + 1)), (by first | rfl | (simp; done) | (simp [*]; done)), H', ⟨by have := HJ1.out; have := HK2.out; omega⟩, ⟨by exact upB a4.out⟩, ⟨by repeat (with_reducible first | exact HB.out | apply yac | apply yab | apply yad | refine below_set ?_ (Aside0.out ‹_›))⟩⟩
      replace c17 := Bool.eq_false_iff.mpr c17
      subst c17
      rw [if_neg (show ¬ (false = true) by decide)] at H
      obtain rfl := Option.some.inj H; have p104 : 0 ≤ (a3 : Int) := of_decide_eq_true (by assumption); have q104 : a3 < (l0_2.length : Int) := of_decide_eq_true (by assumption); obtain ⟨ad104, e8, a7, a8, a9, b0⟩ := at_T36 HR0_2.out a3 p104 q104
      cases e8
      replace a7 := (upc_ HB.out a7 :); replace a8 := (upc_ HB.out a8 :); replace a9 := (upc_ HB.out a9 :); replace b0 := (upc_ HB.out b0 :); replace p104 := eq_true p104; replace q104 := eq_true q104
      go_wp2_with (first | ((with_reducible refine gd_ 4 rfl ?_); (try (refine gate_guard (by rfl) ?_; dsimp only)); refine bx_ 4 rfl #[.int .i64 0, .int .i64 0, .int .i64 0, .int .i64 0] 36 ?_; intro b3 hg w22 hbox hb; have a6 := yaa (hbox); have d8 := yaa ((by rw [hg]; exact (below_size (by repeat (with_reducible first | exact HB.out | apply yac | apply yab | apply yad | refine below_set ?_ (Aside0.out ‹_›)))) : w.heap.size ≤ b3)); replace HB := yaa (below_step (by repeat (with_reducible first | exact HB.out | apply yac | apply yab | apply yad | refine below_set ?_ (Aside0.out ‹_›))) hb); have f5 := d8; have a5 := yaa ((by rw [hg]; exact Nat.ne_of_lt (blk_lt (upB a4.out)) : b2 ≠ b3)); replace a4 := yaa (blk_below (upB a4.out) hb); have b1 := yaa a5.out.symm; clear hb hbox hg; have h7 := b1.out; have h8 := a5.out; obtain ⟨g4, g5, g6, g7⟩ := cc4_ a6.out; obtain ⟨g8, g9, h0⟩ := cf3_ a6.out; have h1 := blk_frozen a6.out 3) | ((with_reducible refine gc_ 40 rfl ?_); refine gl_ (some 34) rfl Try.func40 #[.agg #[.int .i64 ((yae l0_2 a3).f0), .int .i64 ((yae l0_2 a3).f1), .int .i64 ((yae l0_2 a3).f2), .int .i64 ((yae l0_2 a3).f3)]] ?_; (with_reducible refine (impl_PixOk.calls ((yae l0_2 a3).f0) ((yae l0_2 a3).f1) ((yae l0_2 a3).f2) ((yae l0_2 a3).f3) false _ A16.out).mono ?_); rintro e w25 ⟨rfl, hb⟩; refine ⟨_, rfl, ?_⟩; replace a4 := yaa (blk_below (g := b2) (o := .cells #[.int .i64 a0_0, .int .i64 a0_1, .slice (some ad104) l0_2.length c0_2] 25 (0, 0)) (by repeat (with_reducible first | exact a4.out | refine oneB ?_ | refine blk_far ?_ a5.out _)) hb); replace a6 := yaa (blk_below (g := b3) (o := .cells #[.int .i64 ((yae l0_2 a3).f0), .int .i64 ((yae l0_2 a3).f1), .int .i64 ((yae l0_2 a3).f2), .int .i64 ((yae l0_2 a3).f3)] 36 (0, 0)) (by (repeat refine oneB ?_); refine blk_put (cs := #[.int .i64 ((yae l0_2 a3).f0), .int .i64 ((yae l0_2 a3).f1), .int .i64 ((yae l0_2 a3).f2), .int .i64 0]) ?_ 3 _ rfl; refine blk_put (cs := #[.int .i64 ((yae l0_2 a3).f0), .int .i64 ((yae l0_2 a3).f1), .int .i64 0, .int .i64 0]) ?_ 2 _ rfl; refine blk_put (cs := #[.int .i64 ((yae l0_2 a3).f0), .int .i64 0, .int .i64 0, .int .i64 0]) ?_ 1 _ rfl; refine blk_put (cs := #[.int .i64 0, .int .i64 0, .int .i64 0, .int .i64 0]) ?_ 0 _ rfl; exact upB a6.out) hb); replace HB := yaa (below_step (by repeat (with_reducible first | exact HB.out | apply yac | apply yab | apply yad | refine below_set ?_ (Aside0.out ‹_›))) hb); (try clear hb)))
      go_ret
      exact ⟨by first | rfl | (simp [*, errW_none, errW_some] <;> rfl), by repeat (with_reducible first | exact HB.out | apply yac | apply yab | apply yad | refine below_set ?_ (Aside0.out ‹_›))⟩
     rw [if_neg c15] at H
     exact absurd H (by simp)
end
section
def spec_PixOk.f (a0_0 : Int) (a0_1 : Int) (a0_2 : Int) (a0_3 : Int) : Option (Bool) := (spec_l1In.f a0_0 0 255).bind fun t102 => (if t102 = true then ((spec_l1In.f a0_1 0 255).bind fun t103 => (if t103 = true then ((spec_l1In.f a0_2 0 255).bind fun t104 => (if t104 = true then ((spec_l1In.f a0_3 0 255).bind fun t105 => (some t105)) else (some false))) else (some false))) else (some false))
set_option maxHeartbeats 8000000 in
set_option maxRecDepth 100000 in
theorem spec_PixOk.calls (a0_0 : Int) (a0_1 : Int) (a0_2 : Int) (a0_3 : Int) (r : Bool) (w : World) (h : spec_PixOk.f a0_0 a0_1 a0_2 a0_3 = some r) :
  Calls Try.prog 19 #[.agg #[.int .i64 a0_0, .int .i64 a0_1, .int .i64 a0_2, .int .i64 a0_3]] w fun e w' => e = .returned (.bool r) ∧ Below w.heap.size w w' := by
 have hu36 := Try.underlying36; have HB := Aside0.mk (Below.refl w.heap.size w); have H : ((spec_l1In.f a0_0 0 255).bind fun a4 => (if a4 = true then ((spec_l1In.f a0_1 0 255).bind fun a5 => (if a5 = true then ((spec_l1In.f a0_2 0 255).bind fun a6 => (if a6 = true then ((spec_l1In.f a0_3 0 255).bind fun a7 => (some a7)) else (some false))) else (some false))) else (some false))) = some r := h; clear h; obtain ⟨a4, A2, H⟩ := bindA H; (try dsimp only at H)
 by_cases c3 : a4 = true
 rotate_left
 ·
  replace c3 := Bool.eq_false_iff.mpr c3
  subst c3
  rw [if_neg (show ¬ (false = true) by decide)] at H
  obtain rfl := Option.some.inj H
  go_enter Try.func19, Try.ntmps19
  go_wp2_with (first | ((with_reducible refine gd_ 1 rfl ?_); refine bx_ 1 rfl #[.int .i64 a0_0, .int .i64 a0_1, .int .i64 a0_2, .int .i64 a0_3] 36 ?_; intro a1 hg w15 hbox hb; have a0 := Aside0.mk (hbox); have a2 := Aside0.mk ((by rw [hg]; exact (below_size (upH HB.out)) : w.heap.size ≤ a1)); replace HB := Aside0.mk (below_step (upH HB.out) hb); have a3 := a2; clear hb hbox hg; obtain ⟨d7, d8, d9, e0⟩ := cc4_ a0.out; obtain ⟨e1, e2, e3⟩ := cf3_ a0.out; have e4 := blk_frozen a0.out 3) | ((with_reducible refine gc_ 41 rfl ?_); refine gl_ (some 5) rfl Try.func41 #[.int .i64 a0_0, .int .i64 0, .int .i64 255] ?_; (with_reducible refine (spec_l1In.calls a0_0 0 255 false _ A2.out).mono ?_); rintro e w' ⟨rfl, ⟨nd, rfl⟩⟩; refine ⟨_, rfl, ?_⟩))
  go_ret
  exact ⟨by first | rfl | (simp [*, errW_none, errW_some] <;> rfl), by repeat (with_reducible first | exact HB.out | apply below_alloc | apply pw_below_drewN | apply below_drew1 | refine below_set ?_ (Aside0.out ‹_›))⟩
 subst c3
 rw [if_pos rfl] at H
 obtain ⟨a5, A4, H⟩ := bindA H; (try dsimp only at H)
 by_cases c5 : a5 = true
 ·
  subst c5
  rw [if_pos rfl] at H
  obtain ⟨a6, A6, H⟩ := bindA H; (try dsimp only at H)
  by_cases c7 : a6 = true
  ·
   subst c7
   rw [if_pos rfl] at H
   obtain ⟨a7, A8, H⟩ := bindA H; (try dsimp only at H); obtain rfl := Option.some.inj H
   go_enter Try.func19, Try.ntmps19
   go_wp2_with (first | ((with_reducible refine gd_ 1 rfl ?_); refine bx_ 1 rfl #[.int .i64 a0_0, .int .i64 a0_1, .int .i64 a0_2, .int .i64 a0_3] 36 ?_; intro a1 hg w9 hbox hb; have a0 := Aside0.mk (hbox); have a2 := Aside0.mk ((by rw [hg]; exact (below_size (upH HB.out)) : w.heap.size ≤ a1)); replace HB := Aside0.mk (below_step (upH HB.out) hb); have a3 := a2; clear hb hbox hg; obtain ⟨b0, b1, b2, b3⟩ := cc4_ a0.out; obtain ⟨b4, b5, b6⟩ := cf3_ a0.out; have b7 := blk_frozen a0.out 3) | ((with_reducible refine gc_ 41 rfl ?_); refine gl_ (some 5) rfl Try.func41 #[.int .i64 a0_0, .int .i64 0, .int .i64 255] ?_; (with_reducible refine (spec_l1In.calls a0_0 0 255 true _ A2.out).mono ?_); rintro e w' ⟨rfl, ⟨nd, rfl⟩⟩; refine ⟨_, rfl, ?_⟩) | (go_at_call 41; (with_reducible refine (spec_l1In.calls a0_1 0 255 true _ A4.out).mono ?_); rintro e w' ⟨rfl, ⟨nd, rfl⟩⟩) | (go_at_call 41; (with_reducible refine (spec_l1In.calls a0_2 0 255 true _ A6.out).mono ?_); rintro e w' ⟨rfl, ⟨nd, rfl⟩⟩) | (go_at_call 41; (with_reducible refine (spec_l1In.calls a0_3 0 255 a7 _ A8.out).mono ?_); rintro e w' ⟨rfl, ⟨nd, rfl⟩⟩))
   go_ret
   exact ⟨by first | rfl | (simp [*, errW_none, errW_some] <;> rfl), by repeat (with_reducible first | exact HB.out | apply below_alloc | apply pw_below_drewN | apply below_drew1 | refine below_set ?_ (Aside0.out ‹_›))⟩
  replace c7 := Bool.eq_false_iff.mpr c7
  subst c7
  rw [if_neg (show ¬ (false = true) by decide)] at H
  obtain rfl := Option.some.inj H
  go_enter Try.func19, Try.ntmps19
  go_wp2_with (first | ((with_reducible refine gd_ 1 rfl ?_); refine bx_ 1 rfl #[.int .i64 a0_0, .int .i64 a0_1, .int .i64 a0_2, .int .i64 a0_3] 36 ?_; intro a1 hg w11 hbox hb; have a0 := Aside0.mk (hbox); have a2 := Aside0.mk ((by rw [hg]; exact (below_size (upH HB.out)) : w.heap.size ≤ a1)); replace HB := Aside0.mk (below_step (upH HB.out) hb); have a3 := a2; clear hb hbox hg; obtain ⟨b8, b9, c0, c1⟩ := cc4_ a0.out; obtain ⟨c2, c4, c6⟩ := cf3_ a0.out; have c8 := blk_frozen a0.out 3) | ((with_reducible refine gc_ 41 rfl ?_); refine gl_ (some 5) rfl Try.func41 #[.int .i64 a0_0, .int .i64 0, .int .i64 255] ?_; (with_reducible refine (spec_l1In.calls a0_0 0 255 true _ A2.out).mono ?_); rintro e w' ⟨rfl, ⟨nd, rfl⟩⟩; refine ⟨_, rfl, ?_⟩) | (go_at_call 41; (with_reducible refine (spec_l1In.calls a0_1 0 255 true _ A4.out).mono ?_); rintro e w' ⟨rfl, ⟨nd, rfl⟩⟩) | (go_at_call 41; (with_reducible refine (spec_l1In.calls a0_2 0 255 false _ A6.out).mono ?_); rintro e w' ⟨rfl, ⟨nd, rfl⟩⟩))
  go_ret
  exact ⟨by first | rfl | (simp [*, errW_none, errW_some] <;> rfl), by repeat (with_reducible first | exact HB.out | apply below_alloc | apply pw_below_drewN | apply below_drew1 | refine below_set ?_ (Aside0.out ‹_›))⟩
 replace c5 := Bool.eq_false_iff.mpr c5
 subst c5
 rw [if_neg (show ¬ (false = true) by decide)] at H
 obtain rfl := Option.some.inj H
 go_enter Try.func19, Try.ntmps19
 go_wp2_with (first | ((with_reducible refine gd_ 1 rfl ?_); refine bx_ 1 rfl #[.int .i64 a0_0, .int .i64 a0_1, .int .i64 a0_2, .int .i64 a0_3] 36 ?_; intro a1 hg w13 hbox hb; have a0 := Aside0.mk (hbox); have a2 := Aside0.mk ((by rw [hg]; exact (below_size (upH HB.out)) : w.heap.size ≤ a1)); replace HB := Aside0.mk (below_step (upH HB.out) hb); have a3 := a2; clear hb hbox hg; obtain ⟨c9, d0, d1, d2⟩ := cc4_ a0.out; obtain ⟨d3, d4, d5⟩ := cf3_ a0.out; have d6 := blk_frozen a0.out 3) | ((with_reducible refine gc_ 41 rfl ?_); refine gl_ (some 5) rfl Try.func41 #[.int .i64 a0_0, .int .i64 0, .int .i64 255] ?_; (with_reducible refine (spec_l1In.calls a0_0 0 255 true _ A2.out).mono ?_); rintro e w' ⟨rfl, ⟨nd, rfl⟩⟩; refine ⟨_, rfl, ?_⟩) | (go_at_call 41; (with_reducible refine (spec_l1In.calls a0_1 0 255 false _ A4.out).mono ?_); rintro e w' ⟨rfl, ⟨nd, rfl⟩⟩))
 go_ret
 exact ⟨by first | rfl | (simp [*, errW_none, errW_some] <;> rfl), by repeat (with_reducible first | exact HB.out | apply below_alloc | apply pw_below_drewN | apply below_drew1 | refine below_set ?_ (Aside0.out ‹_›))⟩
end
section
open Go.Proofs.YtoifpgkfpdeglaaW.PrintWords renaming pw_below_drewN → yaa
mutual
def spec_RasOk.j0 : Nat → Bool → Int → Int → List (S36) → Option (Bool)
 | 0, _, _, _, _ => none
 | k + 1, x24, x102000, x102001, x102002 => if x24 = true then (some false) else (spec_RasOk.l0 k 0 x102000 x102001 x102002)
def spec_RasOk.l0 : Nat → Int → Int → Int → List (S36) → Option (Bool)
 | 0, _, _, _, _ => none
 | k + 1, x3, x102000, x102001, x102002 => if x3 < (x102002.length : Int) then (if 0 ≤ x3 then ((spec_PixOk.f ((rd_T36 x102002 x3).f0) ((rd_T36 x102002 x3).f1) ((rd_T36 x102002 x3).f2) ((rd_T36 x102002 x3).f3)).bind fun t105 => (if t105 = true then (spec_RasOk.l0 k (wrap64 (x3 + 1)) x102000 x102001 x102002) else (some false))) else (none)) else (some true)
end
def spec_RasOk.f (k : Nat) (a0_0 : Int) (a0_1 : Int) (l0_2 : List (S36)) : Option (Bool) := (spec_l1In.f a0_0 1 6).bind fun t102 => (if t102 = true then ((spec_l1In.f a0_1 1 6).bind fun t103 => (if t103 = true then (spec_RasOk.j0 k ((l0_2.length : Int) != (wrap64 (a0_0 * a0_1))) a0_0 a0_1 l0_2) else (spec_RasOk.j0 k true a0_0 a0_1 l0_2))) else (spec_RasOk.j0 k true a0_0 a0_1 l0_2))
set_option maxHeartbeats 8000000 in
set_option maxRecDepth 100000 in
theorem spec_RasOk.calls (k : Nat) (a0_0 : Int) (a0_1 : Int) (A0_2 : Option Addr) (c0_2 : Nat) (l0_2 : List (S36)) (r : Bool) (w : World) (hr0_2 : Kd.C k36 w A0_2 l0_2.length l0_2) (hc0_2 : l0_2.length ≤ c0_2) (h : spec_RasOk.f k a0_0 a0_1 l0_2 = some r) :
  Calls Try.prog 16 #[.agg #[.int .i64 a0_0, .int .i64 a0_1, .slice A0_2 l0_2.length c0_2]] w fun e w' => e = .returned (.bool r) ∧ Below w.heap.size w w' := by
 have hu25 := Try.underlying25; have hu36 := Try.underlying36; have HR0_2 := Aside0.mk hr0_2; have HC0_2 := Aside0.mk hc0_2; clear hr0_2 hc0_2; have HB := Aside0.mk (Below.refl w.heap.size w); have H : ((spec_l1In.f a0_0 1 6).bind fun d5 => (if d5 = true then ((spec_l1In.f a0_1 1 6).bind fun d6 => (if d6 = true then (spec_RasOk.j0 k ((l0_2.length : Int) != (wrap64 (a0_0 * a0_1))) a0_0 a0_1 l0_2) else (spec_RasOk.j0 k true a0_0 a0_1 l0_2))) else (spec_RasOk.j0 k true a0_0 a0_1 l0_2))) = some r := h; clear h; have HC2 := Aside0.mk H; clear H
 go_enter Try.func16, Try.ntmps16
 go_upto_region 1 with (first | ((with_reducible refine gd_ 1 rfl ?_); (try (refine gate_guard (by rfl) ?_; dsimp only)); refine bx_ 1 rfl #[.int .i64 a0_0, .int .i64 a0_1, .slice A0_2 l0_2.length c0_2] 25 ?_; intro b6 hg w3 hbox hb; have a3 := Aside0.mk (hbox); have d8 := Aside0.mk ((by rw [hg]; exact (below_size (upH HB.out)) : w.heap.size ≤ b6)); replace HB := Aside0.mk (below_step (upH HB.out) hb); have g3 := d8; clear hb hbox hg))
 (try simp only [Act.put, List.setIfInBounds_toArray, List.set_cons_zero, List.set_cons_succ])
 go_cut [24] (fun v24 wc => ∃ (kq : Nat) (a9 : Bool), v24 = .bool a9 ∧ Aside0 (spec_RasOk.j0 kq a9 a0_0 a0_1 l0_2 = some r) ∧ Aside0 (kq ≤ k) ∧ Aside0 (wc.heap[b6]? = some (.cells #[.int .i64 a0_0, .int .i64 a0_1, (.slice A0_2 l0_2.length c0_2)] 25 (0, 0))) ∧ Aside0 (Below w.heap.size w wc))
 case first =>
  have H := HC2.out; clear HC2; obtain ⟨d5, A4, H⟩ := bindA H; (try dsimp only at H)
  by_cases c5 : d5 = true
  ·
   subst c5
   rw [if_pos rfl] at H
   obtain ⟨d6, A6, H⟩ := bindA H; (try dsimp only at H)
   by_cases c7 : d6 = true
   ·
    subst c7
    rw [if_pos rfl] at H
    have H' := Aside0.mk H; clear H; obtain ⟨b7, b8, b9⟩ := cc3_ a3.out; obtain ⟨c2, c3, c6⟩ := cf3_ a3.out
    go_wp2_with (first | ((with_reducible refine gc_ 41 rfl ?_); refine gl_ (some 6) rfl Try.func41 #[.int .i64 a0_0, .int .i64 1, .int .i64 6] ?_; (with_reducible refine (spec_l1In.calls a0_0 1 6 true _ A4.out).mono ?_); rintro e w' ⟨rfl, ⟨nd, rfl⟩⟩; refine ⟨_, rfl, ?_⟩) | (go_at_call 41; (with_reducible refine (spec_l1In.calls a0_1 1 6 true _ A6.out).mono ?_); rintro e w' ⟨rfl, ⟨nd, rfl⟩⟩))
    go_meet
    case rel => exact ⟨_, (((l0_2.length : Int) != (wrap64 (a0_0 * a0_1)))), (by first | rfl | (simp; done) | (simp [*]; done)), H', ⟨by first | omega | exact Nat.le_refl _⟩, ⟨by exact upB a3.out⟩, ⟨by repeat (with_reducible first | exact HB.out | apply below_alloc | apply yaa | apply below_drew1 | refine below_set ?_ (Aside0.out ‹_›))⟩⟩
   replace c7 := Bool.eq_false_iff.mpr c7
   subst c7
   rw [if_neg (show ¬ (false = true) by decide)] at H
   have H' := Aside0.mk H; clear H; obtain ⟨c9, d0, d1⟩ := cc3_ a3.out; obtain ⟨d2, d3, d4⟩ := cf3_ a3.out
   go_wp2_with (first | ((with_reducible refine gc_ 41 rfl ?_); refine gl_ (some 6) rfl Try.func41 #[.int .i64 a0_0, .int .i64 1, .int .i64 6] ?_; (with_reducible refine (spec_l1In.calls a0_0 1 6 true _ A4.out).mono ?_); rintro e w' ⟨rfl, ⟨nd, rfl⟩⟩; refine ⟨_, rfl, ?_⟩) | (go_at_call 41; (with_reducible refine (spec_l1In.calls a0_1 1 6 false _ A6.out).mono ?_); rintro e w' ⟨rfl, ⟨nd, rfl⟩⟩))
   go_meet
   case rel => exact ⟨_, (true), (by first | rfl | (simp; done) | (simp [*]; done)), H', ⟨by first | omega | exact Nat.le_refl _⟩, ⟨by exact upB a3.out⟩, ⟨by repeat (with_reducible first | exact HB.out | apply below_alloc | apply yaa | apply below_drew1 | refine below_set ?_ (Aside0.out ‹_›))⟩⟩
  replace c5 := Bool.eq_false_iff.mpr c5
  subst c5
  rw [if_neg (show ¬ (false = true) by decide)] at H
  have H' := Aside0.mk H; clear H; obtain ⟨b0, b1, b2⟩ := cc3_ a3.out; obtain ⟨b3, b4, b5⟩ := cf3_ a3.out
  go_wp2_with (first | ((with_reducible refine gc_ 41 rfl ?_); refine gl_ (some 6) rfl Try.func41 #[.int .i64 a0_0, .int .i64 1, .int .i64 6] ?_; (with_reducible refine (spec_l1In.calls a0_0 1 6 false _ A4.out).mono ?_); rintro e w' ⟨rfl, ⟨nd, rfl⟩⟩; refine ⟨_, rfl, ?_⟩))
  go_meet
  case rel => exact ⟨_, (true), (by first | rfl | (simp; done) | (simp [*]; done)), H', ⟨by first | omega | exact Nat.le_refl _⟩, ⟨by exact upB a3.out⟩, ⟨by repeat (with_reducible first | exact HB.out | apply below_alloc | apply yaa | apply below_drew1 | refine below_set ?_ (Aside0.out ‹_›))⟩⟩
 case rest =>
  clear HC2; (try clear c1); (try clear p2); (try clear c4); (try clear c5); (try clear p6); (try clear c7); (try clear b0); (try clear b1); (try clear b2); (try clear b7); (try clear b8); (try clear b9); (try clear c9); (try clear d0); (try clear d1); (try clear b3); (try clear b4); (try clear b5); (try clear c2); (try clear c3); (try clear c6); (try clear d2); (try clear d3); (try clear d4); obtain ⟨kq, a9, rfl, HA, HJ1, a3, HB⟩ := hcut
  cases kq with
  | zero => exact absurd HA.out (by simp [spec_RasOk.j0])
  | succ kj1 =>
   have H := HA.out; clear HA
   simp only [spec_RasOk.j0] at H
   by_cases c11 : a9 = true
   ·
    subst c11
    rw [if_pos rfl] at H
    obtain rfl := Option.some.inj H
    go_wp2
    go_ret
    exact ⟨by first | rfl | (simp [*, errW_none, errW_some] <;> rfl), by repeat (with_reducible first | exact HB.out | apply below_alloc | apply yaa | apply below_drew1 | refine below_set ?_ (Aside0.out ‹_›))⟩
   replace c11 := Bool.eq_false_iff.mpr c11
   subst c11
   rw [if_neg (show ¬ (false = true) by decide)] at H
   have H' := Aside0.mk H; clear H
   go_wp2
   (try simp only [Act.put, List.setIfInBounds_toArray, List.set_cons_zero, List.set_cons_succ])
   go_loopg [3] kj1 (fun kq v3 w' => ∃ (a4 : Int), v3 = .int .i64 a4 ∧ Aside0 (spec_RasOk.l0 kq a4 a0_0 a0_1 l0_2 = some r) ∧ Aside0 (kq ≤ kj1) ∧ Aside0 (w'.heap[b6]? = some (.cells #[.int .i64 a0_0, .int .i64 a0_1, (.slice A0_2 l0_2.length c0_2)] 25 (0, 0))) ∧ Aside0 (Below w.heap.size w w'))
   case atStart => exact ⟨(0), (by first | rfl | (simp; done) | (simp [*]; done)), H', ⟨Nat.le_refl _⟩, ⟨by exact upB a3.out⟩, ⟨by repeat (with_reducible first | exact HB.out | apply below_alloc | apply yaa | apply below_drew1 | refine below_set ?_ (Aside0.out ‹_›))⟩⟩
   case round =>
    clear H'; (try clear c1); (try clear p2); (try clear c4); (try clear c5); (try clear p6); (try clear c7); (try clear c11); (try clear b0); (try clear b1); (try clear b2); (try clear b7); (try clear b8); (try clear b9); (try clear c9); (try clear d0); (try clear d1); (try clear b3); (try clear b4); (try clear b5); (try clear c2); (try clear c3); (try clear c6); (try clear d2); (try clear d3); (try clear d4); (try clear p2); (try clear p6); obtain ⟨a4, rfl, HA, HK2, a3, HB⟩ := hrel
    cases gk with
    | zero => exact absurd HA.out (by simp [spec_RasOk.l0])
    | succ k2 =>
     have H := HA.out; clear HA
     simp only [spec_RasOk.l0] at H
     by_cases c12 : a4 < (l0_2.length : Int)
     rotate_left
     ·
      rw [if_neg c12] at H
      have d9 : decide (a4 < (l0_2.length : Int)) = false := decide_eq_false c12; clear c12; obtain rfl := Option.some.inj H; obtain ⟨f6, f7, f8⟩ := cc3_ a3.out; obtain ⟨f9, g0, g1⟩ := cf3_ a3.out
      go_wp2
      go_ret
      exact ⟨by first | rfl | (simp [*, errW_none, errW_some] <;> rfl), by repeat (with_reducible first | exact HB.out | apply below_alloc | apply yaa | apply below_drew1 | refine below_set ?_ (Aside0.out ‹_›))⟩
     rw [if_pos c12] at H
     have d9 : decide (a4 < (l0_2.length : Int)) = true := decide_eq_true c12; clear c12
     by_cases c13 : 0 ≤ a4
     rotate_left
     ·
      rw [if_neg c13] at H
      exact absurd H (by simp)
     rw [if_pos c13] at H
     replace c13 := decide_eq_true c13; obtain ⟨g2, A14, H⟩ := bindA H; (try dsimp only at H)
     by_cases c15 : g2 = true
     ·
      subst c15
      rw [if_pos rfl] at H
      have H' := Aside0.mk H; clear H; obtain ⟨e0, e1, e2⟩ := cc3_ a3.out; obtain ⟨e3, e4, e5⟩ := cf3_ a3.out; have p104 : 0 ≤ (a4 : Int) := of_decide_eq_true (by assumption); have q104 : a4 < (l0_2.length : Int) := of_decide_eq_true (by assumption); obtain ⟨ad104, d7, a5, a6, a7, a8⟩ := at_T36 HR0_2.out a4 p104 q104
      cases d7
      replace a5 := (upc_ HB.out a5 :); replace a6 := (upc_ HB.out a6 :); replace a7 := (upc_ HB.out a7 :); replace a8 := (upc_ HB.out a8 :); replace p104 := eq_true p104; replace q104 := eq_true q104
      go_wp2_with (first | ((with_reducible refine gc_ 19 rfl ?_); refine gl_ (some 37) rfl Try.func19 #[.agg #[.int .i64 ((rd_T36 l0_2 a4).f0), .int .i64 ((rd_T36 l0_2 a4).f1), .int .i64 ((rd_T36 l0_2 a4).f2), .int .i64 ((rd_T36 l0_2 a4).f3)]] ?_; (with_reducible refine (spec_PixOk.calls ((rd_T36 l0_2 a4).f0) ((rd_T36 l0_2 a4).f1) ((rd_T36 l0_2 a4).f2) ((rd_T36 l0_2 a4).f3) true _ A14.out).mono ?_); rintro e w17 ⟨rfl, hb⟩; refine ⟨_, rfl, ?_⟩; replace a3 := Aside0.mk (blk_below (upB a3.out) hb); replace HB := Aside0.mk (below_step (by repeat (with_reducible first | exact HB.out | apply below_alloc | apply yaa | apply below_drew1 | refine below_set ?_ (Aside0.out ‹_›))) hb); (try clear hb)))
      go_roundg k2
      case measure => have := HJ1.out; have := HK2.out; omega
      case rel => exact ⟨(wrap64 (a4 + 1)), (by first | rfl | (simp; done) | (simp [*]; done)), H', ⟨by have := HJ1.out; have := HK2.out; omega⟩, ⟨by exact upB a3.out⟩, ⟨by repeat (with_reducible first | exact HB.out | apply below_alloc | apply yaa | apply below_drew1 | refine below_set ?_ (Aside0.out ‹_›))⟩⟩
     replace c15 := Bool.eq_false_iff.mpr c15
     subst c15
     rw [if_neg (show ¬ (false = true) by decide)] at H
     obtain rfl := Option.some.inj H; obtain ⟨e6, e7, e8⟩ := cc3_ a3.out; obtain ⟨e9, f4, f5⟩ := cf3_ a3.out; have p104 : 0 ≤ (a4 : Int) := of_decide_eq_true (by assumption); have q104 : a4 < (l0_2.length : Int) := of_decide_eq_true (by assumption); obtain ⟨ad104, d7, a5, a6, a7, a8⟩ := at_T36 HR0_2.out a4 p104 q104
     cases d7
     replace a5 := (upc_ HB.out a5 :); replace a6 := (upc_ HB.out a6 :); replace a7 := (upc_ HB.out a7 :); replace a8 := (upc_ HB.out a8 :); replace p104 := eq_true p104; replace q104 := eq_true q104
     go_wp2_with (first | ((with_reducible refine gc_ 19 rfl ?_); refine gl_ (some 37) rfl Try.func19 #[.agg #[.int .i64 ((rd_T36 l0_2 a4).f0), .int .i64 ((rd_T36 l0_2 a4).f1), .int .i64 ((rd_T36 l0_2 a4).f2), .int .i64 ((rd_T36 l0_2 a4).f3)]] ?_; (with_reducible refine (spec_PixOk.calls ((rd_T36 l0_2 a4).f0) ((rd_T36 l0_2 a4).f1) ((rd_T36 l0_2 a4).f2) ((rd_T36 l0_2 a4).f3) false _ A14.out).mono ?_); rintro e w19 ⟨rfl, hb⟩; refine ⟨_, rfl, ?_⟩; replace a3 := Aside0.mk (blk_below (upB a3.out) hb); replace HB := Aside0.mk (below_step (by repeat (with_reducible first | exact HB.out | apply below_alloc | apply yaa | apply below_drew1 | refine below_set ?_ (Aside0.out ‹_›))) hb); (try clear hb)))
     go_ret
     exact ⟨by first | rfl | (simp [*, errW_none, errW_some] <;> rfl), by repeat (with_reducible first | exact HB.out | apply below_alloc | apply yaa | apply below_drew1 | refine below_set ?_ (Aside0.out ‹_›))⟩
end
section
open Go.Proofs.YtoifpgkfpdeglaaW.PrintWords.Aside0 renaming mk → yaa
open Go.Proofs.YtoifpgkfpdeglaaW.PrintWords renaming blk_cell → yab, pw_below_drewN → yac, below_drew1 → yad, below_alloc → yae
abbrev q73_0 : Array Bool := Array.replicate 22 false
abbrev q73_1 : Array Bool := bl_ 22 1
abbrev q73_2 : Array Bool := bl_ 22 5
abbrev q73_3 : Array Bool := bl_ 22 21
abbrev q73_4 : Array Bool := bl_ 22 85
abbrev q73_5 : Array Bool := bl_ 22 341
abbrev q73_6 : Array Bool := bl_ 22 2389
abbrev q73_7 : Array Bool := bl_ 22 18773
abbrev q73_8 : Array Bool := bl_ 22 18775
abbrev q73_9 : Array Bool := bl_ 22 18783
abbrev q73_10 : Array Bool := bl_ 22 18815
abbrev q73_11 : Array Bool := bl_ 22 18943
abbrev q73_12 : Array Bool := bl_ 22 19455
abbrev q73_13 : Array Bool := bl_ 22 20479
abbrev q73_14 : Array Bool := bl_ 22 24575
abbrev q73_15 : Array Bool := bl_ 22 32767
abbrev q73_16 : Array Bool := bl_ 22 65535
abbrev q73_17 : Array Bool := bl_ 22 131071
abbrev q73_18 : Array Bool := bl_ 22 262143
abbrev q73_19 : Array Bool := bl_ 22 524287
abbrev q73_20 : Array Bool := bl_ 22 1048575
abbrev q73_21 : Array Bool := bl_ 22 2097151
abbrev q73_22 : Array Bool := bl_ 22 4194303
mutual
def spec_l6Crop.l0 : Nat → Int → Int → Int → List (S36) → Int → Int → Int → Int → Int → Int → Int → List (S36) → Option (Int × Int × (List (S36)))
 | 0, _, _, _, _, _, _, _, _, _, _, _, _ => none
 | k + 1, x6, x102000, x102001, x102002, x103000, x103001, x103002, x103003, x103004, x105000, x105001, x105002 => if x6 < x103004 then (spec_l6Crop.l1 k x6 0 x102000 x102001 x102002 x103000 x103001 x103002 x103003 x103004 x105000 x105001 x105002) else (some (x105000, x105001, x105002))
def spec_l6Crop.l1 : Nat → Int → Int → Int → Int → List (S36) → Int → Int → Int → Int → Int → Int → Int → List (S36) → Option (Int × Int × (List (S36)))
 | 0, _, _, _, _, _, _, _, _, _, _, _, _, _ => none
 | k + 1, x6, x7, x102000, x102001, x102002, x103000, x103001, x103002, x103003, x103004, x105000, x105001, x105002 => if x7 < x103003 then (if 0 ≤ (wrap64 ((wrap64 ((wrap64 ((wrap64 (x103002 + x6)) * x102000)) + x103001)) + x7)) then (if (wrap64 ((wrap64 ((wrap64 ((wrap64 (x103002 + x6)) * x102000)) + x103001)) + x7)) < (x102002.length : Int) then (if x105002.length < 4398046511104 then (spec_l6Crop.l1 k x6 (wrap64 (x7 + 1)) x102000 x102001 x102002 x103000 x103001 x103002 x103003 x103004 x105000 x105001 (x105002 ++ [(⟨(rd_T36 x102002 (wrap64 ((wrap64 ((wrap64 ((wrap64 (x103002 + x6)) * x102000)) + x103001)) + x7))).f0, (rd_T36 x102002 (wrap64 ((wrap64 ((wrap64 ((wrap64 (x103002 + x6)) * x102000)) + x103001)) + x7))).f1, (rd_T36 x102002 (wrap64 ((wrap64 ((wrap64 ((wrap64 (x103002 + x6)) * x102000)) + x103001)) + x7))).f2, (rd_T36 x102002 (wrap64 ((wrap64 ((wrap64 ((wrap64 (x103002 + x6)) * x102000)) + x103001)) + x7))).f3⟩ : S36)])) else (none)) else (none)) else (none)) else (spec_l6Crop.l0 k (wrap64 (x6 + 1)) x102000 x102001 x102002 x103000 x103001 x103002 x103003 x103004 x105000 x105001 x105002)
end
def spec_l6Crop.f (k : Nat) (a0_0 : Int) (a0_1 : Int) (l0_2 : List (S36)) (a1_0 : Int) (a1_1 : Int) (a1_2 : Int) (a1_3 : Int) (a1_4 : Int) : Option (Int × Int × (List (S36))) := spec_l6Crop.l0 k 0 a0_0 a0_1 l0_2 a1_0 a1_1 a1_2 a1_3 a1_4 a1_3 a1_4 ([] : List (S36))
def spec_l6Crop.T8 : Bool × List (List Nat × List Nat) := (true, [([], []), ([0], [0]), ([], []), ([2], [2]), ([], []), ([4], [4]), ([], []), ([5, 6], [5, 6]), ([], []), ([8], [8]), ([7, 9], [7, 9]), ([], []), ([11], [11]), ([10, 12], [10, 12]), ([], []), ([13, 14], [13, 14]), ([3, 15], [3, 15]), ([16], [16]), ([17], [17]), ([1, 18], [1, 18]), ([0, 1, 2, 3, 4, 5, 6, 7, 8, 9, 10, 11, 12, 13, 14, 15, 16, 17, 18, 19], []), ([20, 19, 19, 0, 1, 2, 3, 4, 5, 6, 7, 8, 9, 10, 11, 12, 13, 14, 15, 16, 17, 18, 19], [19, 20])])
def spec_l6Crop.B8 : List Nat := [0, 1, 0, 4, 0, 16, 0, 112, 0, 256, 1008, 0, 2048, 8176, 0, 32752, 65532, 131068, 262140, 524287, 1048575, 2097151]
theorem spec_l6Crop.tab8 : rtab .any (opsOf Try.f73 8) = spec_l6Crop.T8 := by kernel_rfl
theorem spec_l6Crop.bits8 : waitsOk spec_l6Crop.T8.2 spec_l6Crop.B8 = true := by kernel_rfl
set_option maxHeartbeats 8000000 in
set_option maxRecDepth 100000 in
theorem spec_l6Crop.calls (k : Nat) (a0_0 : Int) (a0_1 : Int) (A0_2 : Option Addr) (c0_2 : Nat) (l0_2 : List (S36)) (a1_0 : Int) (a1_1 : Int) (a1_2 : Int) (a1_3 : Int) (a1_4 : Int) (r1 : Int) (r2 : Int) (r3 : List (S36)) (w : World) (hr0_2 : Kd.C k36 w A0_2 l0_2.length l0_2) (hc0_2 : l0_2.length ≤ c0_2) (h : spec_l6Crop.f k a0_0 a0_1 l0_2 a1_0 a1_1 a1_2 a1_3 a1_4 = some (r1, r2, r3)) :
  Calls Try.prog 73 #[.agg #[.int .i64 a0_0, .int .i64 a0_1, .slice A0_2 l0_2.length c0_2], .agg #[.int .i64 a1_0, .int .i64 a1_1, .int .i64 a1_2, .int .i64 a1_3, .int .i64 a1_4]] w fun e w' => ∃ v2_ : Value, e = .returned (.agg #[.int .i64 r1, .int .i64 r2, v2_]) ∧ Kd.R k36 36 w' w.heap.size (fun _ => True) v2_ r3 ∧ Below w.heap.size w w' := by
 have hu25 := Try.underlying25; have hu27 := Try.underlying27; have hu36 := Try.underlying36; have HR0_2 := yaa hr0_2; have HC0_2 := yaa hc0_2; clear hr0_2 hc0_2; have HB := yaa (Below.refl w.heap.size w); have H : (spec_l6Crop.l0 k 0 a0_0 a0_1 l0_2 a1_0 a1_1 a1_2 a1_3 a1_4 a1_3 a1_4 ([] : List (S36))) = some (r1, r2, r3) := h; clear h; have H' := yaa H; clear H
 go_enter Try.func73, Try.ntmps73
 go_wp2_with (first | ((with_reducible refine gd_ 2 rfl ?_); refine bx_ 2 rfl #[.int .i64 a0_0, .int .i64 a0_1, .slice A0_2 l0_2.length c0_2] 25 ?_; intro c9 hg w3 hbox hb; have b0 := yaa (hbox); have h8 := yaa ((by rw [hg]; exact (below_size (upH HB.out)) : w.heap.size ≤ c9)); replace HB := yaa (below_step (upH HB.out) hb); have o4 := h8; clear hb hbox hg) | ((with_reducible refine gd_ 3 rfl ?_); refine bx_ 3 rfl #[.int .i64 a1_0, .int .i64 a1_1, .int .i64 a1_2, .int .i64 a1_3, .int .i64 a1_4] 27 ?_; intro c4 hg w4 hbox hb; have a8 := yaa (hbox); have h9 := yaa ((by rw [hg]; exact (below_size (by repeat (with_reducible first | exact HB.out | apply yae | apply yac | apply yad | refine below_set ?_ (Aside0.out ‹_›)))) : w.heap.size ≤ c4)); replace HB := yaa (below_step (by repeat (with_reducible first | exact HB.out | apply yae | apply yac | apply yad | refine below_set ?_ (Aside0.out ‹_›))) hb); have o5 := h9; have b5 := yaa ((by rw [hg]; exact Nat.ne_of_lt (blk_lt (upB b0.out)) : c9 ≠ c4)); replace b0 := yaa (blk_below (upB b0.out) hb); have c2 := yaa b5.out.symm; clear hb hbox hg) | ((with_reducible refine gd_ 4 rfl ?_); refine bx_ 4 rfl #[.int .i64 0, .int .i64 0, .slice none 0 0] 25 ?_; intro c8 hg w5 hbox hb; have b4 := yaa (hbox); have i0 := yaa ((by rw [hg]; exact (below_size (by repeat (with_reducible first | exact HB.out | apply yae | apply yac | apply yad | refine below_set ?_ (Aside0.out ‹_›)))) : w.heap.size ≤ c8)); replace HB := yaa (below_step (by repeat (with_reducible first | exact HB.out | apply yae | apply yac | apply yad | refine below_set ?_ (Aside0.out ‹_›))) hb); have o6 := i0; have e2 := yaa ((by rw [hg]; exact Nat.ne_of_lt (blk_lt (upB b0.out)) : c9 ≠ c8)); replace b0 := yaa (blk_below (upB b0.out) hb); have e9 := yaa e2.out.symm; have b6 := yaa ((by rw [hg]; exact Nat.ne_of_lt (blk_lt (upB a8.out)) : c4 ≠ c8)); replace a8 := yaa (blk_below (upB a8.out) hb); have c3 := yaa b6.out.symm; clear hb hbox hg; have s9 := c2.out; have t0 := b5.out; have t1 := b6.out; have t2 := c3.out; obtain ⟨f4, f5, f6, f7, f8⟩ := cc5_ a8.out; obtain ⟨f9, g0, g1, g2⟩ := cf4_ a8.out; have g3 := blk_frozen a8.out 4) | ((with_reducible refine gd_ 5 rfl ?_); refine bx_ 5 rfl #[.int .i64 0, .int .i64 0, .slice none 0 0] 25 ?_; intro c5 hg w9 hbox hb; have b1 := yaa (hbox); have i1 := yaa ((by rw [hg]; exact (below_size (by repeat (with_reducible first | exact HB.out | apply yae | apply yac | apply yad | refine below_set ?_ (Aside0.out ‹_›)))) : w.heap.size ≤ c5)); replace HB := yaa (below_step (by repeat (with_reducible first | exact HB.out | apply yae | apply yac | apply yad | refine below_set ?_ (Aside0.out ‹_›))) hb); have o7 := i1; have b7 := yaa ((by rw [hg]; exact Nat.ne_of_lt (blk_lt (upB b0.out)) : c9 ≠ c5)); replace b0 := yaa (blk_below (upB b0.out) hb); have d0 := yaa b7.out.symm; have b2 := yaa ((by rw [hg]; exact Nat.ne_of_lt (blk_lt (upB a8.out)) : c4 ≠ c5)); replace a8 := yaa (blk_below (upB a8.out) hb); have b8 := yaa b2.out.symm; have b9 := yaa ((by rw [hg]; exact Nat.ne_of_lt (blk_lt (upB b4.out)) : c8 ≠ c5)); replace b4 := yaa (blk_below (upB b4.out) hb); have d1 := yaa b9.out.symm; clear hb hbox hg; have o8 := d0.out; have o9 := b7.out; have p0 := b8.out; have p1 := b2.out; have p3 := d1.out; have p4 := b9.out; obtain ⟨e3, e4, e5⟩ := cc3_ b1.out; obtain ⟨e6, e7⟩ := cf2_ b1.out; have e8 := blk_frozen b1.out 2))
 (try simp only [Act.put, List.setIfInBounds_toArray, List.set_cons_zero, List.set_cons_succ])
 go_loopg [6] k (fun kq v6 w' => ∃ (d2 : Int) (c0 : List (S36)) (u105002 : Value), v6 = .int .i64 d2 ∧ Aside0 (spec_l6Crop.l0 kq d2 a0_0 a0_1 l0_2 a1_0 a1_1 a1_2 a1_3 a1_4 a1_3 a1_4 c0 = some (r1, r2, r3)) ∧ Aside0 (kq ≤ k) ∧ Aside0 (Kd.R k36 36 w' w.heap.size (fun _ => True) u105002 c0) ∧ Aside0 (w'.heap[c9]? = some (.cells #[.int .i64 a0_0, .int .i64 a0_1, (.slice A0_2 l0_2.length c0_2)] 25 (0, 0))) ∧ Aside0 (w'.heap[c4]? = some (.cells #[.int .i64 a1_0, .int .i64 a1_1, .int .i64 a1_2, .int .i64 a1_3, .int .i64 a1_4] 27 (0, 0))) ∧ Aside0 (w'.heap[c8]? = some (.cells #[.int .i64 0, .int .i64 0, (.slice none 0 0)] 25 (0, 0))) ∧ Aside0 (w'.heap[c5]? = some (.cells #[.int .i64 a1_3, .int .i64 a1_4, u105002] 25 (0, 0))) ∧ Aside0 (Below w.heap.size w w'))
 case atStart => exact ⟨(0), (([] : List (S36))), (.slice none 0 0), (by first | rfl | (simp; done) | (simp [*]; done)), H', ⟨Nat.le_refl _⟩, ⟨by first | exact Kd.R_nil _ _ _ _ _ | exact Kd.N_nil _ _ _ _ _ | exact Kd.V_nil _ _ _ _ _ | exact Kd.Q_nil _ _ _ _ _ | exact Kd.S_nil _ _ _ _ _⟩, ⟨by repeat (with_reducible first | exact b0.out | refine oneB ?_ | refine blk_far ?_ b7.out _)⟩, ⟨by repeat (with_reducible first | exact a8.out | refine oneB ?_ | refine blk_far ?_ b2.out _)⟩, ⟨by repeat (with_reducible first | exact b4.out | refine oneB ?_ | refine blk_far ?_ b9.out _)⟩, ⟨by (repeat refine oneB ?_); refine blk_put (cs := #[.int .i64 a1_3, .int .i64 a1_4, .slice none 0 0]) ?_ 2 _ rfl; refine blk_put (cs := #[.int .i64 a1_3, .int .i64 0, .slice none 0 0]) ?_ 1 _ rfl; refine blk_put (cs := #[.int .i64 0, .int .i64 0, .slice none 0 0]) ?_ 0 _ rfl; exact upB b1.out⟩, ⟨by repeat (with_reducible first | exact HB.out | apply yae | apply yac | apply yad | refine below_set ?_ (Aside0.out ‹_›))⟩⟩
 case round =>
  clear H'; (try clear c1); (try clear p2); (try clear c6); (try clear c7); (try clear c10); (try clear c11); (try clear c12); (try clear e3); (try clear e4); (try clear e5); (try clear f4); (try clear f5); (try clear f6); (try clear f7); (try clear f8); (try clear e6); (try clear e7); (try clear e8); (try clear f9); (try clear g0); (try clear g1); (try clear g2); (try clear g3); obtain ⟨d2, c0, u105002, rfl, HA, HK1, a9, b0, a8, b4, b1, HB⟩ := hrel
  cases gk with
  | zero => exact absurd HA.out (by simp [spec_l6Crop.l0])
  | succ k1 =>
   have H := HA.out; clear HA
   simp only [spec_l6Crop.l0] at H
   by_cases c14 : d2 < a1_4
   rotate_left
   ·
    rw [if_neg c14] at H
    have h5 : decide (d2 < a1_4) = false := decide_eq_false c14; clear c14
    simp only [Option.some.injEq, Prod.mk.injEq] at H
    obtain ⟨rfl, rfl, rfl⟩ := H; have r7 := c2.out; have r8 := b5.out; have r9 := b6.out; have s0 := c3.out; have s1 := b2.out; have s2 := b8.out; obtain ⟨l9, m0, m1, m2, m3⟩ := cc5_ a8.out; obtain ⟨m4, m5, m6, m7, m8⟩ := cf5_ a8.out; have s3 := d0.out; have s4 := b7.out; have s5 := d1.out; have s6 := b9.out; obtain ⟨m9, n0, n1⟩ := cc3_ b1.out; obtain ⟨n2, n3, n4⟩ := cf3_ b1.out; have s7 := e9.out; have s8 := e2.out; obtain ⟨n5, n6, n7⟩ := cc3_ b4.out; obtain ⟨n8, n9, o0⟩ := cf3_ b4.out; obtain ⟨i7, i8, o3⟩ := Kd.R_slice a9.out; subst o3
    go_wp2
    refine bodyPost_ret (results_cell_row rfl _ _ c8 25 #[.int .i64 a1_3, .int .i64 a1_4, .slice i7 c0.length i8] (0, 0) _ rfl (by (repeat refine oneB ?_); refine blk_put (cs := #[.int .i64 a1_3, .int .i64 a1_4, .slice none 0 0]) ?_ 2 _ rfl; refine blk_put (cs := #[.int .i64 a1_3, .int .i64 0, .slice none 0 0]) ?_ 1 _ rfl; refine blk_put (cs := #[.int .i64 0, .int .i64 0, .slice none 0 0]) ?_ 0 _ rfl; exact upB b4.out) Try.underlying25 rfl (by kernel_rfl)) rfl ?_
    exact ⟨_, by first | rfl | (simp [*, errW_none, errW_some] <;> rfl), by (with_reducible repeat (first | apply Kd.R_alloc | apply Kd.R_drewN | apply Kd.R_drew)); exact Kd.R_mono (Kd.R_far (p := ⟨c8, 2, none⟩) (Kd.R_far (p := ⟨c8, 1, none⟩) (Kd.R_far (p := ⟨c8, 0, none⟩) (Kd.R_types a9.out b4.out (by decide)) (fun _ hk => hk.2) (.int .i64 a1_3)) (fun _ hk => hk.2) (.int .i64 a1_4)) (fun _ hk => hk.2) (.slice i7 c0.length i8)) (fun _ hk => trivial), by repeat (with_reducible first | exact HB.out | apply yae | apply yac | apply yad | refine below_set ?_ (Aside0.out ‹_›))⟩
   rw [if_pos c14] at H
   have h5 : decide (d2 < a1_4) = true := decide_eq_true c14; clear c14; have H' := yaa H; clear H; have p5 := c2.out; have p6 := b5.out; have p7 := b6.out; have p8 := c3.out; have p9 := b2.out; have q0 := b8.out; obtain ⟨g5, g6, g7, g8, g9⟩ := cc5_ a8.out; obtain ⟨h0, h1, h2, h3, h4⟩ := cf5_ a8.out
   go_wp2
   (try simp only [Act.put, List.setIfInBounds_toArray, List.set_cons_zero, List.set_cons_succ])
   go_loopg [7] k1 (fun kq v7 w' => ∃ (e1 : Int) (b3 : List (S36)) (u105002 : Value), v7 = .int .i64 e1 ∧ Aside0 (spec_l6Crop.l1 kq d2 e1 a0_0 a0_1 l0_2 a1_0 a1_1 a1_2 a1_3 a1_4 a1_3 a1_4 b3 = some (r1, r2, r3)) ∧ Aside0 (kq ≤ k1) ∧ Aside0 (Kd.R k36 36 w' w.heap.size (fun _ => True) u105002 b3) ∧ Aside0 (w'.heap[c9]? = some (.cells #[.int .i64 a0_0, .int .i64 a0_1, (.slice A0_2 l0_2.length c0_2)] 25 (0, 0))) ∧ Aside0 (w'.heap[c4]? = some (.cells #[.int .i64 a1_0, .int .i64 a1_1, .int .i64 a1_2, .int .i64 a1_3, .int .i64 a1_4] 27 (0, 0))) ∧ Aside0 (w'.heap[c8]? = some (.cells #[.int .i64 0, .int .i64 0, (.slice none 0 0)] 25 (0, 0))) ∧ Aside0 (w'.heap[c5]? = some (.cells #[.int .i64 a1_3, .int .i64 a1_4, u105002] 25 (0, 0))) ∧ Aside0 (Below w.heap.size w w'))
   case atStart => exact ⟨(0), (c0), (u105002), (by first | rfl | (simp; done) | (simp [*]; done)), H', ⟨Nat.le_refl _⟩, ⟨by first | exact a9.out | exact upR a9.out⟩, ⟨by exact upB b0.out⟩, ⟨by exact upB a8.out⟩, ⟨by exact upB b4.out⟩, ⟨by exact upB b1.out⟩, ⟨by repeat (with_reducible first | exact HB.out | apply yae | apply yac | apply yad | refine below_set ?_ (Aside0.out ‹_›))⟩⟩
   case round =>
    clear H'; (try clear c1); (try clear p2); (try clear c6); (try clear c7); (try clear c10); (try clear c11); (try clear c12); (try clear c14); (try clear h5); (try clear c15); (try clear c16); (try clear c17); (try clear e3); (try clear e4); (try clear e5); (try clear g5); (try clear g6); (try clear g7); (try clear g8); (try clear g9); (try clear f4); (try clear f5); (try clear f6); (try clear f7); (try clear f8); (try clear e6); (try clear e7); (try clear e8); (try clear h0); (try clear h1); (try clear h2); (try clear h3); (try clear h4); (try clear f9); (try clear g0); (try clear g1); (try clear g2); (try clear g3); (try clear p2); obtain ⟨e1, b3, u105002, rfl, HA, HK2, a9, b0, a8, b4, b1, HB⟩ := hrel
    cases gk with
    | zero => exact absurd HA.out (by simp [spec_l6Crop.l1])
    | succ k2 =>
     have H := HA.out; clear HA
     simp only [spec_l6Crop.l1] at H
     by_cases c19 : e1 < a1_3
     rotate_left
     ·
      rw [if_neg c19] at H
      have i3 : decide (e1 < a1_3) = false := decide_eq_false c19; clear c19; have H' := yaa H; clear H; have q8 := c2.out; have q9 := b5.out; have r0 := b6.out; have r4 := c3.out; have r5 := b2.out; have r6 := b8.out; obtain ⟨k7, k8, k9, l2, l3⟩ := cc5_ a8.out; obtain ⟨l4, l5, l6, l7, l8⟩ := cf5_ a8.out
      go_wp2
      go_roundg k2
      case measure => have := HK1.out; have := HK2.out; omega
      case rel => exact ⟨(wrap64 (d2 + 1)), (b3), (u105002), (by first | rfl | (simp; done) | (simp [*]; done)), H', ⟨by have := HK1.out; have := HK2.out; omega⟩, ⟨by first | exact a9.out | exact upR a9.out⟩, ⟨by exact upB b0.out⟩, ⟨by exact upB a8.out⟩, ⟨by exact upB b4.out⟩, ⟨by exact upB b1.out⟩, ⟨by repeat (with_reducible first | exact HB.out | apply yae | apply yac | apply yad | refine below_set ?_ (Aside0.out ‹_›))⟩⟩
     rw [if_pos c19] at H
     have i3 : decide (e1 < a1_3) = true := decide_eq_true c19; clear c19; obtain ⟨ji20, hji20⟩ : ∃ j_ : Int, (wrap64 ((wrap64 ((wrap64 ((wrap64 (a1_2 + d2)) * a0_0)) + a1_1)) + e1)) = j_ := ⟨_, rfl⟩
     replace H : (if 0 ≤ (ji20) then (if (ji20) < (l0_2.length : Int) then (if b3.length < 4398046511104 then (spec_l6Crop.l1 k2 d2 (wrap64 (e1 + 1)) a0_0 a0_1 l0_2 a1_0 a1_1 a1_2 a1_3 a1_4 a1_3 a1_4 (b3 ++ [(⟨(rd_T36 l0_2 (ji20)).f0, (rd_T36 l0_2 (ji20)).f1, (rd_T36 l0_2 (ji20)).f2, (rd_T36 l0_2 (ji20)).f3⟩ : S36)])) else (none)) else (none)) else (none)) = some (r1, r2, r3) := by first | (rw [hji20] at H; exact H) | (simp only [hji20] at H ⊢; exact H)
     have hji20w : (IntKind.i64.wrap ((wrap64 ((wrap64 ((wrap64 (a1_2 + d2)) * a0_0)) + a1_1)) + e1)) = ji20 := (i64_w _).trans hji20
     by_cases c21 : 0 ≤ (ji20)
     rotate_left
     ·
      rw [if_neg c21] at H
      exact absurd H (by simp)
     rw [if_pos c21] at H
     replace c21 := decide_eq_true c21
     by_cases c22 : (ji20) < (l0_2.length : Int)
     rotate_left
     ·
      rw [if_neg c22] at H
      exact absurd H (by simp)
     rw [if_pos c22] at H
     replace c22 := decide_eq_true c22
     by_cases c23 : b3.length < 4398046511104
     rotate_left
     ·
      rw [if_neg c23] at H
      exact absurd H (by simp)
     rw [if_pos c23] at H
     have LMc23 := yaa c23; clear c23; obtain ⟨y106, hy106⟩ : ∃ y_ : List (S36), y_ = (b3 ++ [(⟨(rd_T36 l0_2 (ji20)).f0, (rd_T36 l0_2 (ji20)).f1, (rd_T36 l0_2 (ji20)).f2, (rd_T36 l0_2 (ji20)).f3⟩ : S36)]) := ⟨_, rfl⟩
     replace H : (spec_l6Crop.l1 k2 d2 (wrap64 (e1 + 1)) a0_0 a0_1 l0_2 a1_0 a1_1 a1_2 a1_3 a1_4 a1_3 a1_4 y106) = some (r1, r2, r3) := by first | (rw [hy106]; with_reducible exact H) | (have H2_ := (Option.bind_some _ _).symm.trans H; rw [hy106]; with_reducible exact H2_) | (have H2_ := (Option.bind_some _ _).symm.trans H; with_reducible exact H2_) | with_reducible exact H | (rw [hy106]; exact H) | exact H
     have Ny106 := yaa hy106; clear hy106; have H' := yaa H; clear H; have q1 := c2.out; have q2 := b5.out; have q3 := b6.out; have q4 := c3.out; have q5 := b2.out; have q6 := b8.out; obtain ⟨i9, j0, j1, j2, j3⟩ := cc5_ a8.out; obtain ⟨j4, j5, j6, j7, j8⟩ := cf5_ a8.out
     try go_wp2
     replace a9 := yaa (Kd.R_drew a9.out); replace b0 := yaa (blk_drew b0.out); replace a8 := yaa (blk_drew a8.out); replace b4 := yaa (blk_drew b4.out); replace b1 := yaa (blk_drew b1.out); replace HB := yaa (yad HB.out); have p105 : 0 ≤ ((ji20) : Int) := of_decide_eq_true (by assumption); have q105 : (ji20) < (l0_2.length : Int) := of_decide_eq_true (by assumption); obtain ⟨ad105, o1, d3, d4, d5, d6⟩ := at_T36 HR0_2.out (ji20) p105 q105; have d7 := d6; have d8 := d5; have d9 := d4; have e0 := d3
     cases o1
     replace d3 := (upc_ HB.out d3 :); replace d4 := (upc_ HB.out d4 :); replace d5 := (upc_ HB.out d5 :); replace d6 := (upc_ HB.out d6 :); replace p105 := eq_true p105; replace q105 := eq_true q105
     refine start_ (n := 22) (S := fun w' => w'.cell? ⟨c5, 0, none⟩ = some (.int .i64 a1_3) ∧ w'.cell? ⟨c5, 1, none⟩ = some (.int .i64 a1_4) ∧ w'.cell? ⟨c5, 2, none⟩ = some (u105002) ∧ w'.cell? ⟨c9, 0, none⟩ = some (.int .i64 a0_0) ∧ w'.cell? ⟨c9, 1, none⟩ = some (.int .i64 a0_1) ∧ w'.cell? ⟨c9, 2, none⟩ = some (.slice (some ad105) l0_2.length c0_2) ∧ w'.cell? ⟨c4, 0, none⟩ = some (.int .i64 a1_0) ∧ w'.cell? ⟨c4, 1, none⟩ = some (.int .i64 a1_1) ∧ w'.cell? ⟨c4, 2, none⟩ = some (.int .i64 a1_2) ∧ w'.cell? ⟨c4, 3, none⟩ = some (.int .i64 a1_3) ∧ w'.cell? ⟨c4, 4, none⟩ = some (.int .i64 a1_4) ∧ w'.cell? (ad105.add (((ji20)).toNat * 4)) = some (.int .i64 ((rd_T36 l0_2 (ji20)).f0)) ∧ w'.cell? ⟨(ad105.add (((ji20)).toNat * 4)).block, (ad105.add (((ji20)).toNat * 4)).off + 1, none⟩ = some (.int .i64 ((rd_T36 l0_2 (ji20)).f1)) ∧ w'.cell? ⟨(ad105.add (((ji20)).toNat * 4)).block, (ad105.add (((ji20)).toNat * 4)).off + 2, none⟩ = some (.int .i64 ((rd_T36 l0_2 (ji20)).f2)) ∧ w'.cell? ⟨(ad105.add (((ji20)).toNat * 4)).block, (ad105.add (((ji20)).toNat * 4)).off + 3, none⟩ = some (.int .i64 ((rd_T36 l0_2 (ji20)).f3))) (ds := [21]) q73_0 (by kernel_rfl) rfl rfl ⟨(yab b1.out 0).trans rfl, (yab b1.out 1).trans rfl, (yab b1.out 2).trans rfl, (yab b0.out 0).trans rfl, (yab b0.out 1).trans rfl, (yab b0.out 2).trans rfl, (yab a8.out 0).trans rfl, (yab a8.out 1).trans rfl, (yab a8.out 2).trans rfl, (yab a8.out 3).trans rfl, (yab a8.out 4).trans rfl, (upc_ HB.out e0 :), (upc_ HB.out d9 :), (upc_ HB.out d8 :), (upc_ HB.out d7 :)⟩ (fun hHeld => ?_); refine with_tabW spec_l6Crop.tab8 spec_l6Crop.bits8 (fun HT_ HW_ => ?_)
     generalize wr.drew = w28 at a9 b0 a8 b4 b1 HB d3 d4 d5 d6 hHeld ⊢
     refine pz_ 0 25 q73_1 HT_ (by kernel_rfl) ?_
     refine pz_ 2 27 q73_2 HT_ (by kernel_rfl) ?_
     refine pz_ 4 29 q73_3 HT_ (by kernel_rfl) ?_
     refine pz_ 6 31 q73_4 HT_ (by kernel_rfl) ?_
     refine pz_ 8 33 q73_5 HT_ (by kernel_rfl) ?_
     refine pz_ 11 36 q73_6 HT_ (by kernel_rfl) ?_
     refine pz_ 14 39 q73_7 HT_ (by kernel_rfl) ?_
     refine tz_ 1 26 q73_8 HT_ HW_ (by kernel_rfl) hHeld ?_
     refine tz_ 3 28 q73_9 HT_ HW_ (by kernel_rfl) hHeld ?_
     refine tz_ 5 30 q73_10 HT_ HW_ (by kernel_rfl) hHeld ?_
     refine pz_ 7 32 q73_11 HT_ (by kernel_rfl) ?_
     refine tz_ 9 34 q73_12 HT_ HW_ (by kernel_rfl) hHeld ?_
     refine pz_ 10 35 q73_13 HT_ (by kernel_rfl) ?_
     refine tz_ 12 37 q73_14 HT_ HW_ (by kernel_rfl) hHeld ?_
     refine pz_ 13 38 q73_15 HT_ (by kernel_rfl) ?_
     refine pz_ 15 40 q73_16 HT_ (by kernel_rfl) ?_
     refine pz_ 16 41 q73_17 HT_ (by kernel_rfl) ?_
     refine tz_ 17 42 q73_18 HT_ HW_ (by kernel_rfl) hHeld ?_
     refine one_ (i := 18) (N := some 43) q73_19 rfl rfl (one_of HT_.out (by kernel_rfl)) (by decide) (fun K hK => ?_)
     refine value_ (w1 := ?_) (v := ?_) (by rfl) rfl ?_ ?_
     rotate_left 2
     ·
      go_simp
      constructor
      ·
       rfl
      ·
       rfl
     refine hK.out _ _ ⟨(yab (blk_alloc b1.out _) 0).trans rfl, (yab (blk_alloc b1.out _) 1).trans rfl, (yab (blk_alloc b1.out _) 2).trans rfl, (yab (blk_alloc b0.out _) 0).trans rfl, (yab (blk_alloc b0.out _) 1).trans rfl, (yab (blk_alloc b0.out _) 2).trans rfl, (yab (blk_alloc a8.out _) 0).trans rfl, (yab (blk_alloc a8.out _) 1).trans rfl, (yab (blk_alloc a8.out _) 2).trans rfl, (yab (blk_alloc a8.out _) 3).trans rfl, (yab (blk_alloc a8.out _) 4).trans rfl, (World.cell?_alloc_lt _ _ _ (World.block_lt_of_cell? _ _ ((upc_ HB.out e0 :)))).trans ((upc_ HB.out e0 :)), (World.cell?_alloc_lt _ _ _ (World.block_lt_of_cell? _ _ ((upc_ HB.out d9 :)))).trans ((upc_ HB.out d9 :)), (World.cell?_alloc_lt _ _ _ (World.block_lt_of_cell? _ _ ((upc_ HB.out d8 :)))).trans ((upc_ HB.out d8 :)), (World.cell?_alloc_lt _ _ _ (World.block_lt_of_cell? _ _ ((upc_ HB.out d7 :)))).trans ((upc_ HB.out d7 :))⟩ (fun hHeld => ?_)
     clear hK K
     refine norm_ (a' := ?_) ?_ ?_
     rotate_left
     ·
      show Act.put _ (some 43) _ = _
      simp only [Act.put, List.setIfInBounds_toArray, List.set_cons_zero, List.set_cons_succ, i64_w, i32_w]
      rfl
     refine one_ (i := 19) (N := some 44) q73_20 rfl rfl (one_of HT_.out (by kernel_rfl)) (by decide) (fun K hK => ?_)
     refine Kd.R_append_step k36 (w0 := w) w.heap.size (by rfl) (.tmp 26) (.tmp 43) 23 36 (.agg #[(.int .i64 0), (.int .i64 0), (.int .i64 0), (.int .i64 0)]) 32 rfl Try.underlying23 info36 rfl (by decide) (by omega) u105002 b3 (⟨(rd_T36 l0_2 (ji20)).f0, (rd_T36 l0_2 (ji20)).f1, (rd_T36 l0_2 (ji20)).f2, (rd_T36 l0_2 (ji20)).f3⟩ : S36) [.int .i64 ((rd_T36 l0_2 (ji20)).f0), .int .i64 ((rd_T36 l0_2 (ji20)).f1), .int .i64 ((rd_T36 l0_2 (ji20)).f2), .int .i64 ((rd_T36 l0_2 (ji20)).f3)] (fun _ => True) (fun _ => False) rfl rfl ?aP (fun _ hk => hk.elim) ?aF ?aO ?aB ?aS ?aL ?_
     (case aP => exact k36_mkM _ _ _ (⟨(rd_T36 l0_2 (ji20)).f0, (rd_T36 l0_2 (ji20)).f1, (rd_T36 l0_2 (ji20)).f2, (rd_T36 l0_2 (ji20)).f3⟩ : S36))
     (case aB => exact (by repeat (with_reducible first | exact HB.out | apply yae | apply yac | apply yad | refine below_set ?_ (Aside0.out ‹_›))))
     (case aF => exact (fun _ _ => trivial))
     (case aO => exact (upR a9.out))
     (case aS => exact (below_size (by repeat (with_reducible first | exact HB.out | apply yae | apply yac | apply yad | refine below_set ?_ (Aside0.out ‹_›)))))
     (case aL => have := LMc23.out; omega)
     intro t5 w29 ho hb hg hat
     rw [← Ny106.out] at ho
     replace b0 := yaa (blk_grown (upB b0.out) hg (Kd.R_ne a9.out b0.out (by decide))); replace a8 := yaa (blk_grown (upB a8.out) hg (Kd.R_ne a9.out a8.out (by decide))); replace b4 := yaa (blk_grown (upB b4.out) hg (Kd.R_ne a9.out b4.out (by decide))); replace b1 := yaa (blk_grown (upB b1.out) hg (Kd.R_ne a9.out b1.out (by decide))); replace HB := yaa (hb); have h6 := yaa (ho); clear a9; clear ho hb hg hat; obtain ⟨i4, i5, i6⟩ := Kd.R_slice h6.out
     (first | subst i6 | (injection i6 with f1_ f2_ f3_; have f4_ := f1_.symm; have f5_ := f3_.symm; clear f1_ f2_ f3_; subst f4_; subst f5_))
     refine hK.out _ _ ⟨(yab b1.out 0).trans rfl, (yab b1.out 1).trans rfl, (yab b1.out 2).trans rfl, (yab b0.out 0).trans rfl, (yab b0.out 1).trans rfl, (yab b0.out 2).trans rfl, (yab a8.out 0).trans rfl, (yab a8.out 1).trans rfl, (yab a8.out 2).trans rfl, (yab a8.out 3).trans rfl, (yab a8.out 4).trans rfl, (upc_ HB.out e0 :), (upc_ HB.out d9 :), (upc_ HB.out d8 :), (upc_ HB.out d7 :)⟩ (fun hHeld => ?_)
     clear hK K
     refine norm_ (a' := ?_) ?_ ?_
     rotate_left
     ·
      show Act.put _ (some 44) _ = _
      simp only [Act.put, List.setIfInBounds_toArray, List.set_cons_zero, List.set_cons_succ, i64_w, i32_w]
      rfl
     refine pz_ 20 45 q73_21 HT_ (by kernel_rfl) ?_
     refine last_ (i := 21) (N := none) q73_22 rfl rfl (one_of HT_.out (by kernel_rfl)) (by decide) (fun K hK => ?_)
     have t6 : w29.cell? ⟨c5, 2, none⟩ = some (u105002) := (yab b1.out 2).trans rfl; have q7 := blk_frozen b1.out 2; have j9 := b7.out; have k0 := b2.out; have k3 := b9.out; have k4 := d0.out; have k5 := b8.out; have k6 := d1.out
     refine skip_ (w1 := ?_) (by rfl) rfl ?_ ?_
     rotate_left
     ·
      go_simp
      rfl
     refine hK.out _ _ ?_
     clear hK K
     refine done_ (done_of HT_.out (by kernel_rfl)) ?_
     try go_wp2
     go_roundg k2
     case measure => have := HK1.out; have := HK2.out; omega
     case rel => exact ⟨(wrap64 (e1 + 1)), (y106), (.slice i4 y106.length i5), (by first | rfl | (simp; done) | (simp [*]; done)), H', ⟨by have := HK1.out; have := HK2.out; omega⟩, ⟨by (with_reducible repeat (first | apply Kd.R_alloc | apply Kd.R_drewN | apply Kd.R_drew)); exact Kd.R_mono (Kd.R_far (p := ⟨c5, 2, none⟩) (Kd.R_types h6.out b1.out (by decide)) (fun _ hk => hk.2) (.slice i4 y106.length i5)) (fun _ hk => trivial)⟩, ⟨by repeat (with_reducible first | exact b0.out | refine oneB ?_ | refine blk_far ?_ b7.out _)⟩, ⟨by repeat (with_reducible first | exact a8.out | refine oneB ?_ | refine blk_far ?_ b2.out _)⟩, ⟨by repeat (with_reducible first | exact b4.out | refine oneB ?_ | refine blk_far ?_ b9.out _)⟩, ⟨by (repeat refine oneB ?_); refine blk_put (cs := #[.int .i64 a1_3, .int .i64 a1_4, u105002]) ?_ 2 _ rfl; exact upB b1.out⟩, ⟨by repeat (with_reducible first | exact HB.out | apply yae | apply yac | apply yad | refine below_set ?_ (Aside0.out ‹_›))⟩⟩
end
section
open Go.Proofs.YtoifpgkfpdeglaaW.PrintWords.Aside0 renaming mk → yaa
open Go.Proofs.YtoifpgkfpdeglaaW.PrintWords renaming pw_below_drewN → yab
abbrev q74_0 : Array Bool := Array.replicate 16 false
abbrev q74_1 : Array Bool := bl_ 16 1
abbrev q74_2 : Array Bool := bl_ 16 5
abbrev q74_3 : Array Bool := bl_ 16 21
abbrev q74_4 : Array Bool := bl_ 16 53
abbrev q74_5 : Array Bool := bl_ 16 309
abbrev q74_6 : Array Bool := bl_ 16 311
abbrev q74_7 : Array Bool := bl_ 16 319
abbrev q74_8 : Array Bool := bl_ 16 383
abbrev q74_9 : Array Bool := bl_ 16 511
abbrev q74_10 : Array Bool := bl_ 16 1023
abbrev q74_11 : Array Bool := bl_ 16 2047
abbrev q74_12 : Array Bool := bl_ 16 4095
abbrev q74_13 : Array Bool := bl_ 16 8191
abbrev q74_14 : Array Bool := bl_ 16 16383
abbrev q74_15 : Array Bool := bl_ 16 32767
abbrev q74_16 : Array Bool := bl_ 16 65535
mutual
def spec_l6FlipX.l0 : Nat → Int → Int → Int → List (S36) → Int → Int → List (S36) → Option (Int × Int × (List (S36)))
 | 0, _, _, _, _, _, _, _ => none
 | k + 1, x4, x102000, x102001, x102002, x104000, x104001, x104002 => if x4 < x102001 then (spec_l6FlipX.l1 k x4 (wrap64 (x102000 - 1)) x102000 x102001 x102002 x104000 x104001 x104002) else (some (x104000, x104001, x104002))
def spec_l6FlipX.l1 : Nat → Int → Int → Int → Int → List (S36) → Int → Int → List (S36) → Option (Int × Int × (List (S36)))
 | 0, _, _, _, _, _, _, _, _ => none
 | k + 1, x4, x5, x102000, x102001, x102002, x104000, x104001, x104002 => if x5 ≥ 0 then (if 0 ≤ (wrap64 ((wrap64 (x4 * x102000)) + x5)) then (if (wrap64 ((wrap64 (x4 * x102000)) + x5)) < (x102002.length : Int) then (if x104002.length < 4398046511104 then (spec_l6FlipX.l1 k x4 (wrap64 (x5 - 1)) x102000 x102001 x102002 x104000 x104001 (x104002 ++ [(⟨(rd_T36 x102002 (wrap64 ((wrap64 (x4 * x102000)) + x5))).f0, (rd_T36 x102002 (wrap64 ((wrap64 (x4 * x102000)) + x5))).f1, (rd_T36 x102002 (wrap64 ((wrap64 (x4 * x102000)) + x5))).f2, (rd_T36 x102002 (wrap64 ((wrap64 (x4 * x102000)) + x5))).f3⟩ : S36)])) else (none)) else (none)) else (none)) else (spec_l6FlipX.l0 k (wrap64 (x4 + 1)) x102000 x102001 x102002 x104000 x104001 x104002)
end
def spec_l6FlipX.f (k : Nat) (a0_0 : Int) (a0_1 : Int) (l0_2 : List (S36)) : Option (Int × Int × (List (S36))) := spec_l6FlipX.l0 k 0 a0_0 a0_1 l0_2 a0_0 a0_1 ([] : List (S36))
def spec_l6FlipX.T8 : Bool × List (List Nat × List Nat) := (true, [([], []), ([0], [0]), ([], []), ([2], [2]), ([], []), ([], []), ([5], [5]), ([4, 6], [4, 6]), ([], []), ([7, 8], [7, 8]), ([3, 9], [3, 9]), ([10], [10]), ([11], [11]), ([1, 12], [1, 12]), ([0, 1, 2, 3, 4, 5, 6, 7, 8, 9, 10, 11, 12, 13], []), ([14, 13, 13, 0, 1, 2, 3, 4, 5, 6, 7, 8, 9, 10, 11, 12, 13], [13, 14])])
def spec_l6FlipX.B8 : List Nat := [0, 1, 0, 4, 0, 0, 32, 112, 0, 496, 1020, 2044, 4092, 8191, 16383, 32767]
theorem spec_l6FlipX.tab8 : rtab .any (opsOf Try.f74 8) = spec_l6FlipX.T8 := by kernel_rfl
theorem spec_l6FlipX.bits8 : waitsOk spec_l6FlipX.T8.2 spec_l6FlipX.B8 = true := by kernel_rfl
set_option maxHeartbeats 8000000 in
set_option maxRecDepth 100000 in
theorem spec_l6FlipX.calls (k : Nat) (a0_0 : Int) (a0_1 : Int) (A0_2 : Option Addr) (c0_2 : Nat) (l0_2 : List (S36)) (r1 : Int) (r2 : Int) (r3 : List (S36)) (w : World) (hr0_2 : Kd.C k36 w A0_2 l0_2.length l0_2) (hc0_2 : l0_2.length ≤ c0_2) (h : spec_l6FlipX.f k a0_0 a0_1 l0_2 = some (r1, r2, r3)) :
  Calls Try.prog 74 #[.agg #[.int .i64 a0_0, .int .i64 a0_1, .slice A0_2 l0_2.length c0_2]] w fun e w' => ∃ v2_ : Value, e = .returned (.agg #[.int .i64 r1, .int .i64 r2, v2_]) ∧ Kd.R k36 36 w' w.heap.size (fun _ => True) v2_ r3 ∧ Below w.heap.size w w' := by
 have hu25 := Try.underlying25; have hu36 := Try.underlying36; have HR0_2 := yaa hr0_2; have HC0_2 := yaa hc0_2; clear hr0_2 hc0_2; have HB := yaa (Below.refl w.heap.size w); have H : (spec_l6FlipX.l0 k 0 a0_0 a0_1 l0_2 a0_0 a0_1 ([] : List (S36))) = some (r1, r2, r3) := h; clear h; have H' := yaa H; clear H
 go_enter Try.func74, Try.ntmps74
 go_wp2_with (first | ((with_reducible refine gd_ 1 rfl ?_); refine bx_ 1 rfl #[.int .i64 a0_0, .int .i64 a0_1, .slice A0_2 l0_2.length c0_2] 25 ?_; intro b7 hg w2 hbox hb; have a4 := yaa (hbox); have f8 := yaa ((by rw [hg]; exact (below_size (upH HB.out)) : w.heap.size ≤ b7)); replace HB := yaa (below_step (upH HB.out) hb); have j2 := f8; clear hb hbox hg) | ((with_reducible refine gd_ 2 rfl ?_); refine bx_ 2 rfl #[.int .i64 0, .int .i64 0, .slice none 0 0] 25 ?_; intro b4 hg w3 hbox hb; have a7 := yaa (hbox); have f9 := yaa ((by rw [hg]; exact (below_size (by repeat (with_reducible first | exact HB.out | apply below_alloc | apply yab | apply below_drew1 | refine below_set ?_ (Aside0.out ‹_›)))) : w.heap.size ≤ b4)); replace HB := yaa (below_step (by repeat (with_reducible first | exact HB.out | apply below_alloc | apply yab | apply below_drew1 | refine below_set ?_ (Aside0.out ‹_›))) hb); have j3 := f9; have b1 := yaa ((by rw [hg]; exact Nat.ne_of_lt (blk_lt (upB a4.out)) : b7 ≠ b4)); replace a4 := yaa (blk_below (upB a4.out) hb); have b5 := yaa b1.out.symm; clear hb hbox hg; have k8 := b1.out; have k9 := b5.out; obtain ⟨d2, d3, d4⟩ := cc3_ a4.out; obtain ⟨d6, d7⟩ := cf2_ a4.out; have d8 := blk_frozen a4.out 2) | ((with_reducible refine gd_ 3 rfl ?_); refine bx_ 3 rfl #[.int .i64 0, .int .i64 0, .slice none 0 0] 25 ?_; intro b3 hg w6 hbox hb; have a5 := yaa (hbox); have g0 := yaa ((by rw [hg]; exact (below_size (by repeat (with_reducible first | exact HB.out | apply below_alloc | apply yab | apply below_drew1 | refine below_set ?_ (Aside0.out ‹_›)))) : w.heap.size ≤ b3)); replace HB := yaa (below_step (by repeat (with_reducible first | exact HB.out | apply below_alloc | apply yab | apply below_drew1 | refine below_set ?_ (Aside0.out ‹_›))) hb); have j4 := g0; have a8 := yaa ((by rw [hg]; exact Nat.ne_of_lt (blk_lt (upB a4.out)) : b7 ≠ b3)); replace a4 := yaa (blk_below (upB a4.out) hb); have b2 := yaa a8.out.symm; have a9 := yaa ((by rw [hg]; exact Nat.ne_of_lt (blk_lt (upB a7.out)) : b4 ≠ b3)); replace a7 := yaa (blk_below (upB a7.out) hb); have b6 := yaa a9.out.symm; clear hb hbox hg; have l2 := b2.out; have l3 := a8.out; have l4 := b6.out; have l5 := a9.out; obtain ⟨d9, e0, e1⟩ := cc3_ a5.out; obtain ⟨e2, e3⟩ := cf2_ a5.out; have e4 := blk_frozen a5.out 2))
 (try simp only [Act.put, List.setIfInBounds_toArray, List.set_cons_zero, List.set_cons_succ])
 go_loopg [4] k (fun kq v4 w' => ∃ (b8 : Int) (b0 : List (S36)) (u104002 : Value), v4 = .int .i64 b8 ∧ Aside0 (spec_l6FlipX.l0 kq b8 a0_0 a0_1 l0_2 a0_0 a0_1 b0 = some (r1, r2, r3)) ∧ Aside0 (kq ≤ k) ∧ Aside0 (Kd.R k36 36 w' w.heap.size (fun _ => True) u104002 b0) ∧ Aside0 (w'.heap[b7]? = some (.cells #[.int .i64 a0_0, .int .i64 a0_1, (.slice A0_2 l0_2.length c0_2)] 25 (0, 0))) ∧ Aside0 (w'.heap[b4]? = some (.cells #[.int .i64 0, .int .i64 0, (.slice none 0 0)] 25 (0, 0))) ∧ Aside0 (w'.heap[b3]? = some (.cells #[.int .i64 a0_0, .int .i64 a0_1, u104002] 25 (0, 0))) ∧ Aside0 (Below w.heap.size w w'))
 case atStart => exact ⟨(0), (([] : List (S36))), (.slice none 0 0), (by first | rfl | (simp; done) | (simp [*]; done)), H', ⟨Nat.le_refl _⟩, ⟨by first | exact Kd.R_nil _ _ _ _ _ | exact Kd.N_nil _ _ _ _ _ | exact Kd.V_nil _ _ _ _ _ | exact Kd.Q_nil _ _ _ _ _ | exact Kd.S_nil _ _ _ _ _⟩, ⟨by repeat (with_reducible first | exact a4.out | refine oneB ?_ | refine blk_far ?_ a8.out _)⟩, ⟨by repeat (with_reducible first | exact a7.out | refine oneB ?_ | refine blk_far ?_ a9.out _)⟩, ⟨by (repeat refine oneB ?_); refine blk_put (cs := #[.int .i64 a0_0, .int .i64 a0_1, .slice none 0 0]) ?_ 2 _ rfl; refine blk_put (cs := #[.int .i64 a0_0, .int .i64 0, .slice none 0 0]) ?_ 1 _ rfl; refine blk_put (cs := #[.int .i64 0, .int .i64 0, .slice none 0 0]) ?_ 0 _ rfl; exact upB a5.out⟩, ⟨by repeat (with_reducible first | exact HB.out | apply below_alloc | apply yab | apply below_drew1 | refine below_set ?_ (Aside0.out ‹_›))⟩⟩
 case round =>
  clear H'; (try clear p2); (try clear c4); (try clear c7); (try clear c8); (try clear d2); (try clear d3); (try clear d4); (try clear d9); (try clear e0); (try clear e1); (try clear d6); (try clear d7); (try clear d8); (try clear e2); (try clear e3); (try clear e4); obtain ⟨b8, b0, u104002, rfl, HA, HK1, a3, a4, a7, a5, HB⟩ := hrel
  cases gk with
  | zero => exact absurd HA.out (by simp [spec_l6FlipX.l0])
  | succ k1 =>
   have H := HA.out; clear HA
   simp only [spec_l6FlipX.l0] at H
   by_cases c10 : b8 < a0_1
   rotate_left
   ·
    rw [if_neg c10] at H
    have f5 : decide (b8 < a0_1) = false := decide_eq_false c10; clear c10
    simp only [Option.some.injEq, Prod.mk.injEq] at H
    obtain ⟨rfl, rfl, rfl⟩ := H; have k0 := b1.out; have k3 := b5.out; have k4 := a8.out; have k5 := b2.out; obtain ⟨h1, h2, h3⟩ := cc3_ a4.out; obtain ⟨h4, h5, h6⟩ := cf3_ a4.out; have k6 := b6.out; have k7 := a9.out; obtain ⟨h7, h8, h9⟩ := cc3_ a5.out; obtain ⟨i0, i1, i2⟩ := cf3_ a5.out; obtain ⟨i3, i4, i5⟩ := cc3_ a7.out; obtain ⟨i6, i7, i8⟩ := cf3_ a7.out; obtain ⟨g5, g6, j1⟩ := Kd.R_slice a3.out; subst j1
    go_wp2
    refine bodyPost_ret (results_cell_row rfl _ _ b4 25 #[.int .i64 a0_0, .int .i64 a0_1, .slice g5 b0.length g6] (0, 0) _ rfl (by (repeat refine oneB ?_); refine blk_put (cs := #[.int .i64 a0_0, .int .i64 a0_1, .slice none 0 0]) ?_ 2 _ rfl; refine blk_put (cs := #[.int .i64 a0_0, .int .i64 0, .slice none 0 0]) ?_ 1 _ rfl; refine blk_put (cs := #[.int .i64 0, .int .i64 0, .slice none 0 0]) ?_ 0 _ rfl; exact upB a7.out) Try.underlying25 rfl (by kernel_rfl)) rfl ?_
    exact ⟨_, by first | rfl | (simp [*, errW_none, errW_some] <;> rfl), by (with_reducible repeat (first | apply Kd.R_alloc | apply Kd.R_drewN | apply Kd.R_drew)); exact Kd.R_mono (Kd.R_far (p := ⟨b4, 2, none⟩) (Kd.R_far (p := ⟨b4, 1, none⟩) (Kd.R_far (p := ⟨b4, 0, none⟩) (Kd.R_types a3.out a7.out (by decide)) (fun _ hk => hk.2) (.int .i64 a0_0)) (fun _ hk => hk.2) (.int .i64 a0_1)) (fun _ hk => hk.2) (.slice g5 b0.length g6)) (fun _ hk => trivial), by repeat (with_reducible first | exact HB.out | apply below_alloc | apply yab | apply below_drew1 | refine below_set ?_ (Aside0.out ‹_›))⟩
   rw [if_pos c10] at H
   have f5 : decide (b8 < a0_1) = true := decide_eq_true c10; clear c10; have H' := yaa H; clear H; have j5 := b1.out; have j6 := b5.out; have j7 := a8.out; have j8 := b2.out; obtain ⟨e5, e6, e7⟩ := cc3_ a4.out; obtain ⟨e8, e9, f4⟩ := cf3_ a4.out
   go_wp2
   (try simp only [Act.put, List.setIfInBounds_toArray, List.set_cons_zero, List.set_cons_succ])
   go_loopg [5] k1 (fun kq v5 w' => ∃ (d1 : Int) (a6 : List (S36)) (u104002 : Value), v5 = .int .i64 d1 ∧ Aside0 (spec_l6FlipX.l1 kq b8 d1 a0_0 a0_1 l0_2 a0_0 a0_1 a6 = some (r1, r2, r3)) ∧ Aside0 (kq ≤ k1) ∧ Aside0 (Kd.R k36 36 w' w.heap.size (fun _ => True) u104002 a6) ∧ Aside0 (w'.heap[b7]? = some (.cells #[.int .i64 a0_0, .int .i64 a0_1, (.slice A0_2 l0_2.length c0_2)] 25 (0, 0))) ∧ Aside0 (w'.heap[b4]? = some (.cells #[.int .i64 0, .int .i64 0, (.slice none 0 0)] 25 (0, 0))) ∧ Aside0 (w'.heap[b3]? = some (.cells #[.int .i64 a0_0, .int .i64 a0_1, u104002] 25 (0, 0))) ∧ Aside0 (Below w.heap.size w w'))
   case atStart => exact ⟨(wrap64 (a0_0 - 1)), (b0), (u104002), (by first | rfl | (simp; done) | (simp [*]; done)), H', ⟨Nat.le_refl _⟩, ⟨by first | exact a3.out | exact upR a3.out⟩, ⟨by exact upB a4.out⟩, ⟨by exact upB a7.out⟩, ⟨by exact upB a5.out⟩, ⟨by repeat (with_reducible first | exact HB.out | apply below_alloc | apply yab | apply below_drew1 | refine below_set ?_ (Aside0.out ‹_›))⟩⟩
   case round =>
    clear H'; (try clear c1); (try clear p2); (try clear c4); (try clear p6); (try clear c7); (try clear c8); (try clear c10); (try clear f5); (try clear c11); (try clear c12); (try clear e5); (try clear e6); (try clear e7); (try clear d2); (try clear d3); (try clear d4); (try clear d9); (try clear e0); (try clear e1); (try clear e8); (try clear e9); (try clear f4); (try clear d6); (try clear d7); (try clear d8); (try clear e2); (try clear e3); (try clear e4); (try clear p2); obtain ⟨d1, a6, u104002, rfl, HA, HK2, a3, a4, a7, a5, HB⟩ := hrel
    cases gk with
    | zero => exact absurd HA.out (by simp [spec_l6FlipX.l1])
    | succ k2 =>
     have H := HA.out; clear HA
     simp only [spec_l6FlipX.l1] at H
     by_cases c14 : d1 ≥ 0
     rotate_left
     ·
      rw [if_neg c14] at H
      have g1 : decide (0 ≤ d1) = false := decide_eq_false c14; clear c14; have H' := yaa H; clear H
      go_wp2
      go_roundg k2
      case measure => have := HK1.out; have := HK2.out; omega
      case rel => exact ⟨(wrap64 (b8 + 1)), (a6), (u104002), (by first | rfl | (simp; done) | (simp [*]; done)), H', ⟨by have := HK1.out; have := HK2.out; omega⟩, ⟨by first | exact a3.out | exact upR a3.out⟩, ⟨by exact upB a4.out⟩, ⟨by exact upB a7.out⟩, ⟨by exact upB a5.out⟩, ⟨by repeat (with_reducible first | exact HB.out | apply below_alloc | apply yab | apply below_drew1 | refine below_set ?_ (Aside0.out ‹_›))⟩⟩
     rw [if_pos c14] at H
     have g1 : decide (0 ≤ d1) = true := decide_eq_true c14; clear c14; obtain ⟨ji15, hji15⟩ : ∃ j_ : Int, (wrap64 ((wrap64 (b8 * a0_0)) + d1)) = j_ := ⟨_, rfl⟩
     replace H : (if 0 ≤ (ji15) then (if (ji15) < (l0_2.length : Int) then (if a6.length < 4398046511104 then (spec_l6FlipX.l1 k2 b8 (wrap64 (d1 - 1)) a0_0 a0_1 l0_2 a0_0 a0_1 (a6 ++ [(⟨(rd_T36 l0_2 (ji15)).f0, (rd_T36 l0_2 (ji15)).f1, (rd_T36 l0_2 (ji15)).f2, (rd_T36 l0_2 (ji15)).f3⟩ : S36)])) else (none)) else (none)) else (none)) = some (r1, r2, r3) := by first | (rw [hji15] at H; exact H) | (simp only [hji15] at H ⊢; exact H)
     have hji15w : (IntKind.i64.wrap ((wrap64 (b8 * a0_0)) + d1)) = ji15 := (i64_w _).trans hji15
     by_cases c16 : 0 ≤ (ji15)
     rotate_left
     ·
      rw [if_neg c16] at H
      exact absurd H (by simp)
     rw [if_pos c16] at H
     replace c16 := decide_eq_true c16
     by_cases c17 : (ji15) < (l0_2.length : Int)
     rotate_left
     ·
      rw [if_neg c17] at H
      exact absurd H (by simp)
     rw [if_pos c17] at H
     replace c17 := decide_eq_true c17
     by_cases c18 : a6.length < 4398046511104
     rotate_left
     ·
      rw [if_neg c18] at H
      exact absurd H (by simp)
     rw [if_pos c18] at H
     have LMc18 := yaa c18; clear c18; obtain ⟨y105, hy105⟩ : ∃ y_ : List (S36), y_ = (a6 ++ [(⟨(rd_T36 l0_2 (ji15)).f0, (rd_T36 l0_2 (ji15)).f1, (rd_T36 l0_2 (ji15)).f2, (rd_T36 l0_2 (ji15)).f3⟩ : S36)]) := ⟨_, rfl⟩
     replace H : (spec_l6FlipX.l1 k2 b8 (wrap64 (d1 - 1)) a0_0 a0_1 l0_2 a0_0 a0_1 y105) = some (r1, r2, r3) := by first | (rw [hy105]; with_reducible exact H) | (have H2_ := (Option.bind_some _ _).symm.trans H; rw [hy105]; with_reducible exact H2_) | (have H2_ := (Option.bind_some _ _).symm.trans H; with_reducible exact H2_) | with_reducible exact H | (rw [hy105]; exact H) | exact H
     have Ny105 := yaa hy105; clear hy105; have H' := yaa H; clear H
     try go_wp2
     replace a3 := yaa (Kd.R_drew a3.out); replace a4 := yaa (blk_drew a4.out); replace a7 := yaa (blk_drew a7.out); replace a5 := yaa (blk_drew a5.out); replace HB := yaa (below_drew1 HB.out); have p104 : 0 ≤ ((ji15) : Int) := of_decide_eq_true (by assumption); have q104 : (ji15) < (l0_2.length : Int) := of_decide_eq_true (by assumption); obtain ⟨ad104, j0, b9, c0, c2, c3⟩ := at_T36 HR0_2.out (ji15) p104 q104; have c5 := c3; have c6 := c2; have c9 := c0; have d0 := b9
     cases j0
     replace b9 := (upc_ HB.out b9 :); replace c0 := (upc_ HB.out c0 :); replace c2 := (upc_ HB.out c2 :); replace c3 := (upc_ HB.out c3 :); replace p104 := eq_true p104; replace q104 := eq_true q104
     refine start_ (n := 16) (S := fun w' => w'.cell? ⟨b3, 0, none⟩ = some (.int .i64 a0_0) ∧ w'.cell? ⟨b3, 1, none⟩ = some (.int .i64 a0_1) ∧ w'.cell? ⟨b3, 2, none⟩ = some (u104002) ∧ w'.cell? ⟨b7, 0, none⟩ = some (.int .i64 a0_0) ∧ w'.cell? ⟨b7, 1, none⟩ = some (.int .i64 a0_1) ∧ w'.cell? ⟨b7, 2, none⟩ = some (.slice (some ad104) l0_2.length c0_2) ∧ w'.cell? (ad104.add (((ji15)).toNat * 4)) = some (.int .i64 ((rd_T36 l0_2 (ji15)).f0)) ∧ w'.cell? ⟨(ad104.add (((ji15)).toNat * 4)).block, (ad104.add (((ji15)).toNat * 4)).off + 1, none⟩ = some (.int .i64 ((rd_T36 l0_2 (ji15)).f1)) ∧ w'.cell? ⟨(ad104.add (((ji15)).toNat * 4)).block, (ad104.add (((ji15)).toNat * 4)).off + 2, none⟩ = some (.int .i64 ((rd_T36 l0_2 (ji15)).f2)) ∧ w'.cell? ⟨(ad104.add (((ji15)).toNat * 4)).block, (ad104.add (((ji15)).toNat * 4)).off + 3, none⟩ = some (.int .i64 ((rd_T36 l0_2 (ji15)).f3))) (ds := [15]) q74_0 (by kernel_rfl) rfl rfl ⟨(blk_cell a5.out 0).trans rfl, (blk_cell a5.out 1).trans rfl, (blk_cell a5.out 2).trans rfl, (blk_cell a4.out 0).trans rfl, (blk_cell a4.out 1).trans rfl, (blk_cell a4.out 2).trans rfl, (upc_ HB.out d0 :), (upc_ HB.out c9 :), (upc_ HB.out c6 :), (upc_ HB.out c5 :)⟩ (fun hHeld => ?_); refine with_tabW spec_l6FlipX.tab8 spec_l6FlipX.bits8 (fun HT_ HW_ => ?_)
     generalize wr.drew = w19 at a3 a4 a7 a5 HB b9 c0 c2 c3 hHeld ⊢
     refine pz_ 0 24 q74_1 HT_ (by kernel_rfl) ?_
     refine pz_ 2 26 q74_2 HT_ (by kernel_rfl) ?_
     refine pz_ 4 28 q74_3 HT_ (by kernel_rfl) ?_
     refine pz_ 5 29 q74_4 HT_ (by kernel_rfl) ?_
     refine pz_ 8 32 q74_5 HT_ (by kernel_rfl) ?_
     refine tz_ 1 25 q74_6 HT_ HW_ (by kernel_rfl) hHeld ?_
     refine tz_ 3 27 q74_7 HT_ HW_ (by kernel_rfl) hHeld ?_
     refine tz_ 6 30 q74_8 HT_ HW_ (by kernel_rfl) hHeld ?_
     refine pz_ 7 31 q74_9 HT_ (by kernel_rfl) ?_
     refine pz_ 9 33 q74_10 HT_ (by kernel_rfl) ?_
     refine pz_ 10 34 q74_11 HT_ (by kernel_rfl) ?_
     refine tz_ 11 35 q74_12 HT_ HW_ (by kernel_rfl) hHeld ?_
     refine one_ (i := 12) (N := some 36) q74_13 rfl rfl (one_of HT_.out (by kernel_rfl)) (by decide) (fun K hK => ?_)
     refine value_ (w1 := ?_) (v := ?_) (by rfl) rfl ?_ ?_
     rotate_left 2
     ·
      go_simp
      constructor
      ·
       rfl
      ·
       rfl
     refine hK.out _ _ ⟨(blk_cell (blk_alloc a5.out _) 0).trans rfl, (blk_cell (blk_alloc a5.out _) 1).trans rfl, (blk_cell (blk_alloc a5.out _) 2).trans rfl, (blk_cell (blk_alloc a4.out _) 0).trans rfl, (blk_cell (blk_alloc a4.out _) 1).trans rfl, (blk_cell (blk_alloc a4.out _) 2).trans rfl, (World.cell?_alloc_lt _ _ _ (World.block_lt_of_cell? _ _ ((upc_ HB.out d0 :)))).trans ((upc_ HB.out d0 :)), (World.cell?_alloc_lt _ _ _ (World.block_lt_of_cell? _ _ ((upc_ HB.out c9 :)))).trans ((upc_ HB.out c9 :)), (World.cell?_alloc_lt _ _ _ (World.block_lt_of_cell? _ _ ((upc_ HB.out c6 :)))).trans ((upc_ HB.out c6 :)), (World.cell?_alloc_lt _ _ _ (World.block_lt_of_cell? _ _ ((upc_ HB.out c5 :)))).trans ((upc_ HB.out c5 :))⟩ (fun hHeld => ?_)
     clear hK K
     refine norm_ (a' := ?_) ?_ ?_
     rotate_left
     ·
      show Act.put _ (some 36) _ = _
      simp only [Act.put, List.setIfInBounds_toArray, List.set_cons_zero, List.set_cons_succ, i64_w, i32_w]
      rfl
     refine one_ (i := 13) (N := some 37) q74_14 rfl rfl (one_of HT_.out (by kernel_rfl)) (by decide) (fun K hK => ?_)
     refine Kd.R_append_step k36 (w0 := w) w.heap.size (by rfl) (.tmp 25) (.tmp 36) 23 36 (.agg #[(.int .i64 0), (.int .i64 0), (.int .i64 0), (.int .i64 0)]) 32 rfl Try.underlying23 info36 rfl (by decide) (by omega) u104002 a6 (⟨(rd_T36 l0_2 (ji15)).f0, (rd_T36 l0_2 (ji15)).f1, (rd_T36 l0_2 (ji15)).f2, (rd_T36 l0_2 (ji15)).f3⟩ : S36) [.int .i64 ((rd_T36 l0_2 (ji15)).f0), .int .i64 ((rd_T36 l0_2 (ji15)).f1), .int .i64 ((rd_T36 l0_2 (ji15)).f2), .int .i64 ((rd_T36 l0_2 (ji15)).f3)] (fun _ => True) (fun _ => False) rfl rfl ?aP (fun _ hk => hk.elim) ?aF ?aO ?aB ?aS ?aL ?_
     (case aP => exact k36_mkM _ _ _ (⟨(rd_T36 l0_2 (ji15)).f0, (rd_T36 l0_2 (ji15)).f1, (rd_T36 l0_2 (ji15)).f2, (rd_T36 l0_2 (ji15)).f3⟩ : S36))
     (case aB => exact (by repeat (with_reducible first | exact HB.out | apply below_alloc | apply yab | apply below_drew1 | refine below_set ?_ (Aside0.out ‹_›))))
     (case aF => exact (fun _ _ => trivial))
     (case aO => exact (upR a3.out))
     (case aS => exact (below_size (by repeat (with_reducible first | exact HB.out | apply below_alloc | apply yab | apply below_drew1 | refine below_set ?_ (Aside0.out ‹_›)))))
     (case aL => have := LMc18.out; omega)
     intro l6 w20 ho hb hg hat
     rw [← Ny105.out] at ho
     replace a4 := yaa (blk_grown (upB a4.out) hg (Kd.R_ne a3.out a4.out (by decide))); replace a7 := yaa (blk_grown (upB a7.out) hg (Kd.R_ne a3.out a7.out (by decide))); replace a5 := yaa (blk_grown (upB a5.out) hg (Kd.R_ne a3.out a5.out (by decide))); replace HB := yaa (hb); have f6 := yaa (ho); clear a3; clear ho hb hg hat; obtain ⟨g2, g3, g4⟩ := Kd.R_slice f6.out
     (first | subst g4 | (injection g4 with f1_ f2_ f3_; have f4_ := f1_.symm; have f5_ := f3_.symm; clear f1_ f2_ f3_; subst f4_; subst f5_))
     refine hK.out _ _ ⟨(blk_cell a5.out 0).trans rfl, (blk_cell a5.out 1).trans rfl, (blk_cell a5.out 2).trans rfl, (blk_cell a4.out 0).trans rfl, (blk_cell a4.out 1).trans rfl, (blk_cell a4.out 2).trans rfl, (upc_ HB.out d0 :), (upc_ HB.out c9 :), (upc_ HB.out c6 :), (upc_ HB.out c5 :)⟩ (fun hHeld => ?_)
     clear hK K
     refine norm_ (a' := ?_) ?_ ?_
     rotate_left
     ·
      show Act.put _ (some 37) _ = _
      simp only [Act.put, List.setIfInBounds_toArray, List.set_cons_zero, List.set_cons_succ, i64_w, i32_w]
      rfl
     refine pz_ 14 38 q74_15 HT_ (by kernel_rfl) ?_
     refine last_ (i := 15) (N := none) q74_16 rfl rfl (one_of HT_.out (by kernel_rfl)) (by decide) (fun K hK => ?_)
     have l7 : w20.cell? ⟨b3, 2, none⟩ = some (u104002) := (blk_cell a5.out 2).trans rfl; have j9 := blk_frozen a5.out 2; have g7 := a8.out; have g8 := a9.out; have g9 := b2.out; have h0 := b6.out
     refine skip_ (w1 := ?_) (by rfl) rfl ?_ ?_
     rotate_left
     ·
      go_simp
      rfl
     refine hK.out _ _ ?_
     clear hK K
     refine done_ (done_of HT_.out (by kernel_rfl)) ?_
     try go_wp2
     go_roundg k2
     case measure => have := HK1.out; have := HK2.out; omega
     case rel => exact ⟨(wrap64 (d1 - 1)), (y105), (.slice g2 y105.length g3), (by first | rfl | (simp; done) | (simp [*]; done)), H', ⟨by have := HK1.out; have := HK2.out; omega⟩, ⟨by (with_reducible repeat (first | apply Kd.R_alloc | apply Kd.R_drewN | apply Kd.R_drew)); exact Kd.R_mono (Kd.R_far (p := ⟨b3, 2, none⟩) (Kd.R_types f6.out a5.out (by decide)) (fun _ hk => hk.2) (.slice g2 y105.length g3)) (fun _ hk => trivial)⟩, ⟨by repeat (with_reducible first | exact a4.out | refine oneB ?_ | refine blk_far ?_ a8.out _)⟩, ⟨by repeat (with_reducible first | exact a7.out | refine oneB ?_ | refine blk_far ?_ a9.out _)⟩, ⟨by (repeat refine oneB ?_); refine blk_put (cs := #[.int .i64 a0_0, .int .i64 a0_1, u104002]) ?_ 2 _ rfl; exact upB a5.out⟩, ⟨by repeat (with_reducible first | exact HB.out | apply below_alloc | apply yab | apply below_drew1 | refine below_set ?_ (Aside0.out ‹_›))⟩⟩
end
section
open Go.Proofs.YtoifpgkfpdeglaaW.PrintWords.Aside0 renaming mk → yaa
abbrev q75_0 : Array Bool := Array.replicate 17 false
abbrev q75_1 : Array Bool := bl_ 17 1
abbrev q75_2 : Array Bool := bl_ 17 5
abbrev q75_3 : Array Bool := bl_ 17 21
abbrev q75_4 : Array Bool := bl_ 17 53
abbrev q75_5 : Array Bool := bl_ 17 309
abbrev q75_6 : Array Bool := bl_ 17 821
abbrev q75_7 : Array Bool := bl_ 17 1845
abbrev q75_8 : Array Bool := bl_ 17 1847
abbrev q75_9 : Array Bool := bl_ 17 1855
abbrev q75_10 : Array Bool := bl_ 17 1919
abbrev q75_11 : Array Bool := bl_ 17 2047
abbrev q75_12 : Array Bool := bl_ 17 4095
abbrev q75_13 : Array Bool := bl_ 17 8191
abbrev q75_14 : Array Bool := bl_ 17 16383
abbrev q75_15 : Array Bool := bl_ 17 32767
abbrev q75_16 : Array Bool := bl_ 17 65535
abbrev q75_17 : Array Bool := bl_ 17 131071
def spec_l5Flip.l0 : Nat → Int → Int → Int → List (S36) → Int → Int → List (S36) → Option (Int × Int × (List (S36)))
 | 0, _, _, _, _, _, _, _ => none
 | k + 1, x4, x102000, x102001, x102002, x104000, x104001, x104002 => if x4 ≥ 0 then (if 0 ≤ (wrap64 (x4 * x102000)) then (if (wrap64 (x4 * x102000)) ≤ (wrap64 ((wrap64 (x4 + 1)) * x102000)) then (if (wrap64 ((wrap64 (x4 + 1)) * x102000)) ≤ (x102002.length : Int) then ((some ((x102002.take ((wrap64 ((wrap64 (x4 + 1)) * x102000)) : Int).toNat).drop ((wrap64 (x4 * x102000)) : Int).toNat : List (S36))).bind fun y104 => (if x104002.length + y104.length < 4398046511104 then (spec_l5Flip.l0 k (wrap64 (x4 - 1)) x102000 x102001 x102002 x104000 x104001 (x104002 ++ y104)) else (none))) else (none)) else (none)) else (none)) else (some (x104000, x104001, x104002))
def spec_l5Flip.f (k : Nat) (a0_0 : Int) (a0_1 : Int) (l0_2 : List (S36)) : Option (Int × Int × (List (S36))) := spec_l5Flip.l0 k (wrap64 (a0_1 - 1)) a0_0 a0_1 l0_2 a0_0 a0_1 ([] : List (S36))
def spec_l5Flip.T5 : Bool × List (List Nat × List Nat) := (true, [([], []), ([0], [0]), ([], []), ([2], [2]), ([], []), ([], []), ([5], [5]), ([4, 6], [4, 6]), ([], []), ([8], [8]), ([], []), ([10], [10]), ([9, 11], [9, 11]), ([3, 7, 12], [3, 7, 12]), ([1, 13], [1, 13]), ([0, 1, 2, 3, 4, 5, 6, 7, 8, 9, 10, 11, 12, 13, 14], []), ([15, 14, 14, 0, 1, 2, 3, 4, 5, 6, 7, 8, 9, 10, 11, 12, 13, 14], [14, 15])])
def spec_l5Flip.B5 : List Nat := [0, 1, 0, 4, 0, 0, 32, 112, 0, 256, 0, 1024, 3840, 8188, 16383, 32767, 65535]
theorem spec_l5Flip.tab5 : rtab .any (opsOf Try.f75 5) = spec_l5Flip.T5 := by kernel_rfl
theorem spec_l5Flip.bits5 : waitsOk spec_l5Flip.T5.2 spec_l5Flip.B5 = true := by kernel_rfl
set_option maxHeartbeats 8000000 in
set_option maxRecDepth 100000 in
theorem spec_l5Flip.calls (k : Nat) (a0_0 : Int) (a0_1 : Int) (A0_2 : Option Addr) (c0_2 : Nat) (l0_2 : List (S36)) (r1 : Int) (r2 : Int) (r3 : List (S36)) (w : World) (hr0_2 : Kd.C k36 w A0_2 l0_2.length l0_2) (hc0_2 : l0_2.length ≤ c0_2) (h : spec_l5Flip.f k a0_0 a0_1 l0_2 = some (r1, r2, r3)) :
  Calls Try.prog 75 #[.agg #[.int .i64 a0_0, .int .i64 a0_1, .slice A0_2 l0_2.length c0_2]] w fun e w' => ∃ v2_ : Value, e = .returned (.agg #[.int .i64 r1, .int .i64 r2, v2_]) ∧ Kd.R k36 36 w' w.heap.size (fun _ => True) v2_ r3 ∧ Below w.heap.size w w' := by
 have hu25 := Try.underlying25; have HR0_2 := yaa hr0_2; have HC0_2 := yaa hc0_2; clear hr0_2 hc0_2; have HB := yaa (Below.refl w.heap.size w); have H : (spec_l5Flip.l0 k (wrap64 (a0_1 - 1)) a0_0 a0_1 l0_2 a0_0 a0_1 ([] : List (S36))) = some (r1, r2, r3) := h; clear h; have H' := yaa H; clear H
 go_enter Try.func75, Try.ntmps75
 go_wp2_with (first | ((with_reducible refine gd_ 1 rfl ?_); refine bx_ 1 rfl #[.int .i64 a0_0, .int .i64 a0_1, .slice A0_2 l0_2.length c0_2] 25 ?_; intro b6 hg w2 hbox hb; have a4 := yaa (hbox); have e3 := yaa ((by rw [hg]; exact (below_size (upH HB.out)) : w.heap.size ≤ b6)); replace HB := yaa (below_step (upH HB.out) hb); have h1 := e3; clear hb hbox hg) | ((with_reducible refine gd_ 2 rfl ?_); refine bx_ 2 rfl #[.int .i64 0, .int .i64 0, .slice none 0 0] 25 ?_; intro b5 hg w3 hbox hb; have a8 := yaa (hbox); have e4 := yaa ((by rw [hg]; exact (below_size (by repeat (with_reducible first | exact HB.out | apply below_alloc | apply pw_below_drewN | apply below_drew1 | refine below_set ?_ (Aside0.out ‹_›)))) : w.heap.size ≤ b5)); replace HB := yaa (below_step (by repeat (with_reducible first | exact HB.out | apply below_alloc | apply pw_below_drewN | apply below_drew1 | refine below_set ?_ (Aside0.out ‹_›))) hb); have h2 := e4; have b2 := yaa ((by rw [hg]; exact Nat.ne_of_lt (blk_lt (upB a4.out)) : b6 ≠ b5)); replace a4 := yaa (blk_below (upB a4.out) hb); have b7 := yaa b2.out.symm; clear hb hbox hg; have i6 := b2.out; have i7 := b7.out; obtain ⟨d1, d2, d3⟩ := cc3_ a4.out; obtain ⟨d4, d5⟩ := cf2_ a4.out; have d6 := blk_frozen a4.out 2) | ((with_reducible refine gd_ 3 rfl ?_); refine bx_ 3 rfl #[.int .i64 0, .int .i64 0, .slice none 0 0] 25 ?_; intro b1 hg w6 hbox hb; have a6 := yaa (hbox); have e5 := yaa ((by rw [hg]; exact (below_size (by repeat (with_reducible first | exact HB.out | apply below_alloc | apply pw_below_drewN | apply below_drew1 | refine below_set ?_ (Aside0.out ‹_›)))) : w.heap.size ≤ b1)); replace HB := yaa (below_step (by repeat (with_reducible first | exact HB.out | apply below_alloc | apply pw_below_drewN | apply below_drew1 | refine below_set ?_ (Aside0.out ‹_›))) hb); have h3 := e5; have a9 := yaa ((by rw [hg]; exact Nat.ne_of_lt (blk_lt (upB a4.out)) : b6 ≠ b1)); replace a4 := yaa (blk_below (upB a4.out) hb); have b3 := yaa a9.out.symm; have b0 := yaa ((by rw [hg]; exact Nat.ne_of_lt (blk_lt (upB a8.out)) : b5 ≠ b1)); replace a8 := yaa (blk_below (upB a8.out) hb); have b4 := yaa b0.out.symm; clear hb hbox hg; have i8 := b3.out; have i9 := a9.out; have j0 := b4.out; have j1 := b0.out; obtain ⟨d7, d8, d9⟩ := cc3_ a6.out; obtain ⟨e0, e1, e2⟩ := cf3_ a6.out; obtain ⟨b9, c0, c2⟩ := cc3_ a4.out; obtain ⟨c3, c5⟩ := cf2_ a4.out; have c6 := blk_frozen a4.out 2))
 (try simp only [Act.put, List.setIfInBounds_toArray, List.set_cons_zero, List.set_cons_succ])
 go_loopg [4] k (fun kq v4 w' => ∃ (a7 : Int) (a3 : List (S36)) (u104002 : Value), v4 = .int .i64 a7 ∧ Aside0 (spec_l5Flip.l0 kq a7 a0_0 a0_1 l0_2 a0_0 a0_1 a3 = some (r1, r2, r3)) ∧ Aside0 (kq ≤ k) ∧ Aside0 (Kd.R k36 36 w' w.heap.size (fun _ => True) u104002 a3) ∧ Aside0 (w'.heap[b6]? = some (.cells #[.int .i64 a0_0, .int .i64 a0_1, (.slice A0_2 l0_2.length c0_2)] 25 (0, 0))) ∧ Aside0 (w'.heap[b5]? = some (.cells #[.int .i64 0, .int .i64 0, (.slice none 0 0)] 25 (0, 0))) ∧ Aside0 (w'.heap[b1]? = some (.cells #[.int .i64 a0_0, .int .i64 a0_1, u104002] 25 (0, 0))) ∧ Aside0 (Below w.heap.size w w'))
 case atStart => exact ⟨(wrap64 (a0_1 - 1)), (([] : List (S36))), (.slice none 0 0), (by first | rfl | (simp; done) | (simp [*]; done)), H', ⟨Nat.le_refl _⟩, ⟨by first | exact Kd.R_nil _ _ _ _ _ | exact Kd.N_nil _ _ _ _ _ | exact Kd.V_nil _ _ _ _ _ | exact Kd.Q_nil _ _ _ _ _ | exact Kd.S_nil _ _ _ _ _⟩, ⟨by repeat (with_reducible first | exact a4.out | refine oneB ?_ | refine blk_far ?_ a9.out _)⟩, ⟨by repeat (with_reducible first | exact a8.out | refine oneB ?_ | refine blk_far ?_ b0.out _)⟩, ⟨by (repeat refine oneB ?_); refine blk_put (cs := #[.int .i64 a0_0, .int .i64 a0_1, .slice none 0 0]) ?_ 2 _ rfl; refine blk_put (cs := #[.int .i64 a0_0, .int .i64 0, .slice none 0 0]) ?_ 1 _ rfl; refine blk_put (cs := #[.int .i64 0, .int .i64 0, .slice none 0 0]) ?_ 0 _ rfl; exact upB a6.out⟩, ⟨by repeat (with_reducible first | exact HB.out | apply below_alloc | apply pw_below_drewN | apply below_drew1 | refine below_set ?_ (Aside0.out ‹_›))⟩⟩
 case round =>
  clear H'; (try clear p2); (try clear c4); (try clear p6); (try clear c7); (try clear c8); (try clear b9); (try clear c0); (try clear c2); (try clear d1); (try clear d2); (try clear d3); (try clear d7); (try clear d8); (try clear d9); (try clear c3); (try clear c5); (try clear c6); (try clear d4); (try clear d5); (try clear d6); (try clear e0); (try clear e1); (try clear e2); obtain ⟨a7, a3, u104002, rfl, HA, HK1, a5, a4, a8, a6, HB⟩ := hrel
  cases gk with
  | zero => exact absurd HA.out (by simp [spec_l5Flip.l0])
  | succ k1 =>
   have H := HA.out; clear HA
   simp only [spec_l5Flip.l0] at H
   by_cases c11 : a7 ≥ 0
   rotate_left
   ·
    rw [if_neg c11] at H
    have e7 : decide (0 ≤ a7) = false := decide_eq_false c11; clear c11
    simp only [Option.some.injEq, Prod.mk.injEq] at H
    obtain ⟨rfl, rfl, rfl⟩ := H; have i0 := b3.out; have i1 := a9.out; have i2 := b4.out; have i3 := b0.out; obtain ⟨f7, f8, f9⟩ := cc3_ a6.out; obtain ⟨g0, g1, g2⟩ := cf3_ a6.out; have i4 := b7.out; have i5 := b2.out; obtain ⟨g3, g4, g5⟩ := cc3_ a8.out; obtain ⟨g6, g7, g8⟩ := cf3_ a8.out; obtain ⟨f1, f2, h0⟩ := Kd.R_slice a5.out; subst h0
    go_wp2
    refine bodyPost_ret (results_cell_row rfl _ _ b5 25 #[.int .i64 a0_0, .int .i64 a0_1, .slice f1 a3.length f2] (0, 0) _ rfl (by (repeat refine oneB ?_); refine blk_put (cs := #[.int .i64 a0_0, .int .i64 a0_1, .slice none 0 0]) ?_ 2 _ rfl; refine blk_put (cs := #[.int .i64 a0_0, .int .i64 0, .slice none 0 0]) ?_ 1 _ rfl; refine blk_put (cs := #[.int .i64 0, .int .i64 0, .slice none 0 0]) ?_ 0 _ rfl; exact upB a8.out) Try.underlying25 rfl (by kernel_rfl)) rfl ?_
    exact ⟨_, by first | rfl | (simp [*, errW_none, errW_some] <;> rfl), by (with_reducible repeat (first | apply Kd.R_alloc | apply Kd.R_drewN | apply Kd.R_drew)); exact Kd.R_mono (Kd.R_far (p := ⟨b5, 2, none⟩) (Kd.R_far (p := ⟨b5, 1, none⟩) (Kd.R_far (p := ⟨b5, 0, none⟩) (Kd.R_types a5.out a8.out (by decide)) (fun _ hk => hk.2) (.int .i64 a0_0)) (fun _ hk => hk.2) (.int .i64 a0_1)) (fun _ hk => hk.2) (.slice f1 a3.length f2)) (fun _ hk => trivial), by repeat (with_reducible first | exact HB.out | apply below_alloc | apply pw_below_drewN | apply below_drew1 | refine below_set ?_ (Aside0.out ‹_›))⟩
   rw [if_pos c11] at H
   have e7 : decide (0 ≤ a7) = true := decide_eq_true c11; clear c11; obtain ⟨ji12, hji12⟩ : ∃ j_ : Int, (wrap64 (a7 * a0_0)) = j_ := ⟨_, rfl⟩
   replace H : (if 0 ≤ (ji12) then (if (ji12) ≤ (wrap64 ((wrap64 (a7 + 1)) * a0_0)) then (if (wrap64 ((wrap64 (a7 + 1)) * a0_0)) ≤ (l0_2.length : Int) then ((some ((l0_2.take ((wrap64 ((wrap64 (a7 + 1)) * a0_0)) : Int).toNat).drop ((ji12) : Int).toNat : List (S36))).bind fun y104 => (if a3.length + y104.length < 4398046511104 then (spec_l5Flip.l0 k1 (wrap64 (a7 - 1)) a0_0 a0_1 l0_2 a0_0 a0_1 (a3 ++ y104)) else (none))) else (none)) else (none)) else (none)) = some (r1, r2, r3) := by first | (rw [hji12] at H; exact H) | (simp only [hji12] at H ⊢; exact H)
   have hji12w : (IntKind.i64.wrap (a7 * a0_0)) = ji12 := (i64_w _).trans hji12
   by_cases c13 : 0 ≤ (ji12)
   rotate_left
   ·
    rw [if_neg c13] at H
    exact absurd H (by simp)
   rw [if_pos c13] at H
   have h4 := eq_true c13; replace c13 := decide_eq_true c13
   by_cases c14 : (ji12) ≤ (wrap64 ((wrap64 (a7 + 1)) * a0_0))
   rotate_left
   ·
    rw [if_neg c14] at H
    exact absurd H (by simp)
   rw [if_pos c14] at H
   have h5 := eq_true c14; have h6 : decide ((ji12) ≤ (wrap64 ((wrap64 (a7 + 1)) * a0_0))) = true := decide_eq_true c14
   by_cases c15 : (wrap64 ((wrap64 (a7 + 1)) * a0_0)) ≤ (l0_2.length : Int)
   rotate_left
   ·
    rw [if_neg c15] at H
    exact absurd H (by simp)
   rw [if_pos c15] at H
   have h7 := eq_true c15; have h8 : decide ((wrap64 ((wrap64 (a7 + 1)) * a0_0)) ≤ (l0_2.length : Int)) = true := decide_eq_true c15; obtain ⟨y104, hy104⟩ : ∃ y_ : List (S36), y_ = ((l0_2.take ((wrap64 ((wrap64 (a7 + 1)) * a0_0)) : Int).toNat).drop ((ji12) : Int).toNat) := ⟨_, rfl⟩
   replace H : (if a3.length + y104.length < 4398046511104 then (spec_l5Flip.l0 k1 (wrap64 (a7 - 1)) a0_0 a0_1 l0_2 a0_0 a0_1 (a3 ++ y104)) else (none)) = some (r1, r2, r3) := by first | (rw [hy104]; with_reducible exact H) | (have H2_ := (Option.bind_some _ _).symm.trans H; rw [hy104]; with_reducible exact H2_) | (have H2_ := (Option.bind_some _ _).symm.trans H; with_reducible exact H2_) | with_reducible exact H | (rw [hy104]; exact H) | exact H
   have Ny104 := yaa hy104; clear hy104
   by_cases c16 : a3.length + y104.length < 4398046511104
   rotate_left
   ·
    rw [if_neg c16] at H
    exact absurd H (by simp)
   rw [if_pos c16] at H
   have LMc16 := yaa c16; clear c16; obtain ⟨y108, hy108⟩ : ∃ y_ : List (S36), y_ = (a3 ++ y104) := ⟨_, rfl⟩
   replace H : (spec_l5Flip.l0 k1 (wrap64 (a7 - 1)) a0_0 a0_1 l0_2 a0_0 a0_1 y108) = some (r1, r2, r3) := by first | (rw [hy108]; with_reducible exact H) | (have H2_ := (Option.bind_some _ _).symm.trans H; rw [hy108]; with_reducible exact H2_) | (have H2_ := (Option.bind_some _ _).symm.trans H; with_reducible exact H2_) | with_reducible exact H | (rw [hy108]; exact H) | exact H
   have Ny108 := yaa hy108; clear hy108; have H' := yaa H; clear H
   try go_wp2
   replace a5 := yaa (Kd.R_drew a5.out); replace a4 := yaa (blk_drew a4.out); replace a8 := yaa (blk_drew a8.out); replace a6 := yaa (blk_drew a6.out); replace HB := yaa (below_drew1 HB.out); have q18 : ((wrap64 ((wrap64 (a7 + 1)) * a0_0)) : Int) ≤ ((l0_2.length : Int) : Int) := of_decide_eq_true (by assumption); obtain ⟨i018, hi018, _, c9, _⟩ := info_parts info36; have hroom18 : l0_2.length ≤ c0_2 := HC0_2.out; have hC18 : Kd.C k36 _ A0_2 l0_2.length l0_2 := HR0_2.out; have ql18 : ((ji12) : Int) ≤ ((wrap64 ((wrap64 (a7 + 1)) * a0_0)) : Int) := of_decide_eq_true (by assumption); have q018 : (0 : Int) ≤ ((ji12) : Int) := of_decide_eq_true (by assumption); have hcut18 := cut_mid (P := Try.prog) 23 36 .i64 .i64 Try.underlying23 hi018 4 c9 A0_2 l0_2.length c0_2 (ji12) (wrap64 ((wrap64 (a7 + 1)) * a0_0)) q018 ql18 q18 hroom18; have hr18 := Kd.C_mid (lo := ((ji12) : Int).toNat) (hi := ((wrap64 ((wrap64 (a7 + 1)) * a0_0)) : Int).toNat) (c := c0_2) hC18 (by omega) (by omega) hroom18
   obtain ⟨A18, hA18⟩ : ∃ A1, A1 = (if c0_2 = ((ji12) : Int).toNat then A0_2 else (A0_2 : Option Addr).map (·.add (((ji12) : Int).toNat * 4))) := ⟨_, rfl⟩
   obtain ⟨c18, hc18⟩ : ∃ c1, c1 = c0_2 - ((ji12) : Int).toNat := ⟨_, rfl⟩; have hy18 : y104.length = ((wrap64 ((wrap64 (a7 + 1)) * a0_0)) : Int).toNat - ((ji12) : Int).toNat := (by rw [Ny104.out, List.length_drop, List.length_take] <;> omega)
   rw [show ((l0_2).take ((wrap64 ((wrap64 (a7 + 1)) * a0_0)) : Int).toNat).drop ((ji12) : Int).toNat = y104 from Ny104.out.symm] at hr18
   replace hr18 : Kd.C k36 _ A18 y104.length y104 := (by rw [hA18]; exact hr18)
   rw [← hy18, ← hA18, ← hc18] at hcut18
   have HR107 := yaa hr18; have HC107 := yaa (show y104.length ≤ c18 from by rw [hy18, hc18]; exact Nat.sub_le_sub_right (Nat.le_trans (by omega) hroom18) _); clear hr18 hC18 hroom18 hi018 c9 hc18; have KY18 := yaa hy18; have KA18 := yaa hA18; clear hy18 hA18; replace q18 := eq_true q18
   refine start_ (n := 17) (S := fun w' => w'.cell? ⟨b1, 0, none⟩ = some (.int .i64 a0_0) ∧ w'.cell? ⟨b1, 1, none⟩ = some (.int .i64 a0_1) ∧ w'.cell? ⟨b1, 2, none⟩ = some (u104002) ∧ w'.cell? ⟨b6, 0, none⟩ = some (.int .i64 a0_0) ∧ w'.cell? ⟨b6, 1, none⟩ = some (.int .i64 a0_1) ∧ w'.cell? ⟨b6, 2, none⟩ = some (.slice A0_2 l0_2.length c0_2)) (ds := [16]) q75_0 (by kernel_rfl) rfl rfl ⟨(blk_cell a6.out 0).trans rfl, (blk_cell a6.out 1).trans rfl, (blk_cell a6.out 2).trans rfl, (blk_cell a4.out 0).trans rfl, (blk_cell a4.out 1).trans rfl, (blk_cell a4.out 2).trans rfl⟩ (fun hHeld => ?_); refine with_tabW spec_l5Flip.tab5 spec_l5Flip.bits5 (fun HT_ HW_ => ?_)
   generalize wr.drew = w17 at a5 a4 a8 a6 HB HR107 hHeld ⊢
   refine pz_ 0 17 q75_1 HT_ (by kernel_rfl) ?_
   refine pz_ 2 19 q75_2 HT_ (by kernel_rfl) ?_
   refine pz_ 4 21 q75_3 HT_ (by kernel_rfl) ?_
   refine pz_ 5 22 q75_4 HT_ (by kernel_rfl) ?_
   refine pz_ 8 25 q75_5 HT_ (by kernel_rfl) ?_
   refine pz_ 9 26 q75_6 HT_ (by kernel_rfl) ?_
   refine pz_ 10 27 q75_7 HT_ (by kernel_rfl) ?_
   refine tz_ 1 18 q75_8 HT_ HW_ (by kernel_rfl) hHeld ?_
   refine tz_ 3 20 q75_9 HT_ HW_ (by kernel_rfl) hHeld ?_
   refine tz_ 6 23 q75_10 HT_ HW_ (by kernel_rfl) hHeld ?_
   refine pz_ 7 24 q75_11 HT_ (by kernel_rfl) ?_
   refine tz_ 11 28 q75_12 HT_ HW_ (by kernel_rfl) hHeld ?_
   refine pz_ 12 29 q75_13 HT_ (by kernel_rfl) ?_
   refine pz_ 13 30 q75_14 HT_ (by kernel_rfl) ?_
   refine one_ (i := 14) (N := some 31) q75_15 rfl rfl (one_of HT_.out (by kernel_rfl)) (by decide) (fun K hK => ?_)
   refine Kd.R_append_rows_step k36 (w0 := w) w.heap.size (by rfl) (.tmp 18) (.tmp 30) 23 36 (.agg #[(.int .i64 0), (.int .i64 0), (.int .i64 0), (.int .i64 0)]) 32 rfl Try.underlying23 info36 rfl (by decide) (by omega) u104002 a3 y104 _ _ _ (fun _ => True) (fun _ => False) rfl rfl ?aO ?aR (fun _ _ h => h) (fun _ h => h.elim) ?aF ?aB ?aS ?aL ?_
   (case aR => repeat (first | exact (Kd.C_below HR107.out HB.out) | (with_reducible refine Kd.C_alloc ?_ _) | (with_reducible refine Kd.C_drewN ?_ _) | (with_reducible refine Kd.C_drew ?_)))
   (case aB => exact (by repeat (with_reducible first | exact HB.out | apply below_alloc | apply pw_below_drewN | apply below_drew1 | refine below_set ?_ (Aside0.out ‹_›))))
   (case aF => exact (fun _ _ => trivial))
   (case aO => exact (upR a5.out))
   (case aS => exact (below_size (by repeat (with_reducible first | exact HB.out | apply below_alloc | apply pw_below_drewN | apply below_drew1 | refine below_set ?_ (Aside0.out ‹_›)))))
   (case aL => have := LMc16.out; omega)
   intro j2 w19 ho hb hg hat
   rw [← Ny108.out] at ho
   replace a4 := yaa (blk_grown (upB a4.out) hg (Kd.R_ne a5.out a4.out (by decide))); replace a8 := yaa (blk_grown (upB a8.out) hg (Kd.R_ne a5.out a8.out (by decide))); replace a6 := yaa (blk_grown (upB a6.out) hg (Kd.R_ne a5.out a6.out (by decide))); replace HB := yaa (hb); have d0 := yaa (ho); clear a5; clear ho hb hg hat; obtain ⟨e8, e9, f0⟩ := Kd.R_slice d0.out
   (first | subst f0 | (injection f0 with f1_ f2_ f3_; have f4_ := f1_.symm; have f5_ := f3_.symm; clear f1_ f2_ f3_; subst f4_; subst f5_))
   refine hK.out _ _ ⟨(blk_cell a6.out 0).trans rfl, (blk_cell a6.out 1).trans rfl, (blk_cell a6.out 2).trans rfl, (blk_cell a4.out 0).trans rfl, (blk_cell a4.out 1).trans rfl, (blk_cell a4.out 2).trans rfl⟩ (fun hHeld => ?_)
   clear hK K
   refine norm_ (a' := ?_) ?_ ?_
   rotate_left
   ·
    show Act.put _ (some 31) _ = _
    simp only [Act.put, List.setIfInBounds_toArray, List.set_cons_zero, List.set_cons_succ, i64_w, i32_w]
    rfl
   refine pz_ 15 32 q75_16 HT_ (by kernel_rfl) ?_
   refine last_ (i := 16) (N := none) q75_17 rfl rfl (one_of HT_.out (by kernel_rfl)) (by decide) (fun K hK => ?_)
   have j3 : w19.cell? ⟨b1, 2, none⟩ = some (u104002) := (blk_cell a6.out 2).trans rfl; have h9 := blk_frozen a6.out 2; have f3 := a9.out; have f4 := b0.out; have f5 := b3.out; have f6 := b4.out
   refine skip_ (w1 := ?_) (by rfl) rfl ?_ ?_
   rotate_left
   ·
    go_simp
    rfl
   refine hK.out _ _ ?_
   clear hK K
   refine done_ (done_of HT_.out (by kernel_rfl)) ?_
   try go_wp2
   go_roundg k1
   case measure => have := HK1.out; omega
   case rel => exact ⟨(wrap64 (a7 - 1)), (y108), (.slice e8 y108.length e9), (by first | rfl | (simp; done) | (simp [*]; done)), H', ⟨by have := HK1.out; omega⟩, ⟨by (with_reducible repeat (first | apply Kd.R_alloc | apply Kd.R_drewN | apply Kd.R_drew)); exact Kd.R_mono (Kd.R_far (p := ⟨b1, 2, none⟩) (Kd.R_types d0.out a6.out (by decide)) (fun _ hk => hk.2) (.slice e8 y108.length e9)) (fun _ hk => trivial)⟩, ⟨by repeat (with_reducible first | exact a4.out | refine oneB ?_ | refine blk_far ?_ a9.out _)⟩, ⟨by repeat (with_reducible first | exact a8.out | refine oneB ?_ | refine blk_far ?_ b0.out _)⟩, ⟨by (repeat refine oneB ?_); refine blk_put (cs := #[.int .i64 a0_0, .int .i64 a0_1, u104002]) ?_ 2 _ rfl; exact upB a6.out⟩, ⟨by repeat (with_reducible first | exact HB.out | apply below_alloc | apply pw_below_drewN | apply below_drew1 | refine below_set ?_ (Aside0.out ‹_›))⟩⟩
end
end Go.Proofs.Ytoifpgkfpdeglaa.X
