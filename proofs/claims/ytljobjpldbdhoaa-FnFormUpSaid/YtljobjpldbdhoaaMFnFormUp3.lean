/- Lemmas and contracts for the law FnFormUp, part 3: of the program's functions, and over data alone. No condition. -/
import Derived.Test.YtljobjpldbdhoaaMFnFormUp2
namespace Go.Proofs.Ytljobjpldbdhoaa.X
open Go.RowKit Go.Proofs.YtljobjpldbdhoaaW.PrintWords Go.Proofs.YtljobjpldbdhoaaW.PrintLast Go.Proofs.YtljobjpldbdhoaaW.PrintMore
attribute [local go_sem] max2_int min2_int max_two min_two max_three min_three max_four min_four
set_option linter.unusedVariables false
set_option linter.unusedSimpArgs false

section
open Go.Proofs.YtljobjpldbdhoaaW.PrintWords.Aside0 renaming mk → yaa
open Go.Proofs.YtljobjpldbdhoaaW.PrintWords renaming below_set → yab, pw_below_drewN → yac, below_alloc → yad, below_drew1 → yae

def spec_DrawFormWrite.f (k : Nat) (l0 : List Int) : Option (Int × List Int × Int × Int × (List (S53))) := (spec_l20Open.f l0).bind fun bt102 => ((spec_l20Kind.f k bt102.1 bt102.2).bind fun bt105 => ((spec_l20Rd_odd.f k bt102.1 bt105.2 12).bind fun bt107 => (if bt107.1 = true then ((spec_l20Rd_pick.f k bt102.1 bt107.2 256).bind fun bt109 => ((spec_l20Bytes.f k bt102.1 bt109.2 10).bind fun bt111 => ((spec_l20Ras.f k bt102.1 bt111.2 9).bind fun bt115 => (some ((bt109.1) % 256, bt111.1, bt115.1, bt115.2.1, bt115.2.2.1))))) else ((spec_l20Bytes.f k bt102.1 bt107.2 10).bind fun bt121 => ((spec_l20Ras.f k bt102.1 bt121.2 9).bind fun bt125 => (some (bt105.1, bt121.1, bt125.1, bt125.2.1, bt125.2.2.1)))))))
set_option maxHeartbeats 8000000 in
set_option maxRecDepth 100000 in
theorem spec_DrawFormWrite.calls (k : Nat) (A0 : Option Addr) (c0 : Nat) (l0 : List Int) (r1 : Int) (r2 : List Int) (r3 : Int) (r4 : Int) (r5 : List (S53)) (w : World) (hr0 : Kd.C (Kd.int .u8) w A0 l0.length l0) (hc0 : l0.length ≤ c0) (h : spec_DrawFormWrite.f k l0 = some (r1, r2, r3, r4, r5)) :
  Calls Try.prog 4 #[.slice A0 l0.length c0] w fun e w' => ∃ v1_ v4_ : Value, e = .returned (.tuple #[.int .u8 r1, v1_, .agg #[.int .i64 r3, .int .i64 r4, v4_]]) ∧ Kd.R (Kd.int .u8) 5 w' w.heap.size (fun _ => True) v1_ r2 ∧ Kd.Q k53 53 w' w.heap.size (fun _ => True) v4_ r5 ∧ Below w.heap.size w w' := by
 have hu25 := Try.underlying25; have HR0 := yaa hr0; have HC0 := yaa hc0; clear hr0 hc0; have HB := yaa (Below.refl w.heap.size w); have H : ((spec_l20Open.f l0).bind fun a7 => ((spec_l20Kind.f k a7.1 a7.2).bind fun c4 => ((spec_l20Rd_odd.f k a7.1 c4.2 12).bind fun b0 => (if b0.1 = true then ((spec_l20Rd_pick.f k a7.1 b0.2 256).bind fun c6 => ((spec_l20Bytes.f k a7.1 c6.2 10).bind fun c7 => ((spec_l20Ras.f k a7.1 c7.2 9).bind fun b1 => (some ((c6.1) % 256, c7.1, b1.1, b1.2.1, b1.2.2.1))))) else ((spec_l20Bytes.f k a7.1 b0.2 10).bind fun c8 => ((spec_l20Ras.f k a7.1 c8.2 9).bind fun b2 => (some (c4.1, c8.1, b2.1, b2.2.1, b2.2.2.1)))))))) = some (r1, r2, r3, r4, r5) := h; clear h; obtain ⟨⟨a6, b8⟩, A2, H⟩ := bindA H; (try dsimp only at H); obtain ⟨⟨d7, b9⟩, A3, H⟩ := bindA H; (try dsimp only at H); obtain ⟨⟨f2, c1⟩, A4, H⟩ := bindA H; (try dsimp only at H)
 by_cases c5 : f2 = true
 ·
  subst c5
  rw [if_pos rfl] at H
  obtain ⟨⟨f3, d8⟩, A6, H⟩ := bindA H; (try dsimp only at H); obtain ⟨⟨f4, d1⟩, A7, H⟩ := bindA H; (try dsimp only at H); obtain ⟨⟨a8, b3, c2, f5⟩, A8, H⟩ := bindA H; (try dsimp only at H)
  simp only [Option.some.injEq, Prod.mk.injEq] at H
  obtain ⟨rfl, rfl, rfl, rfl, rfl⟩ := H
  go_enter Try.func4, Try.ntmps4
  go_wp2_with (first | ((with_reducible refine gd_ 4 rfl ?_); refine bx_ 4 rfl #[.int .i64 0, .int .i64 0, .slice none 0 0] 25 ?_; intro a5 hg w9 hbox hb; have a1 := yaa (hbox); have b4 := yaa ((by rw [hg]; exact (below_size (upH HB.out)) : w.heap.size ≤ a5)); replace HB := yaa (below_step (upH HB.out) hb); have d9 := b4; clear hb hbox hg) | ((with_reducible refine gc_ 11 rfl ?_); refine gl_ (some 8) rfl Try.func11 #[.slice A0 l0.length c0] ?_; (with_reducible refine (spec_l20Open.calls _ _ l0 a6 b8 w _ ?side1 ?side2 ?side3 A2.out).mono ?_); (case side1 => repeat (with_reducible first | exact HB.out | apply yad | apply yac | apply yae | refine yab ?_ (Aside0.out ‹_›))); (case side2 => exact HR0.out); (case side3 => exact HC0.out); rintro e w10 ⟨g104, rfl, hi, hb, hb2⟩; refine ⟨_, rfl, ?_⟩; replace HB := yaa (hb); have a2 := yaa (hi); have a3 := yaa (IsS58.ne_blk hi (blk_below (upB a1.out) hb2) (by decide)); have a4 := yaa (Ne.symm (IsS58.ne_blk hi (blk_below (upB a1.out) hb2) (by decide))); replace a1 := yaa (blk_below (upB a1.out) hb2); (try clear hb hb2 hi)) | ((with_reducible refine gc_ 12 rfl ?_); refine gl_ (some 10) rfl Try.func12 #[.pointer (some ⟨g104, 0, none⟩)] ?_; (with_reducible refine (spec_l20Kind.calls k g104 a6 b8 d7 b9 w _ ?side1 ?side2 A3.out).mono ?_); (case side1 => repeat (with_reducible first | exact a2.out | apply IsS58.alloc | apply IsS58.drewN | apply IsS58.drew | apply IsS58.set_1 | refine IsS58.far ?_ a3.out _)); (case side2 => repeat (with_reducible first | exact HB.out | apply yad | apply yac | apply yae | refine yab ?_ (Aside0.out ‹_›) | refine yab ?_ (IsS58.ge a2.out))); rintro e w11 ⟨rfl, hi, hb, hk⟩; refine ⟨_, rfl, ?_⟩; replace a1 := yaa (KeepBut.blk hk (upB a1.out) a4.out (by simp)); replace HB := yaa (hb); replace a2 := yaa (hi); (try clear hb hk hi)) | ((with_reducible refine gc_ 13 rfl ?_); refine gl_ (some 12) rfl Try.func13 #[.pointer (some ⟨g104, 0, none⟩), .int .i64 12] ?_; (with_reducible refine (spec_l20Rd_odd.calls k g104 a6 b9 12 true c1 w _ ?side1 ?side2 A4.out).mono ?_); (case side1 => repeat (with_reducible first | exact a2.out | apply IsS58.alloc | apply IsS58.drewN | apply IsS58.drew | apply IsS58.set_1 | refine IsS58.far ?_ a3.out _)); (case side2 => repeat (with_reducible first | exact HB.out | apply yad | apply yac | apply yae | refine yab ?_ (Aside0.out ‹_›) | refine yab ?_ (IsS58.ge a2.out))); rintro e w12 ⟨rfl, hi, hb, hk⟩; refine ⟨_, rfl, ?_⟩; replace a1 := yaa (KeepBut.blk hk (upB a1.out) a4.out (by simp)); replace HB := yaa (hb); replace a2 := yaa (hi); (try clear hb hk hi)) | ((with_reducible refine gc_ 14 rfl ?_); refine gl_ (some 14) rfl Try.func14 #[.pointer (some ⟨g104, 0, none⟩), .int .i64 256] ?_; (with_reducible refine (spec_l20Rd_pick.calls k g104 a6 c1 256 f3 d8 w _ ?side1 ?side2 A6.out).mono ?_); (case side1 => repeat (with_reducible first | exact a2.out | apply IsS58.alloc | apply IsS58.drewN | apply IsS58.drew | apply IsS58.set_1 | refine IsS58.far ?_ a3.out _)); (case side2 => repeat (with_reducible first | exact HB.out | apply yad | apply yac | apply yae | refine yab ?_ (Aside0.out ‹_›) | refine yab ?_ (IsS58.ge a2.out))); rintro e w13 ⟨rfl, hi, hb, hk⟩; refine ⟨_, rfl, ?_⟩; replace a1 := yaa (KeepBut.blk hk (upB a1.out) a4.out (by simp)); replace HB := yaa (hb); replace a2 := yaa (hi); (try clear hb hk hi)) | ((with_reducible refine gc_ 15 rfl ?_); refine gl_ (some 18) rfl Try.func15 #[.pointer (some ⟨g104, 0, none⟩), .int .i64 10] ?_; (with_reducible refine (spec_l20Bytes.calls k g104 a6 d8 10 f4 d1 w _ ?side1 ?side2 A7.out).mono ?_); (case side1 => repeat (with_reducible first | exact a2.out | apply IsS58.alloc | apply IsS58.drewN | apply IsS58.drew | apply IsS58.set_1 | refine IsS58.far ?_ a3.out _)); (case side2 => repeat (with_reducible first | exact HB.out | apply yad | apply yac | apply yae | refine yab ?_ (Aside0.out ‹_›) | refine yab ?_ (IsS58.ge a2.out))); rintro e w14 ⟨g6, rfl, ho0, hi, hb, hk⟩; refine ⟨_, rfl, ?_⟩; replace a1 := yaa (KeepBut.blk hk (upB a1.out) a4.out (by simp)); have b5 := yaa (Kd.R_lower ho0 (below_size (by repeat (with_reducible first | exact HB.out | apply yad | apply yac | apply yae | refine yab ?_ (Aside0.out ‹_›) | refine yab ?_ (IsS58.ge a2.out))))); replace HB := yaa (hb); replace a2 := yaa (hi); (try clear hb hk hi ho0)) | ((with_reducible refine gc_ 16 rfl ?_); refine gl_ (some 20) rfl Try.func16 #[.pointer (some ⟨g104, 0, none⟩), .int .i64 9] ?_; (with_reducible refine (spec_l20Ras.calls k g104 a6 d1 9 a8 b3 c2 f5 w _ ?side1 ?side2 A8.out).mono ?_); (case side1 => repeat (with_reducible first | exact a2.out | apply IsS58.alloc | apply IsS58.drewN | apply IsS58.drew | apply IsS58.set_1 | refine IsS58.far ?_ a3.out _)); (case side2 => repeat (with_reducible first | exact HB.out | apply yad | apply yac | apply yae | refine yab ?_ (Aside0.out ‹_›) | refine yab ?_ (IsS58.ge a2.out))); rintro e w15 ⟨g7, rfl, ho0, hi, hb, hk⟩; refine ⟨_, rfl, ?_⟩; replace a1 := yaa (KeepBut.blk hk (upB a1.out) a4.out (by simp)); replace b5 := yaa (Kd.R_mono (Kd.R_keep (IsS58.apart (show IsS58 w _ g104 a6 d1 from by repeat (with_reducible first | exact a2.out | apply IsS58.alloc | apply IsS58.drewN | apply IsS58.drew | apply IsS58.set_1 | refine IsS58.far ?_ a3.out _)) (upR b5.out) (by decide)) hk (fun _ h => h.2)) (fun _ h => h.1)); have c9 := yaa (Kd.Q_lower ho0 (below_size (by repeat (with_reducible first | exact HB.out | apply yad | apply yac | apply yae | refine yab ?_ (Aside0.out ‹_›) | refine yab ?_ (IsS58.ge a2.out))))); replace HB := yaa (hb); replace a2 := yaa (hi); (try clear hb hk hi ho0); have g2 := a4.out; have g3 := a3.out; obtain ⟨e0, e1, e2⟩ := cc3_ a1.out; obtain ⟨e3, e4, e5⟩ := cf3_ a1.out; obtain ⟨d2, d3, f8, _⟩ := Kd.Q_slice c9.out; subst f8))
  refine bodyPost_ret (results_list (rs := [.tmp 2, .tmp 3, .cell 4 25]) rfl (by simp) (.tmp (.tmp (.cell a5 25 #[.int .i64 a8, .int .i64 b3, .slice d2 c2.length d3] (0, 0) _ rfl (by (repeat refine oneB ?_); refine blk_put (cs := #[.int .i64 a8, .int .i64 b3, .slice none 0 0]) ?_ 2 _ rfl; refine blk_put (cs := #[.int .i64 a8, .int .i64 0, .slice none 0 0]) ?_ 1 _ rfl; refine blk_put (cs := #[.int .i64 0, .int .i64 0, .slice none 0 0]) ?_ 0 _ rfl; exact upB a1.out) Try.underlying25 rfl (by kernel_rfl) .nil)))) rfl ?_
  exact ⟨_, _, by first | rfl | (simp [*, errW_none, errW_some] <;> rfl), by (with_reducible repeat (first | apply Kd.R_alloc | apply Kd.R_drewN | apply Kd.R_drew)); exact Kd.R_mono (Kd.R_far (p := ⟨a5, 2, none⟩) (Kd.R_far (p := ⟨a5, 1, none⟩) (Kd.R_far (p := ⟨a5, 0, none⟩) (Kd.R_types b5.out a1.out (by decide)) (fun _ hk => hk.2) (.int .i64 a8)) (fun _ hk => hk.2) (.int .i64 b3)) (fun _ hk => hk.2) (.slice d2 c2.length d3)) (fun _ hk => trivial), by (with_reducible repeat (first | apply Kd.Q_alloc | apply Kd.Q_drewN | apply Kd.Q_drew)); exact Kd.Q_mono (Kd.Q_far (p := ⟨a5, 2, none⟩) (Kd.Q_far (p := ⟨a5, 1, none⟩) (Kd.Q_far (p := ⟨a5, 0, none⟩) (Kd.Q_types c9.out a1.out (by decide)) (fun _ hk => hk.2) (.int .i64 a8)) (fun _ hk => hk.2) (.int .i64 b3)) (fun _ hk => hk.2) (.slice d2 c2.length d3)) (fun _ hk => trivial), by repeat (with_reducible first | exact HB.out | apply yad | apply yac | apply yae | refine yab ?_ (Aside0.out ‹_›) | refine yab ?_ (IsS58.ge a2.out))⟩
 ·
  replace c5 := Bool.eq_false_iff.mpr c5
  subst c5
  rw [if_neg (show ¬ (false = true) by decide)] at H
  obtain ⟨⟨f9, d4⟩, A19, H⟩ := bindA H; (try dsimp only at H); obtain ⟨⟨a9, b6, c3, g0⟩, A20, H⟩ := bindA H; (try dsimp only at H)
  simp only [Option.some.injEq, Prod.mk.injEq] at H
  obtain ⟨rfl, rfl, rfl, rfl, rfl⟩ := H
  go_enter Try.func4, Try.ntmps4
  go_wp2_with (first | ((with_reducible refine gd_ 4 rfl ?_); refine bx_ 4 rfl #[.int .i64 0, .int .i64 0, .slice none 0 0] 25 ?_; intro a5 hg w21 hbox hb; have a1 := yaa (hbox); have b4 := yaa ((by rw [hg]; exact (below_size (upH HB.out)) : w.heap.size ≤ a5)); replace HB := yaa (below_step (upH HB.out) hb); have d9 := b4; clear hb hbox hg) | ((with_reducible refine gc_ 11 rfl ?_); refine gl_ (some 8) rfl Try.func11 #[.slice A0 l0.length c0] ?_; (with_reducible refine (spec_l20Open.calls _ _ l0 a6 b8 w _ ?side1 ?side2 ?side3 A2.out).mono ?_); (case side1 => repeat (with_reducible first | exact HB.out | apply yad | apply yac | apply yae | refine yab ?_ (Aside0.out ‹_›))); (case side2 => exact HR0.out); (case side3 => exact HC0.out); rintro e w22 ⟨g104, rfl, hi, hb, hb2⟩; refine ⟨_, rfl, ?_⟩; replace HB := yaa (hb); have a2 := yaa (hi); have a3 := yaa (IsS58.ne_blk hi (blk_below (upB a1.out) hb2) (by decide)); have a4 := yaa (Ne.symm (IsS58.ne_blk hi (blk_below (upB a1.out) hb2) (by decide))); replace a1 := yaa (blk_below (upB a1.out) hb2); (try clear hb hb2 hi)) | ((with_reducible refine gc_ 12 rfl ?_); refine gl_ (some 10) rfl Try.func12 #[.pointer (some ⟨g104, 0, none⟩)] ?_; (with_reducible refine (spec_l20Kind.calls k g104 a6 b8 d7 b9 w _ ?side1 ?side2 A3.out).mono ?_); (case side1 => repeat (with_reducible first | exact a2.out | apply IsS58.alloc | apply IsS58.drewN | apply IsS58.drew | apply IsS58.set_1 | refine IsS58.far ?_ a3.out _)); (case side2 => repeat (with_reducible first | exact HB.out | apply yad | apply yac | apply yae | refine yab ?_ (Aside0.out ‹_›) | refine yab ?_ (IsS58.ge a2.out))); rintro e w23 ⟨rfl, hi, hb, hk⟩; refine ⟨_, rfl, ?_⟩; replace a1 := yaa (KeepBut.blk hk (upB a1.out) a4.out (by simp)); replace HB := yaa (hb); replace a2 := yaa (hi); (try clear hb hk hi)) | ((with_reducible refine gc_ 13 rfl ?_); refine gl_ (some 12) rfl Try.func13 #[.pointer (some ⟨g104, 0, none⟩), .int .i64 12] ?_; (with_reducible refine (spec_l20Rd_odd.calls k g104 a6 b9 12 false c1 w _ ?side1 ?side2 A4.out).mono ?_); (case side1 => repeat (with_reducible first | exact a2.out | apply IsS58.alloc | apply IsS58.drewN | apply IsS58.drew | apply IsS58.set_1 | refine IsS58.far ?_ a3.out _)); (case side2 => repeat (with_reducible first | exact HB.out | apply yad | apply yac | apply yae | refine yab ?_ (Aside0.out ‹_›) | refine yab ?_ (IsS58.ge a2.out))); rintro e w24 ⟨rfl, hi, hb, hk⟩; refine ⟨_, rfl, ?_⟩; replace a1 := yaa (KeepBut.blk hk (upB a1.out) a4.out (by simp)); replace HB := yaa (hb); replace a2 := yaa (hi); (try clear hb hk hi)) | ((with_reducible refine gc_ 15 rfl ?_); refine gl_ (some 18) rfl Try.func15 #[.pointer (some ⟨g104, 0, none⟩), .int .i64 10] ?_; (with_reducible refine (spec_l20Bytes.calls k g104 a6 c1 10 f9 d4 w _ ?side1 ?side2 A19.out).mono ?_); (case side1 => repeat (with_reducible first | exact a2.out | apply IsS58.alloc | apply IsS58.drewN | apply IsS58.drew | apply IsS58.set_1 | refine IsS58.far ?_ a3.out _)); (case side2 => repeat (with_reducible first | exact HB.out | apply yad | apply yac | apply yae | refine yab ?_ (Aside0.out ‹_›) | refine yab ?_ (IsS58.ge a2.out))); rintro e w25 ⟨g8, rfl, ho0, hi, hb, hk⟩; refine ⟨_, rfl, ?_⟩; replace a1 := yaa (KeepBut.blk hk (upB a1.out) a4.out (by simp)); have b7 := yaa (Kd.R_lower ho0 (below_size (by repeat (with_reducible first | exact HB.out | apply yad | apply yac | apply yae | refine yab ?_ (Aside0.out ‹_›) | refine yab ?_ (IsS58.ge a2.out))))); replace HB := yaa (hb); replace a2 := yaa (hi); (try clear hb hk hi ho0)) | ((with_reducible refine gc_ 16 rfl ?_); refine gl_ (some 20) rfl Try.func16 #[.pointer (some ⟨g104, 0, none⟩), .int .i64 9] ?_; (with_reducible refine (spec_l20Ras.calls k g104 a6 d4 9 a9 b6 c3 g0 w _ ?side1 ?side2 A20.out).mono ?_); (case side1 => repeat (with_reducible first | exact a2.out | apply IsS58.alloc | apply IsS58.drewN | apply IsS58.drew | apply IsS58.set_1 | refine IsS58.far ?_ a3.out _)); (case side2 => repeat (with_reducible first | exact HB.out | apply yad | apply yac | apply yae | refine yab ?_ (Aside0.out ‹_›) | refine yab ?_ (IsS58.ge a2.out))); rintro e w26 ⟨g9, rfl, ho0, hi, hb, hk⟩; refine ⟨_, rfl, ?_⟩; replace a1 := yaa (KeepBut.blk hk (upB a1.out) a4.out (by simp)); replace b7 := yaa (Kd.R_mono (Kd.R_keep (IsS58.apart (show IsS58 w _ g104 a6 d4 from by repeat (with_reducible first | exact a2.out | apply IsS58.alloc | apply IsS58.drewN | apply IsS58.drew | apply IsS58.set_1 | refine IsS58.far ?_ a3.out _)) (upR b7.out) (by decide)) hk (fun _ h => h.2)) (fun _ h => h.1)); have d0 := yaa (Kd.Q_lower ho0 (below_size (by repeat (with_reducible first | exact HB.out | apply yad | apply yac | apply yae | refine yab ?_ (Aside0.out ‹_›) | refine yab ?_ (IsS58.ge a2.out))))); replace HB := yaa (hb); replace a2 := yaa (hi); (try clear hb hk hi ho0); have g4 := a4.out; have g5 := a3.out; obtain ⟨e6, e7, e8⟩ := cc3_ a1.out; obtain ⟨e9, f0, f1⟩ := cf3_ a1.out; obtain ⟨d5, d6, g1, _⟩ := Kd.Q_slice d0.out; subst g1))
  refine bodyPost_ret (results_list (rs := [.tmp 2, .tmp 3, .cell 4 25]) rfl (by simp) (.tmp (.tmp (.cell a5 25 #[.int .i64 a9, .int .i64 b6, .slice d5 c3.length d6] (0, 0) _ rfl (by (repeat refine oneB ?_); refine blk_put (cs := #[.int .i64 a9, .int .i64 b6, .slice none 0 0]) ?_ 2 _ rfl; refine blk_put (cs := #[.int .i64 a9, .int .i64 0, .slice none 0 0]) ?_ 1 _ rfl; refine blk_put (cs := #[.int .i64 0, .int .i64 0, .slice none 0 0]) ?_ 0 _ rfl; exact upB a1.out) Try.underlying25 rfl (by kernel_rfl) .nil)))) rfl ?_
  exact ⟨_, _, by first | rfl | (simp [*, errW_none, errW_some] <;> rfl), by (with_reducible repeat (first | apply Kd.R_alloc | apply Kd.R_drewN | apply Kd.R_drew)); exact Kd.R_mono (Kd.R_far (p := ⟨a5, 2, none⟩) (Kd.R_far (p := ⟨a5, 1, none⟩) (Kd.R_far (p := ⟨a5, 0, none⟩) (Kd.R_types b7.out a1.out (by decide)) (fun _ hk => hk.2) (.int .i64 a9)) (fun _ hk => hk.2) (.int .i64 b6)) (fun _ hk => hk.2) (.slice d5 c3.length d6)) (fun _ hk => trivial), by (with_reducible repeat (first | apply Kd.Q_alloc | apply Kd.Q_drewN | apply Kd.Q_drew)); exact Kd.Q_mono (Kd.Q_far (p := ⟨a5, 2, none⟩) (Kd.Q_far (p := ⟨a5, 1, none⟩) (Kd.Q_far (p := ⟨a5, 0, none⟩) (Kd.Q_types d0.out a1.out (by decide)) (fun _ hk => hk.2) (.int .i64 a9)) (fun _ hk => hk.2) (.int .i64 b6)) (fun _ hk => hk.2) (.slice d5 c3.length d6)) (fun _ hk => trivial), by repeat (with_reducible first | exact HB.out | apply yad | apply yac | apply yae | refine yab ?_ (Aside0.out ‹_›) | refine yab ?_ (IsS58.ge a2.out))⟩
end
section
def impl_partOk.f (a0 : Int) : Option (Bool) := if a0 ≥ 0 then (some (decide (a0 ≤ 255))) else (some false)
set_option maxHeartbeats 8000000 in
set_option maxRecDepth 100000 in
theorem impl_partOk.calls (a0 : Int) (r : Bool) (w : World) (h : impl_partOk.f a0 = some r) :
    Calls Try.prog 31 #[.int .i64 a0] w fun e w' => e = .returned (.bool r) ∧ Drawn0 w w' := by
  have H : (if a0 ≥ 0 then (some (decide (a0 ≤ 255))) else (some false)) = some r := h; clear h
  by_cases c2 : a0 ≥ 0
  · rw [if_pos c2] at H
    have c2b0 : decide (0 ≤ a0) = true := decide_eq_true c2; clear c2; obtain rfl := Option.some.inj H
    go_enter Try.func31, Try.ntmps31
    go_wp2
    go_ret
    exact ⟨by first | rfl | (simp; done) | (simp [*]; done), by repeat (first | exact Drawn0.refl _ | apply Drawn0.step)⟩
  · rw [if_neg c2] at H
    have c2b0 : decide (0 ≤ a0) = false := decide_eq_false c2; clear c2; obtain rfl := Option.some.inj H
    go_enter Try.func31, Try.ntmps31
    go_wp2
    go_ret
    exact ⟨by first | rfl | (simp; done) | (simp [*]; done), by repeat (first | exact Drawn0.refl _ | apply Drawn0.step)⟩
end
section
def impl_PixOk.f (a0_0 : Int) (a0_1 : Int) (a0_2 : Int) (a0_3 : Int) : Option (Bool) := (impl_partOk.f a0_0).bind fun t102 => (if t102 = true then ((impl_partOk.f a0_1).bind fun t103 => (if t103 = true then ((impl_partOk.f a0_2).bind fun t104 => (if t104 = true then ((impl_partOk.f a0_3).bind fun t105 => (some t105)) else (some false))) else (some false))) else (some false))
set_option maxHeartbeats 8000000 in
set_option maxRecDepth 100000 in
theorem impl_PixOk.calls (a0_0 : Int) (a0_1 : Int) (a0_2 : Int) (a0_3 : Int) (r : Bool) (w : World) (h : impl_PixOk.f a0_0 a0_1 a0_2 a0_3 = some r) :
  Calls Try.prog 24 #[.agg #[.int .i64 a0_0, .int .i64 a0_1, .int .i64 a0_2, .int .i64 a0_3]] w fun e w' => e = .returned (.bool r) ∧ Below w.heap.size w w' := by
 have hu53 := Try.underlying53; have HB := Aside0.mk (Below.refl w.heap.size w); have H : ((impl_partOk.f a0_0).bind fun a4 => (if a4 = true then ((impl_partOk.f a0_1).bind fun a5 => (if a5 = true then ((impl_partOk.f a0_2).bind fun a6 => (if a6 = true then ((impl_partOk.f a0_3).bind fun a7 => (some a7)) else (some false))) else (some false))) else (some false))) = some r := h; clear h; obtain ⟨a4, A2, H⟩ := bindA H; (try dsimp only at H)
 by_cases c3 : a4 = true
 ·
  subst c3
  rw [if_pos rfl] at H
  obtain ⟨a5, A4, H⟩ := bindA H; (try dsimp only at H)
  by_cases c5 : a5 = true
  ·
   subst c5
   rw [if_pos rfl] at H
   obtain ⟨a6, A6, H⟩ := bindA H; (try dsimp only at H)
   by_cases c7 : a6 = true
   ·
    subst c7
    rw [if_pos rfl] at H
    obtain ⟨a7, A8, H⟩ := bindA H; (try dsimp only at H); obtain rfl := Option.some.inj H
    go_enter Try.func24, Try.ntmps24
    go_wp2_with (first | ((with_reducible refine gd_ 1 rfl ?_); refine bx_ 1 rfl #[.int .i64 a0_0, .int .i64 a0_1, .int .i64 a0_2, .int .i64 a0_3] 53 ?_; intro a1 hg w9 hbox hb; have a0 := Aside0.mk (hbox); have a2 := Aside0.mk ((by rw [hg]; exact (below_size (upH HB.out)) : w.heap.size ≤ a1)); replace HB := Aside0.mk (below_step (upH HB.out) hb); have a3 := a2; clear hb hbox hg; obtain ⟨b0, b1, b2, b3⟩ := cc4_ a0.out; obtain ⟨b4, b5, b6⟩ := cf3_ a0.out; have b7 := blk_frozen a0.out 3) | ((with_reducible refine gc_ 31 rfl ?_); refine gl_ (some 5) rfl Try.func31 #[.int .i64 a0_0] ?_; (with_reducible refine (impl_partOk.calls a0_0 true _ A2.out).mono ?_); rintro e w' ⟨rfl, ⟨nd, rfl⟩⟩; refine ⟨_, rfl, ?_⟩) | (go_at_call 31; (with_reducible refine (impl_partOk.calls a0_1 true _ A4.out).mono ?_); rintro e w' ⟨rfl, ⟨nd, rfl⟩⟩) | (go_at_call 31; (with_reducible refine (impl_partOk.calls a0_2 true _ A6.out).mono ?_); rintro e w' ⟨rfl, ⟨nd, rfl⟩⟩) | (go_at_call 31; (with_reducible refine (impl_partOk.calls a0_3 a7 _ A8.out).mono ?_); rintro e w' ⟨rfl, ⟨nd, rfl⟩⟩))
    go_ret
    exact ⟨by first | rfl | (simp [*, errW_none, errW_some] <;> rfl), by repeat (with_reducible first | exact HB.out | apply below_alloc | apply pw_below_drewN | apply below_drew1 | refine below_set ?_ (Aside0.out ‹_›))⟩
   ·
    replace c7 := Bool.eq_false_iff.mpr c7
    subst c7
    rw [if_neg (show ¬ (false = true) by decide)] at H
    obtain rfl := Option.some.inj H
    go_enter Try.func24, Try.ntmps24
    go_wp2_with (first | ((with_reducible refine gd_ 1 rfl ?_); refine bx_ 1 rfl #[.int .i64 a0_0, .int .i64 a0_1, .int .i64 a0_2, .int .i64 a0_3] 53 ?_; intro a1 hg w11 hbox hb; have a0 := Aside0.mk (hbox); have a2 := Aside0.mk ((by rw [hg]; exact (below_size (upH HB.out)) : w.heap.size ≤ a1)); replace HB := Aside0.mk (below_step (upH HB.out) hb); have a3 := a2; clear hb hbox hg; obtain ⟨b8, b9, c0, c1⟩ := cc4_ a0.out; obtain ⟨c2, c4, c6⟩ := cf3_ a0.out; have c8 := blk_frozen a0.out 3) | ((with_reducible refine gc_ 31 rfl ?_); refine gl_ (some 5) rfl Try.func31 #[.int .i64 a0_0] ?_; (with_reducible refine (impl_partOk.calls a0_0 true _ A2.out).mono ?_); rintro e w' ⟨rfl, ⟨nd, rfl⟩⟩; refine ⟨_, rfl, ?_⟩) | (go_at_call 31; (with_reducible refine (impl_partOk.calls a0_1 true _ A4.out).mono ?_); rintro e w' ⟨rfl, ⟨nd, rfl⟩⟩) | (go_at_call 31; (with_reducible refine (impl_partOk.calls a0_2 false _ A6.out).mono ?_); rintro e w' ⟨rfl, ⟨nd, rfl⟩⟩))
    go_ret
    exact ⟨by first | rfl | (simp [*, errW_none, errW_some] <;> rfl), by repeat (with_reducible first | exact HB.out | apply below_alloc | apply pw_below_drewN | apply below_drew1 | refine below_set ?_ (Aside0.out ‹_›))⟩
  ·
   replace c5 := Bool.eq_false_iff.mpr c5
   subst c5
   rw [if_neg (show ¬ (false = true) by decide)] at H
   obtain rfl := Option.some.inj H
   go_enter Try.func24, Try.ntmps24
   go_wp2_with (first | ((with_reducible refine gd_ 1 rfl ?_); refine bx_ 1 rfl #[.int .i64 a0_0, .int .i64 a0_1, .int .i64 a0_2, .int .i64 a0_3] 53 ?_; intro a1 hg w13 hbox hb; have a0 := Aside0.mk (hbox); have a2 := Aside0.mk ((by rw [hg]; exact (below_size (upH HB.out)) : w.heap.size ≤ a1)); replace HB := Aside0.mk (below_step (upH HB.out) hb); have a3 := a2; clear hb hbox hg; obtain ⟨c9, d0, d1, d2⟩ := cc4_ a0.out; obtain ⟨d3, d4, d5⟩ := cf3_ a0.out; have d6 := blk_frozen a0.out 3) | ((with_reducible refine gc_ 31 rfl ?_); refine gl_ (some 5) rfl Try.func31 #[.int .i64 a0_0] ?_; (with_reducible refine (impl_partOk.calls a0_0 true _ A2.out).mono ?_); rintro e w' ⟨rfl, ⟨nd, rfl⟩⟩; refine ⟨_, rfl, ?_⟩) | (go_at_call 31; (with_reducible refine (impl_partOk.calls a0_1 false _ A4.out).mono ?_); rintro e w' ⟨rfl, ⟨nd, rfl⟩⟩))
   go_ret
   exact ⟨by first | rfl | (simp [*, errW_none, errW_some] <;> rfl), by repeat (with_reducible first | exact HB.out | apply below_alloc | apply pw_below_drewN | apply below_drew1 | refine below_set ?_ (Aside0.out ‹_›))⟩
 ·
  replace c3 := Bool.eq_false_iff.mpr c3
  subst c3
  rw [if_neg (show ¬ (false = true) by decide)] at H
  obtain rfl := Option.some.inj H
  go_enter Try.func24, Try.ntmps24
  go_wp2_with (first | ((with_reducible refine gd_ 1 rfl ?_); refine bx_ 1 rfl #[.int .i64 a0_0, .int .i64 a0_1, .int .i64 a0_2, .int .i64 a0_3] 53 ?_; intro a1 hg w15 hbox hb; have a0 := Aside0.mk (hbox); have a2 := Aside0.mk ((by rw [hg]; exact (below_size (upH HB.out)) : w.heap.size ≤ a1)); replace HB := Aside0.mk (below_step (upH HB.out) hb); have a3 := a2; clear hb hbox hg; obtain ⟨d7, d8, d9, e0⟩ := cc4_ a0.out; obtain ⟨e1, e2, e3⟩ := cf3_ a0.out; have e4 := blk_frozen a0.out 3) | ((with_reducible refine gc_ 31 rfl ?_); refine gl_ (some 5) rfl Try.func31 #[.int .i64 a0_0] ?_; (with_reducible refine (impl_partOk.calls a0_0 false _ A2.out).mono ?_); rintro e w' ⟨rfl, ⟨nd, rfl⟩⟩; refine ⟨_, rfl, ?_⟩))
  go_ret
  exact ⟨by first | rfl | (simp [*, errW_none, errW_some] <;> rfl), by repeat (with_reducible first | exact HB.out | apply below_alloc | apply pw_below_drewN | apply below_drew1 | refine below_set ?_ (Aside0.out ‹_›))⟩
end
section
def impl_sizeOk.f (a0 : Int) : Option (Bool) := if a0 ≥ 1 then (some (decide (a0 ≤ 6))) else (some false)
set_option maxHeartbeats 8000000 in
set_option maxRecDepth 100000 in
theorem impl_sizeOk.calls (a0 : Int) (r : Bool) (w : World) (h : impl_sizeOk.f a0 = some r) :
    Calls Try.prog 27 #[.int .i64 a0] w fun e w' => e = .returned (.bool r) ∧ Drawn0 w w' := by
  have H : (if a0 ≥ 1 then (some (decide (a0 ≤ 6))) else (some false)) = some r := h; clear h
  by_cases c2 : a0 ≥ 1
  · rw [if_pos c2] at H
    have c2b0 : decide (1 ≤ a0) = true := decide_eq_true c2; clear c2; obtain rfl := Option.some.inj H
    go_enter Try.func27, Try.ntmps27
    go_wp2
    go_ret
    exact ⟨by first | rfl | (simp; done) | (simp [*]; done), by repeat (first | exact Drawn0.refl _ | apply Drawn0.step)⟩
  · rw [if_neg c2] at H
    have c2b0 : decide (1 ≤ a0) = false := decide_eq_false c2; clear c2; obtain rfl := Option.some.inj H
    go_enter Try.func27, Try.ntmps27
    go_wp2
    go_ret
    exact ⟨by first | rfl | (simp; done) | (simp [*]; done), by repeat (first | exact Drawn0.refl _ | apply Drawn0.step)⟩
end
section
open Go.Proofs.YtljobjpldbdhoaaW.PrintWords.Aside0 renaming mk → yaa
open Go.Proofs.YtljobjpldbdhoaaW.PrintWords renaming pw_below_drewN → yab, below_alloc → yac, below_drew1 → yad
open Go.Proofs.Ytljobjpldbdhoaa.X renaming rd_T53 → yae

mutual
def impl_RasOk.j0 : Nat → Bool → Int → Int → List (S53) → Option (Bool)
 | 0, _, _, _, _ => none
 | k + 1, x25, x102000, x102001, x102002 => if x25 = true then (some false) else (impl_RasOk.l0 k x102002 (x102002.length : Int) 0)
def impl_RasOk.l0 : Nat → List (S53) → Int → Int → Option (Bool)
 | 0, _, _, _ => none
 | k + 1, x27, x28, x29 => if x29 < x28 then (if 0 ≤ x29 then (if x29 < (x27.length : Int) then ((impl_PixOk.f ((rd_T53 x27 x29).f0) ((rd_T53 x27 x29).f1) ((rd_T53 x27 x29).f2) ((rd_T53 x27 x29).f3)).bind fun t106 => (if t106 = true then (impl_RasOk.l0 k x27 x28 (wrap64 (x29 + 1))) else (some false))) else (none)) else (none)) else (some true)
end
def impl_RasOk.f (k : Nat) (a0_0 : Int) (a0_1 : Int) (l0_2 : List (S53)) : Option (Bool) := (impl_sizeOk.f a0_0).bind fun t102 => (if t102 = true then ((impl_sizeOk.f a0_1).bind fun t103 => (if t103 = true then (impl_RasOk.j0 k ((l0_2.length : Int) != (wrap64 (a0_0 * a0_1))) a0_0 a0_1 l0_2) else (impl_RasOk.j0 k true a0_0 a0_1 l0_2))) else (impl_RasOk.j0 k true a0_0 a0_1 l0_2))
theorem impl_RasOk.mono_l : ∀ k, (∀ y0 y1 y2 y3, LeO (impl_RasOk.j0 k y0 y1 y2 y3) (impl_RasOk.j0 (k + 1) y0 y1 y2 y3)) ∧ (∀ y0 y1 y2, LeO (impl_RasOk.l0 k y0 y1 y2) (impl_RasOk.l0 (k + 1) y0 y1 y2))
 | 0 => ⟨fun _ _ _ _ r h => by simp [impl_RasOk.j0] at h, fun _ _ _ r h => by simp [impl_RasOk.l0] at h⟩
 | k + 1 => by
  obtain ⟨ih0, ih1⟩ := impl_RasOk.mono_l k
  refine ⟨?_, ?_⟩
  ·
   intro y0 y1 y2 y3
   unfold impl_RasOk.j0
   repeat' first | (with_reducible first | exact ih0 .. | exact ih1 .. | exact LeO.refl .. | exact LeO.none .. | refine LeO.ite ?_ ?_ | refine LeO.bind ?_ (fun _ => ?_)) | exact ih0 .. | exact ih1 .. | exact LeO.none .. | refine LeO.ite ?_ ?_ | refine LeO.bind ?_ (fun _ => ?_)
  ·
   intro y0 y1 y2
   unfold impl_RasOk.l0
   repeat' first | (with_reducible first | exact ih0 .. | exact ih1 .. | exact LeO.refl .. | exact LeO.none .. | refine LeO.ite ?_ ?_ | refine LeO.bind ?_ (fun _ => ?_)) | exact ih0 .. | exact ih1 .. | exact LeO.none .. | refine LeO.ite ?_ ?_ | refine LeO.bind ?_ (fun _ => ?_)
theorem impl_RasOk.mono : ∀ a0 a1 a2 k, LeO (impl_RasOk.f k a0 a1 a2) (impl_RasOk.f (k + 1) a0 a1 a2) := by
 intro a0 a1 a2 k
 obtain ⟨ih0, ih1⟩ := impl_RasOk.mono_l k
 unfold impl_RasOk.f
 repeat' first | (with_reducible first | exact ih0 .. | exact ih1 .. | exact LeO.refl .. | exact LeO.none .. | refine LeO.ite ?_ ?_ | refine LeO.bind ?_ (fun _ => ?_)) | exact ih0 .. | exact ih1 .. | exact LeO.none .. | refine LeO.ite ?_ ?_ | refine LeO.bind ?_ (fun _ => ?_)
set_option maxHeartbeats 8000000 in
set_option maxRecDepth 100000 in
theorem impl_RasOk.calls (k : Nat) (a0_0 : Int) (a0_1 : Int) (A0_2 : Option Addr) (c0_2 : Nat) (l0_2 : List (S53)) (r : Bool) (w : World) (hr0_2 : Kd.C k53 w A0_2 l0_2.length l0_2) (hc0_2 : l0_2.length ≤ c0_2) (h : impl_RasOk.f k a0_0 a0_1 l0_2 = some r) :
  Calls Try.prog 18 #[.agg #[.int .i64 a0_0, .int .i64 a0_1, .slice A0_2 l0_2.length c0_2]] w fun e w' => e = .returned (.bool r) ∧ Below w.heap.size w w' := by
 have hu25 := Try.underlying25; have hu53 := Try.underlying53; have HR0_2 := yaa hr0_2; have HC0_2 := yaa hc0_2; clear hr0_2 hc0_2; have HB := yaa (Below.refl w.heap.size w); have H : ((impl_sizeOk.f a0_0).bind fun e5 => (if e5 = true then ((impl_sizeOk.f a0_1).bind fun e6 => (if e6 = true then (impl_RasOk.j0 k ((l0_2.length : Int) != (wrap64 (a0_0 * a0_1))) a0_0 a0_1 l0_2) else (impl_RasOk.j0 k true a0_0 a0_1 l0_2))) else (impl_RasOk.j0 k true a0_0 a0_1 l0_2))) = some r := h; clear h; have HC2 := yaa H; clear H
 go_enter Try.func18, Try.ntmps18
 go_upto_region 1 with (first | ((with_reducible refine gd_ 1 rfl ?_); (try (refine gate_guard (by rfl) ?_; dsimp only)); refine bx_ 1 rfl #[.int .i64 a0_0, .int .i64 a0_1, .slice A0_2 l0_2.length c0_2] 25 ?_; intro b2 hg w3 hbox hb; have a4 := yaa (hbox); have e9 := yaa ((by rw [hg]; exact (below_size (upH HB.out)) : w.heap.size ≤ b2)); replace HB := yaa (below_step (upH HB.out) hb); have h4 := e9; clear hb hbox hg))
 (try simp only [Act.put, List.setIfInBounds_toArray, List.set_cons_zero, List.set_cons_succ])
 go_cut [25] (fun v25 wc => ∃ (kq : Nat) (b4 : Bool), v25 = .bool b4 ∧ Aside0 (impl_RasOk.j0 kq b4 a0_0 a0_1 l0_2 = some r) ∧ Aside0 (kq ≤ k) ∧ Aside0 (wc.heap[b2]? = some (.cells #[.int .i64 a0_0, .int .i64 a0_1, (.slice A0_2 l0_2.length c0_2)] 25 (0, 0))) ∧ Aside0 (Below w.heap.size w wc))
 case first =>
  have H := HC2.out; clear HC2; obtain ⟨e5, A4, H⟩ := bindA H; (try dsimp only at H)
  by_cases c5 : e5 = true
  ·
   subst c5
   rw [if_pos rfl] at H
   obtain ⟨e6, A6, H⟩ := bindA H; (try dsimp only at H)
   by_cases c7 : e6 = true
   ·
    subst c7
    rw [if_pos rfl] at H
    have H' := yaa H; clear H; obtain ⟨c3, c4, c6⟩ := cc3_ a4.out; obtain ⟨c8, c9, d0⟩ := cf3_ a4.out
    go_wp2_with (first | ((with_reducible refine gc_ 27 rfl ?_); refine gl_ (some 7) rfl Try.func27 #[.int .i64 a0_0] ?_; (with_reducible refine (impl_sizeOk.calls a0_0 true _ A4.out).mono ?_); rintro e w' ⟨rfl, ⟨nd, rfl⟩⟩; refine ⟨_, rfl, ?_⟩) | (go_at_call 27; (with_reducible refine (impl_sizeOk.calls a0_1 true _ A6.out).mono ?_); rintro e w' ⟨rfl, ⟨nd, rfl⟩⟩))
    go_meet
    case rel => exact ⟨_, (((l0_2.length : Int) != (wrap64 (a0_0 * a0_1)))), (by first | rfl | (simp; done) | (simp [*]; done)), H', ⟨by first | omega | exact Nat.le_refl _⟩, ⟨by exact upB a4.out⟩, ⟨by repeat (with_reducible first | exact HB.out | apply yac | apply yab | apply yad | refine below_set ?_ (Aside0.out ‹_›))⟩⟩
   ·
    replace c7 := Bool.eq_false_iff.mpr c7
    subst c7
    rw [if_neg (show ¬ (false = true) by decide)] at H
    have H' := yaa H; clear H; obtain ⟨d2, d3, d4⟩ := cc3_ a4.out; obtain ⟨d5, d6, d7⟩ := cf3_ a4.out
    go_wp2_with (first | ((with_reducible refine gc_ 27 rfl ?_); refine gl_ (some 7) rfl Try.func27 #[.int .i64 a0_0] ?_; (with_reducible refine (impl_sizeOk.calls a0_0 true _ A4.out).mono ?_); rintro e w' ⟨rfl, ⟨nd, rfl⟩⟩; refine ⟨_, rfl, ?_⟩) | (go_at_call 27; (with_reducible refine (impl_sizeOk.calls a0_1 false _ A6.out).mono ?_); rintro e w' ⟨rfl, ⟨nd, rfl⟩⟩))
    go_meet
    case rel => exact ⟨_, (true), (by first | rfl | (simp; done) | (simp [*]; done)), H', ⟨by first | omega | exact Nat.le_refl _⟩, ⟨by exact upB a4.out⟩, ⟨by repeat (with_reducible first | exact HB.out | apply yac | apply yab | apply yad | refine below_set ?_ (Aside0.out ‹_›))⟩⟩
  ·
   replace c5 := Bool.eq_false_iff.mpr c5
   subst c5
   rw [if_neg (show ¬ (false = true) by decide)] at H
   have H' := yaa H; clear H; obtain ⟨b5, b6, b7⟩ := cc3_ a4.out; obtain ⟨b8, b9, c0⟩ := cf3_ a4.out
   go_wp2_with (first | ((with_reducible refine gc_ 27 rfl ?_); refine gl_ (some 7) rfl Try.func27 #[.int .i64 a0_0] ?_; (with_reducible refine (impl_sizeOk.calls a0_0 false _ A4.out).mono ?_); rintro e w' ⟨rfl, ⟨nd, rfl⟩⟩; refine ⟨_, rfl, ?_⟩))
   go_meet
   case rel => exact ⟨_, (true), (by first | rfl | (simp; done) | (simp [*]; done)), H', ⟨by first | omega | exact Nat.le_refl _⟩, ⟨by exact upB a4.out⟩, ⟨by repeat (with_reducible first | exact HB.out | apply yac | apply yab | apply yad | refine below_set ?_ (Aside0.out ‹_›))⟩⟩
 case rest =>
  clear HC2; (try clear c1); (try clear c2); (try clear p2); (try clear c5); (try clear p6); (try clear c7); (try clear b5); (try clear b6); (try clear b7); (try clear c3); (try clear c4); (try clear c6); (try clear d2); (try clear d3); (try clear d4); (try clear b8); (try clear b9); (try clear c0); (try clear c8); (try clear c9); (try clear d0); (try clear d5); (try clear d6); (try clear d7); obtain ⟨kq, b4, rfl, HA, HJ1, a4, HB⟩ := hcut
  cases kq with
  | zero => exact absurd HA.out (by simp [impl_RasOk.j0])
  | succ kj1 =>
   have H := HA.out; clear HA
   simp only [impl_RasOk.j0] at H
   by_cases c11 : b4 = true
   ·
    subst c11
    rw [if_pos rfl] at H
    obtain rfl := Option.some.inj H
    go_wp2
    go_ret
    exact ⟨by first | rfl | (simp [*, errW_none, errW_some] <;> rfl), by repeat (with_reducible first | exact HB.out | apply yac | apply yab | apply yad | refine below_set ?_ (Aside0.out ‹_›))⟩
   ·
    replace c11 := Bool.eq_false_iff.mpr c11
    subst c11
    rw [if_neg (show ¬ (false = true) by decide)] at H
    have H' := yaa H; clear H; obtain ⟨d9, e0, e1⟩ := cc3_ a4.out; obtain ⟨e2, e3, e4⟩ := cf3_ a4.out
    go_wp2
    (try simp only [Act.put, List.setIfInBounds_toArray, List.set_cons_zero, List.set_cons_succ])
    go_loopg [29] kj1 (fun kq v29 w' => ∃ (a3 : Int), v29 = .int .i64 a3 ∧ Aside0 (impl_RasOk.l0 kq l0_2 (l0_2.length : Int) a3 = some r) ∧ Aside0 (kq ≤ kj1) ∧ Aside0 (w'.heap[b2]? = some (.cells #[.int .i64 a0_0, .int .i64 a0_1, (.slice A0_2 l0_2.length c0_2)] 25 (0, 0))) ∧ Aside0 (Below w.heap.size w w'))
    case atStart => exact ⟨(0), (by first | rfl | (simp; done) | (simp [*]; done)), H', ⟨Nat.le_refl _⟩, ⟨by exact upB a4.out⟩, ⟨by repeat (with_reducible first | exact HB.out | apply yac | apply yab | apply yad | refine below_set ?_ (Aside0.out ‹_›))⟩⟩
    case round =>
     clear H'; (try clear c1); (try clear c2); (try clear p2); (try clear c5); (try clear p6); (try clear c7); (try clear c11); (try clear b5); (try clear b6); (try clear b7); (try clear d9); (try clear e0); (try clear e1); (try clear c3); (try clear c4); (try clear c6); (try clear d2); (try clear d3); (try clear d4); (try clear b8); (try clear b9); (try clear c0); (try clear e2); (try clear e3); (try clear e4); (try clear c8); (try clear c9); (try clear d0); (try clear d5); (try clear d6); (try clear d7); (try clear p2); (try clear p6); obtain ⟨a3, rfl, HA, HK2, a4, HB⟩ := hrel
     cases gk with
     | zero => exact absurd HA.out (by simp [impl_RasOk.l0])
     | succ k2 =>
      have H := HA.out; clear HA
      simp only [impl_RasOk.l0] at H
      by_cases c13 : a3 < (l0_2.length : Int)
      ·
       rw [if_pos c13] at H
       have f4 : decide (a3 < (l0_2.length : Int)) = true := decide_eq_true c13; clear c13
       by_cases c14 : 0 ≤ a3
       ·
        rw [if_pos c14] at H
        replace c14 := decide_eq_true c14
        by_cases c15 : a3 < (l0_2.length : Int)
        ·
         rw [if_pos c15] at H
         replace c15 := decide_eq_true c15; obtain ⟨h2, A16, H⟩ := bindA H; (try dsimp only at H)
         by_cases c17 : h2 = true
         ·
          subst c17
          rw [if_pos rfl] at H
          have H' := yaa H; clear H; have p104 : 0 ≤ (a3 : Int) := of_decide_eq_true (by assumption); have q104 : a3 < (l0_2.length : Int) := of_decide_eq_true (by assumption); obtain ⟨ad104, e8, a7, a8, a9, b0⟩ := at_T53 HR0_2.out a3 p104 q104
          cases e8
          replace a7 := (upc_ HB.out a7 :); replace a8 := (upc_ HB.out a8 :); replace a9 := (upc_ HB.out a9 :); replace b0 := (upc_ HB.out b0 :); replace p104 := eq_true p104; replace q104 := eq_true q104
          go_wp2_with (first | ((with_reducible refine gd_ 4 rfl ?_); (try (refine gate_guard (by rfl) ?_; dsimp only)); refine bx_ 4 rfl #[.int .i64 0, .int .i64 0, .int .i64 0, .int .i64 0] 53 ?_; intro b3 hg w18 hbox hb; have a6 := yaa (hbox); have d8 := yaa ((by rw [hg]; exact (below_size (by repeat (with_reducible first | exact HB.out | apply yac | apply yab | apply yad | refine below_set ?_ (Aside0.out ‹_›)))) : w.heap.size ≤ b3)); replace HB := yaa (below_step (by repeat (with_reducible first | exact HB.out | apply yac | apply yab | apply yad | refine below_set ?_ (Aside0.out ‹_›))) hb); have f5 := d8; have a5 := yaa ((by rw [hg]; exact Nat.ne_of_lt (blk_lt (upB a4.out)) : b2 ≠ b3)); replace a4 := yaa (blk_below (upB a4.out) hb); have b1 := yaa a5.out.symm; clear hb hbox hg; have h5 := b1.out; have h6 := a5.out; obtain ⟨f6, f7, f8, f9⟩ := cc4_ a6.out; obtain ⟨g0, g1, g2⟩ := cf3_ a6.out; have g3 := blk_frozen a6.out 3) | ((with_reducible refine gc_ 24 rfl ?_); refine gl_ (some 34) rfl Try.func24 #[.agg #[.int .i64 ((yae l0_2 a3).f0), .int .i64 ((yae l0_2 a3).f1), .int .i64 ((yae l0_2 a3).f2), .int .i64 ((yae l0_2 a3).f3)]] ?_; (with_reducible refine (impl_PixOk.calls ((yae l0_2 a3).f0) ((yae l0_2 a3).f1) ((yae l0_2 a3).f2) ((yae l0_2 a3).f3) true _ A16.out).mono ?_); rintro e w21 ⟨rfl, hb⟩; refine ⟨_, rfl, ?_⟩; replace a4 := yaa (blk_below (g := b2) (o := .cells #[.int .i64 a0_0, .int .i64 a0_1, .slice (some ad104) l0_2.length c0_2] 25 (0, 0)) (by repeat (with_reducible first | exact a4.out | refine oneB ?_ | refine blk_far ?_ a5.out _)) hb); replace a6 := yaa (blk_below (g := b3) (o := .cells #[.int .i64 ((yae l0_2 a3).f0), .int .i64 ((yae l0_2 a3).f1), .int .i64 ((yae l0_2 a3).f2), .int .i64 ((yae l0_2 a3).f3)] 53 (0, 0)) (by (repeat refine oneB ?_); refine blk_put (cs := #[.int .i64 ((yae l0_2 a3).f0), .int .i64 ((yae l0_2 a3).f1), .int .i64 ((yae l0_2 a3).f2), .int .i64 0]) ?_ 3 _ rfl; refine blk_put (cs := #[.int .i64 ((yae l0_2 a3).f0), .int .i64 ((yae l0_2 a3).f1), .int .i64 0, .int .i64 0]) ?_ 2 _ rfl; refine blk_put (cs := #[.int .i64 ((yae l0_2 a3).f0), .int .i64 0, .int .i64 0, .int .i64 0]) ?_ 1 _ rfl; refine blk_put (cs := #[.int .i64 0, .int .i64 0, .int .i64 0, .int .i64 0]) ?_ 0 _ rfl; exact upB a6.out) hb); replace HB := yaa (below_step (by repeat (with_reducible first | exact HB.out | apply yac | apply yab | apply yad | refine below_set ?_ (Aside0.out ‹_›))) hb); (try clear hb)))
          go_roundg k2
          case measure => have := HJ1.out; have := HK2.out; omega
          case rel => exact ⟨(wrap64 (a3 + 1)), (by first | rfl | (simp; done) | (simp [*]; done)), H', ⟨by have := HJ1.out; have := HK2.out; omega⟩, ⟨by exact upB a4.out⟩, ⟨by repeat (with_reducible first | exact HB.out | apply yac | apply yab | apply yad | refine below_set ?_ (Aside0.out ‹_›))⟩⟩
         ·
          replace c17 := Bool.eq_false_iff.mpr c17
          subst c17
          rw [if_neg (show ¬ (false = true) by decide)] at H
          obtain rfl := Option.some.inj H; have p104 : 0 ≤ (a3 : Int) := of_decide_eq_true (by assumption); have q104 : a3 < (l0_2.length : Int) := of_decide_eq_true (by assumption); obtain ⟨ad104, e8, a7, a8, a9, b0⟩ := at_T53 HR0_2.out a3 p104 q104
          cases e8
          replace a7 := (upc_ HB.out a7 :); replace a8 := (upc_ HB.out a8 :); replace a9 := (upc_ HB.out a9 :); replace b0 := (upc_ HB.out b0 :); replace p104 := eq_true p104; replace q104 := eq_true q104
          go_wp2_with (first | ((with_reducible refine gd_ 4 rfl ?_); (try (refine gate_guard (by rfl) ?_; dsimp only)); refine bx_ 4 rfl #[.int .i64 0, .int .i64 0, .int .i64 0, .int .i64 0] 53 ?_; intro b3 hg w22 hbox hb; have a6 := yaa (hbox); have d8 := yaa ((by rw [hg]; exact (below_size (by repeat (with_reducible first | exact HB.out | apply yac | apply yab | apply yad | refine below_set ?_ (Aside0.out ‹_›)))) : w.heap.size ≤ b3)); replace HB := yaa (below_step (by repeat (with_reducible first | exact HB.out | apply yac | apply yab | apply yad | refine below_set ?_ (Aside0.out ‹_›))) hb); have f5 := d8; have a5 := yaa ((by rw [hg]; exact Nat.ne_of_lt (blk_lt (upB a4.out)) : b2 ≠ b3)); replace a4 := yaa (blk_below (upB a4.out) hb); have b1 := yaa a5.out.symm; clear hb hbox hg; have h7 := b1.out; have h8 := a5.out; obtain ⟨g4, g5, g6, g7⟩ := cc4_ a6.out; obtain ⟨g8, g9, h0⟩ := cf3_ a6.out; have h1 := blk_frozen a6.out 3) | ((with_reducible refine gc_ 24 rfl ?_); refine gl_ (some 34) rfl Try.func24 #[.agg #[.int .i64 ((yae l0_2 a3).f0), .int .i64 ((yae l0_2 a3).f1), .int .i64 ((yae l0_2 a3).f2), .int .i64 ((yae l0_2 a3).f3)]] ?_; (with_reducible refine (impl_PixOk.calls ((yae l0_2 a3).f0) ((yae l0_2 a3).f1) ((yae l0_2 a3).f2) ((yae l0_2 a3).f3) false _ A16.out).mono ?_); rintro e w25 ⟨rfl, hb⟩; refine ⟨_, rfl, ?_⟩; replace a4 := yaa (blk_below (g := b2) (o := .cells #[.int .i64 a0_0, .int .i64 a0_1, .slice (some ad104) l0_2.length c0_2] 25 (0, 0)) (by repeat (with_reducible first | exact a4.out | refine oneB ?_ | refine blk_far ?_ a5.out _)) hb); replace a6 := yaa (blk_below (g := b3) (o := .cells #[.int .i64 ((yae l0_2 a3).f0), .int .i64 ((yae l0_2 a3).f1), .int .i64 ((yae l0_2 a3).f2), .int .i64 ((yae l0_2 a3).f3)] 53 (0, 0)) (by (repeat refine oneB ?_); refine blk_put (cs := #[.int .i64 ((yae l0_2 a3).f0), .int .i64 ((yae l0_2 a3).f1), .int .i64 ((yae l0_2 a3).f2), .int .i64 0]) ?_ 3 _ rfl; refine blk_put (cs := #[.int .i64 ((yae l0_2 a3).f0), .int .i64 ((yae l0_2 a3).f1), .int .i64 0, .int .i64 0]) ?_ 2 _ rfl; refine blk_put (cs := #[.int .i64 ((yae l0_2 a3).f0), .int .i64 0, .int .i64 0, .int .i64 0]) ?_ 1 _ rfl; refine blk_put (cs := #[.int .i64 0, .int .i64 0, .int .i64 0, .int .i64 0]) ?_ 0 _ rfl; exact upB a6.out) hb); replace HB := yaa (below_step (by repeat (with_reducible first | exact HB.out | apply yac | apply yab | apply yad | refine below_set ?_ (Aside0.out ‹_›))) hb); (try clear hb)))
          go_ret
          exact ⟨by first | rfl | (simp [*, errW_none, errW_some] <;> rfl), by repeat (with_reducible first | exact HB.out | apply yac | apply yab | apply yad | refine below_set ?_ (Aside0.out ‹_›))⟩
        ·
         rw [if_neg c15] at H
         exact absurd H (by simp)
       ·
        rw [if_neg c14] at H
        exact absurd H (by simp)
      ·
       rw [if_neg c13] at H
       have f4 : decide (a3 < (l0_2.length : Int)) = false := decide_eq_false c13; clear c13; obtain rfl := Option.some.inj H
       go_wp2
       go_ret
       exact ⟨by first | rfl | (simp [*, errW_none, errW_some] <;> rfl), by repeat (with_reducible first | exact HB.out | apply yac | apply yab | apply yad | refine below_set ?_ (Aside0.out ‹_›))⟩
end
section
def impl_SumOf.l0 : Nat → Int → Int → List Int → Int → Int → Option (Int)
  | 0, _, _, _, _, _ => none
  | k + 1, x3, x4, x7, x8, x9 => if x9 < x8 then (if 0 ≤ x9 then (if x9 < (x7.length : Int) then (impl_SumOf.l0 k (Int.tmod (wrap64 (x3 + (wrap64 (rd x7 x9)))) 65521) (Int.tmod (wrap64 (x4 + (Int.tmod (wrap64 (x3 + (wrap64 (rd x7 x9)))) 65521))) 65521) x7 x8 (wrap64 (x9 + 1))) else (none)) else (none)) else (some (wrap64 ((wrap64 (x4 * 65536)) + x3)))
def impl_SumOf.f (k : Nat) (l0 : List Int) : Option (Int) := impl_SumOf.l0 k 1 0 l0 (l0.length : Int) 0
set_option maxHeartbeats 8000000 in
set_option maxRecDepth 100000 in
theorem impl_SumOf.calls (k : Nat) (A0 : Option Addr) (c0 : Nat) (l0 : List Int) (r : Int) (w : World) (hr0 : Kd.C (Kd.int .u8) w A0 l0.length l0) (hc0 : l0.length ≤ c0) (h : impl_SumOf.f k l0 = some r) :
    Calls Try.prog 28 #[.slice A0 l0.length c0] w fun e w' => e = .returned (.int .i64 r) ∧ Drawn0 w w' := by
  have HR0 := Aside0.mk hr0; have HC0 := Aside0.mk hc0; clear hr0 hc0; have H : (impl_SumOf.l0 k 1 0 l0 (l0.length : Int) 0) = some r := h; clear h; have H' := Aside0.mk H; clear H
  go_enter Try.func28, Try.ntmps28
  go_wp2
  (try simp only [Act.put, List.setIfInBounds_toArray, List.set_cons_zero, List.set_cons_succ])
  go_loopg [3, 4, 9] k (fun kq v3 v4 v9 w' => ∃ (x3_1 : Int) (x4_1 : Int) (x9_1 : Int), v3 = .int .i64 x3_1 ∧ v4 = .int .i64 x4_1 ∧ v9 = .int .i64 x9_1 ∧ Aside0 (impl_SumOf.l0 kq x3_1 x4_1 l0 (l0.length : Int) x9_1 = some r) ∧ Aside0 (kq ≤ k) ∧ Drawn0 w w')
  case atStart => exact ⟨(1), (0), (0), (by first | rfl | (simp; done) | (simp [*]; done)), (by first | rfl | (simp; done) | (simp [*]; done)), (by first | rfl | (simp; done) | (simp [*]; done)), H', ⟨Nat.le_refl _⟩, by repeat (first | exact Drawn0.refl _ | apply Drawn0.step)⟩
  case round =>
    clear H'; obtain ⟨x3_1, x4_1, x9_1, rfl, rfl, rfl, HA, HK1, ⟨m1, rfl⟩⟩ := hrel
    cases gk with
    | zero => exact absurd HA.out (by simp [impl_SumOf.l0])
    | succ k1 =>
      have H := HA.out; clear HA
      simp only [impl_SumOf.l0] at H
      by_cases c2 : x9_1 < (l0.length : Int)
      · rw [if_pos c2] at H
        have c2b0 : decide (x9_1 < (l0.length : Int)) = true := decide_eq_true c2; clear c2
        by_cases c3 : 0 ≤ x9_1
        · rw [if_pos c3] at H
          replace c3 := decide_eq_true c3
          by_cases c4 : x9_1 < (l0.length : Int)
          · rw [if_pos c4] at H
            replace c4 := decide_eq_true c4; have H' := Aside0.mk H; clear H; have p101 : 0 ≤ (x9_1 : Int) := of_decide_eq_true (by assumption); have q101 : x9_1 < (l0.length : Int) := of_decide_eq_true (by assumption); obtain ⟨ad101, e101, hx101_0⟩ := Kd.at_int HR0.out x9_1 p101 q101
            cases e101
            replace p101 := eq_true p101; replace q101 := eq_true q101
            go_wp2
            go_roundg k1
            case measure => have := HK1.out; omega
            case rel => exact ⟨(Int.tmod (wrap64 (x3_1 + (wrap64 (rd l0 x9_1)))) 65521), (Int.tmod (wrap64 (x4_1 + (Int.tmod (wrap64 (x3_1 + (wrap64 (rd l0 x9_1)))) 65521))) 65521), (wrap64 (x9_1 + 1)), (by first | rfl | (simp; done) | (simp [*]; done)), (by first | rfl | (simp; done) | (simp [*]; done)), (by first | rfl | (simp; done) | (simp [*]; done)), H', ⟨by have := HK1.out; omega⟩, by repeat (first | exact Drawn0.refl _ | apply Drawn0.step)⟩
          · rw [if_neg c4] at H
            exact absurd H (by simp)
        · rw [if_neg c3] at H
          exact absurd H (by simp)
      · rw [if_neg c2] at H
        have c2b0 : decide (x9_1 < (l0.length : Int)) = false := decide_eq_false c2; clear c2; obtain rfl := Option.some.inj H
        go_wp2
        go_ret
        exact ⟨by first | rfl | (simp; done) | (simp [*]; done), by repeat (first | exact Drawn0.refl _ | apply Drawn0.step)⟩
end
section
open Go.Proofs.YtljobjpldbdhoaaW.PrintWords.Aside0 renaming mk → yaa

def impl_pixBytes.f (l0 : List Int) (a1_0 : Int) (a1_1 : Int) (a1_2 : Int) (a1_3 : Int) : Option (List Int) := (some (([(a1_0) % 256, (a1_1) % 256, (a1_2) % 256, (a1_3) % 256] : List Int) : List Int)).bind fun y102 => (if l0.length + y102.length < 140737488355328 then (some (l0 ++ y102)) else (none))
set_option maxHeartbeats 8000000 in
set_option maxRecDepth 100000 in
theorem impl_pixBytes.calls (P0_ : Nat → Prop) (u9000_ : Value) (l0 : List Int) (a1_0 : Int) (a1_1 : Int) (a1_2 : Int) (a1_3 : Int) (r : List Int) (w0 w : World) (hB : Below w0.heap.size w0 w) (ho0 : Kd.R (Kd.int .u8) 5 w w0.heap.size P0_ u9000_ l0) (h : impl_pixBytes.f l0 a1_0 a1_1 a1_2 a1_3 = some r) :
  Calls Try.prog 89 #[u9000_, .agg #[.int .i64 a1_0, .int .i64 a1_1, .int .i64 a1_2, .int .i64 a1_3]] w fun e w' => ∃ v0_ : Value, e = .returned (v0_) ∧ Kd.R (Kd.int .u8) 5 w' w0.heap.size (fun k_ => (P0_ k_ ∨ w.heap.size ≤ k_)) v0_ r ∧ Below w0.heap.size w0 w' ∧ Kept w w' (fun k_ => P0_ k_) := by
 have hu53 := Try.underlying53; have HO0 := yaa (show Kd.R (Kd.int .u8) 5 w w0.heap.size (fun k_ => (P0_ k_ ∨ w.heap.size ≤ k_)) u9000_ l0 from Kd.R_mono ho0 (fun k_ hk => (.inl hk))); have HK := yaa (Kept.refl w (fun k_ => P0_ k_)); have HW0 := yaa hB.size; have HB := yaa hB; clear hB; have H : ((some (([(a1_0) % 256, (a1_1) % 256, (a1_2) % 256, (a1_3) % 256] : List Int) : List Int)).bind fun y102 => (if l0.length + y102.length < 140737488355328 then (some (l0 ++ y102)) else (none))) = some r := h; clear h; obtain ⟨y102, hy102, H⟩ := bindY H; (try dsimp only at H); have Ny102 := yaa hy102; clear hy102
 by_cases c3 : l0.length + y102.length < 140737488355328
 ·
  rw [if_pos c3] at H
  have LMc3 := yaa c3; clear c3; obtain ⟨y105, hy105⟩ : ∃ y_ : List Int, y_ = (l0 ++ y102) := ⟨_, rfl⟩
  replace H : (some y105) = some r := by first | (rw [hy105]; with_reducible exact H) | (have H2_ := (Option.bind_some _ _).symm.trans H; rw [hy105]; with_reducible exact H2_) | (have H2_ := (Option.bind_some _ _).symm.trans H; with_reducible exact H2_) | with_reducible exact H | (rw [hy105]; exact H) | exact H
  have Ny105 := yaa hy105; clear hy105; obtain rfl := Option.some.inj H
  go_enter Try.func89, Try.ntmps89
  go_wp2_with (first | ((with_reducible refine gd_ 3 rfl ?_); refine bx_ 3 rfl #[.int .i64 a1_0, .int .i64 a1_1, .int .i64 a1_2, .int .i64 a1_3] 53 ?_; intro a3 hg w4 hbox hb; replace HO0 := yaa (Kd.R_below (upR HO0.out) hb); have a0 := yaa (hbox); have a1 := yaa ((by rw [hg]; exact (by first | exact HK.out.1 | exact (show Kept w _ (fun k_ => P0_ k_) from by repeat (with_reducible first | exact HK.out | apply Kept.alloc | apply Kept.drewN | apply Kept.drew)).1) : w.heap.size ≤ a3)); replace HK := yaa (Kept.below (S := (fun k_ => P0_ k_)) (by repeat (with_reducible first | exact HK.out | apply Kept.alloc | apply Kept.drewN | apply Kept.drew)) hb); have b3 := yaa ((by rw [hg]; exact (below_size (upH HB.out)) : w0.heap.size ≤ a3)); replace HB := yaa (below_step (upH HB.out) hb); clear hb hbox hg; obtain ⟨a5, a6, a7, a8⟩ := cc4_ a0.out; obtain ⟨a9, b0, b1⟩ := cf3_ a0.out; have b2 := blk_frozen a0.out 3) | ((with_reducible refine gd_ 18 rfl ?_); refine Kd.R_lit (Kd.int .u8) _ 5 ?hg (N := 18) ?hd (xs := ([(a1_0) % 256, (a1_1) % 256, (a1_2) % 256, (a1_3) % 256] : List Int)) (inner := [.int .u8 ((a1_0) % 256), .int .u8 ((a1_1) % 256), .int .u8 ((a1_2) % 256), .int .u8 ((a1_3) % 256)]) (ok := fun _ => True) (okp := fun _ => True) ?hr ?hp (fun _ hk => hk) trivial (Below.refl _ _) (Nat.le_refl _) (by simp) ?_; (case hd => rfl); (case hg => rfl); (case hr => first | (go_simp; done) | (go_simp; rfl)); (case hp => exact (Reps.one (show Kd.M (Kd.int .u8) _ _ _ ((a1_0) % 256) [.int .u8 ((a1_0) % 256)] from rfl) (Reps.one (show Kd.M (Kd.int .u8) _ _ _ ((a1_1) % 256) [.int .u8 ((a1_1) % 256)] from rfl) (Reps.one (show Kd.M (Kd.int .u8) _ _ _ ((a1_2) % 256) [.int .u8 ((a1_2) % 256)] from rfl) (Reps.one (show Kd.M (Kd.int .u8) _ _ _ ((a1_3) % 256) [.int .u8 ((a1_3) % 256)] from rfl) (Reps.none _ _)))))); intro b6 w6 ho7 hb hg_ hnew_; clear hg_ hnew_; (first | rw [← Ny102.out] at ho7 | (simp only [Int.reduceToNat] at ho7; rw [← Ny102.out] at ho7)); have a2 := yaa (Kd.R_lower (Kd.R_new' (Kd.R_newM (M := fun k_ => (P0_ k_ ∨ w.heap.size ≤ k_)) ho7 (by first | exact HK.out.1 | exact (show Kept w _ (fun k_ => P0_ k_) from by repeat (with_reducible first | exact HK.out | apply Kept.alloc | apply Kept.drewN | apply Kept.drew | refine Kept.setCell ?_ (.inr a1.out) _)).1) (fun k_ h_ => .inr h_)) (Kd.R_lt (upR HO0.out))) (below_size (by repeat (with_reducible first | exact HB.out | apply below_alloc | apply pw_below_drewN | apply below_drew1 | refine below_set ?_ (Aside0.out ‹_›))))); replace HO0 := yaa (Kd.R_elder' (upR HO0.out) (Kd.R_base ho7) hb); replace a0 := yaa (blk_below (upB a0.out) hb); replace HK := yaa (Kept.below (S := (fun k_ => P0_ k_)) (by repeat (with_reducible first | exact HK.out | apply Kept.alloc | apply Kept.drewN | apply Kept.drew | refine Kept.setCell ?_ (.inr a1.out) _)) hb); replace HB := yaa (below_step (by repeat (with_reducible first | exact HB.out | apply below_alloc | apply pw_below_drewN | apply below_drew1 | refine below_set ?_ (Aside0.out ‹_›))) hb); clear hb ho7; obtain ⟨Ao9, co9, eo9⟩ := Kd.R_slice a2.out; subst eo9) | ((with_reducible refine gate_builtin (b := .append) (xs := #[.tmp 5, .tmp 18]) rfl ?_); at_builtin; refine Kd.R_append_rows (Kd.int .u8) (w0 := w0) w0.heap.size rfl (.tmp 5) (.tmp 18) 22 5 (.int .u8 0) 1 rfl Try.underlying22 info5 rfl (by decide) (by omega) u9000_ l0 y102 _ _ _ (fun k_ => (P0_ k_ ∨ w.heap.size ≤ k_) ∧ some k_ ≠ (.slice Ao9 y102.length co9 : Value).ownBlock) (fun _ => False) rfl rfl ?aO ?aR (fun _ _ h => h) (fun _ h => h.elim) ?aF ?aB ?aS ?aL ?_; (case aR => repeat (first | exact (Kd.R_reads' a2.out).2.2 | (with_reducible refine Kd.C_alloc ?_ _) | (with_reducible refine Kd.C_drewN ?_ _) | (with_reducible refine Kd.C_drew ?_))); (case aB => exact (by repeat (with_reducible first | exact HB.out | apply below_alloc | apply pw_below_drewN | apply below_drew1 | refine below_set ?_ (Aside0.out ‹_›)))); (case aF => exact (fun k_ hk => ⟨(.inr (Nat.le_trans (by first | exact HK.out.1 | exact (show Kept w _ (fun k_ => P0_ k_) from by repeat (with_reducible first | exact HK.out | apply Kept.alloc | apply Kept.drewN | apply Kept.drew | refine Kept.setCell ?_ (.inr a1.out) _)).1) hk)), Kd.fresh' (Kd.R_lt (upR a2.out)) k_ hk⟩)); (case aO => exact (upR HO0.out)); (case aS => exact (below_size (by repeat (with_reducible first | exact HB.out | apply below_alloc | apply pw_below_drewN | apply below_drew1 | refine below_set ?_ (Aside0.out ‹_›))))); (case aL => have := LMc3.out; omega); intro b7 w8 ho hb hg hat; rw [← Ny105.out] at ho; replace a0 := yaa (blk_grown (upB a0.out) hg (Kd.R_ne HO0.out a0.out (by decide))); replace a2 := yaa (Kd.R_after (ok := (fun k_ => (P0_ k_ ∨ w.heap.size ≤ k_))) (by (with_reducible repeat (first | apply Kd.R_alloc | apply Kd.R_drewN | apply Kd.R_drew)); exact Kd.R_mono a2.out (fun _ hk => ⟨hk.1.1, hk.2⟩)) hg hat); replace HB := yaa (hb); replace HK := yaa (Kept.of_grown (S := (fun k_ => P0_ k_)) hg (by repeat (with_reducible first | exact HK.out | apply Kept.alloc | apply Kept.drewN | apply Kept.drew | refine Kept.setCell ?_ (.inr a1.out) _)) (fun k_ e_ => (HO0.out.1 k_ e_).1)); have a4 := yaa (ho); clear HO0; clear ho hb hg hat))
  go_ret
  exact ⟨_, by first | rfl | (simp [*, errW_none, errW_some] <;> rfl), by (with_reducible repeat (first | apply Kd.R_alloc | apply Kd.R_drewN | apply Kd.R_drew)); exact Kd.R_mono a4.out (fun _ hk => hk.1), by repeat (with_reducible first | exact HB.out | apply below_alloc | apply pw_below_drewN | apply below_drew1 | refine below_set ?_ (Aside0.out ‹_›)), by repeat (with_reducible first | exact HK.out | apply Kept.alloc | apply Kept.drewN | apply Kept.drew | refine Kept.setCell ?_ (.inr a1.out) _)⟩
 ·
  rw [if_neg c3] at H
  exact absurd H (by simp)
end
section
def spec_l1In.f (a0 : Int) (a1 : Int) (a2 : Int) : Option (Bool) := if a0 ≥ a1 then (some (decide (a0 ≤ a2))) else (some false)
set_option maxHeartbeats 8000000 in
set_option maxRecDepth 100000 in
theorem spec_l1In.calls (a0 : Int) (a1 : Int) (a2 : Int) (r : Bool) (w : World) (h : spec_l1In.f a0 a1 a2 = some r) :
    Calls Try.prog 22 #[.int .i64 a0, .int .i64 a1, .int .i64 a2] w fun e w' => e = .returned (.bool r) ∧ Drawn0 w w' := by
  have H : (if a0 ≥ a1 then (some (decide (a0 ≤ a2))) else (some false)) = some r := h; clear h
  by_cases c4 : a0 ≥ a1
  · rw [if_pos c4] at H
    have c4b0 : decide (a1 ≤ a0) = true := decide_eq_true c4; clear c4; obtain rfl := Option.some.inj H
    go_enter Try.func22, Try.ntmps22
    go_wp2
    go_ret
    exact ⟨by first | rfl | (simp; done) | (simp [*]; done), by repeat (first | exact Drawn0.refl _ | apply Drawn0.step)⟩
  · rw [if_neg c4] at H
    have c4b0 : decide (a1 ≤ a0) = false := decide_eq_false c4; clear c4; obtain rfl := Option.some.inj H
    go_enter Try.func22, Try.ntmps22
    go_wp2
    go_ret
    exact ⟨by first | rfl | (simp; done) | (simp [*]; done), by repeat (first | exact Drawn0.refl _ | apply Drawn0.step)⟩
end
section
def spec_PixOk.f (a0_0 : Int) (a0_1 : Int) (a0_2 : Int) (a0_3 : Int) : Option (Bool) := (spec_l1In.f a0_0 0 255).bind fun t102 => (if t102 = true then ((spec_l1In.f a0_1 0 255).bind fun t103 => (if t103 = true then ((spec_l1In.f a0_2 0 255).bind fun t104 => (if t104 = true then ((spec_l1In.f a0_3 0 255).bind fun t105 => (some t105)) else (some false))) else (some false))) else (some false))
set_option maxHeartbeats 8000000 in
set_option maxRecDepth 100000 in
theorem spec_PixOk.calls (a0_0 : Int) (a0_1 : Int) (a0_2 : Int) (a0_3 : Int) (r : Bool) (w : World) (h : spec_PixOk.f a0_0 a0_1 a0_2 a0_3 = some r) :
  Calls Try.prog 23 #[.agg #[.int .i64 a0_0, .int .i64 a0_1, .int .i64 a0_2, .int .i64 a0_3]] w fun e w' => e = .returned (.bool r) ∧ Below w.heap.size w w' := by
 have hu53 := Try.underlying53; have HB := Aside0.mk (Below.refl w.heap.size w); have H : ((spec_l1In.f a0_0 0 255).bind fun a4 => (if a4 = true then ((spec_l1In.f a0_1 0 255).bind fun a5 => (if a5 = true then ((spec_l1In.f a0_2 0 255).bind fun a6 => (if a6 = true then ((spec_l1In.f a0_3 0 255).bind fun a7 => (some a7)) else (some false))) else (some false))) else (some false))) = some r := h; clear h; obtain ⟨a4, A2, H⟩ := bindA H; (try dsimp only at H)
 by_cases c3 : a4 = true
 ·
  subst c3
  rw [if_pos rfl] at H
  obtain ⟨a5, A4, H⟩ := bindA H; (try dsimp only at H)
  by_cases c5 : a5 = true
  ·
   subst c5
   rw [if_pos rfl] at H
   obtain ⟨a6, A6, H⟩ := bindA H; (try dsimp only at H)
   by_cases c7 : a6 = true
   ·
    subst c7
    rw [if_pos rfl] at H
    obtain ⟨a7, A8, H⟩ := bindA H; (try dsimp only at H); obtain rfl := Option.some.inj H
    go_enter Try.func23, Try.ntmps23
    go_wp2_with (first | ((with_reducible refine gd_ 1 rfl ?_); refine bx_ 1 rfl #[.int .i64 a0_0, .int .i64 a0_1, .int .i64 a0_2, .int .i64 a0_3] 53 ?_; intro a1 hg w9 hbox hb; have a0 := Aside0.mk (hbox); have a2 := Aside0.mk ((by rw [hg]; exact (below_size (upH HB.out)) : w.heap.size ≤ a1)); replace HB := Aside0.mk (below_step (upH HB.out) hb); have a3 := a2; clear hb hbox hg; obtain ⟨b0, b1, b2, b3⟩ := cc4_ a0.out; obtain ⟨b4, b5, b6⟩ := cf3_ a0.out; have b7 := blk_frozen a0.out 3) | ((with_reducible refine gc_ 22 rfl ?_); refine gl_ (some 5) rfl Try.func22 #[.int .i64 a0_0, .int .i64 0, .int .i64 255] ?_; (with_reducible refine (spec_l1In.calls a0_0 0 255 true _ A2.out).mono ?_); rintro e w' ⟨rfl, ⟨nd, rfl⟩⟩; refine ⟨_, rfl, ?_⟩) | (go_at_call 22; (with_reducible refine (spec_l1In.calls a0_1 0 255 true _ A4.out).mono ?_); rintro e w' ⟨rfl, ⟨nd, rfl⟩⟩) | (go_at_call 22; (with_reducible refine (spec_l1In.calls a0_2 0 255 true _ A6.out).mono ?_); rintro e w' ⟨rfl, ⟨nd, rfl⟩⟩) | (go_at_call 22; (with_reducible refine (spec_l1In.calls a0_3 0 255 a7 _ A8.out).mono ?_); rintro e w' ⟨rfl, ⟨nd, rfl⟩⟩))
    go_ret
    exact ⟨by first | rfl | (simp [*, errW_none, errW_some] <;> rfl), by repeat (with_reducible first | exact HB.out | apply below_alloc | apply pw_below_drewN | apply below_drew1 | refine below_set ?_ (Aside0.out ‹_›))⟩
   ·
    replace c7 := Bool.eq_false_iff.mpr c7
    subst c7
    rw [if_neg (show ¬ (false = true) by decide)] at H
    obtain rfl := Option.some.inj H
    go_enter Try.func23, Try.ntmps23
    go_wp2_with (first | ((with_reducible refine gd_ 1 rfl ?_); refine bx_ 1 rfl #[.int .i64 a0_0, .int .i64 a0_1, .int .i64 a0_2, .int .i64 a0_3] 53 ?_; intro a1 hg w11 hbox hb; have a0 := Aside0.mk (hbox); have a2 := Aside0.mk ((by rw [hg]; exact (below_size (upH HB.out)) : w.heap.size ≤ a1)); replace HB := Aside0.mk (below_step (upH HB.out) hb); have a3 := a2; clear hb hbox hg; obtain ⟨b8, b9, c0, c1⟩ := cc4_ a0.out; obtain ⟨c2, c4, c6⟩ := cf3_ a0.out; have c8 := blk_frozen a0.out 3) | ((with_reducible refine gc_ 22 rfl ?_); refine gl_ (some 5) rfl Try.func22 #[.int .i64 a0_0, .int .i64 0, .int .i64 255] ?_; (with_reducible refine (spec_l1In.calls a0_0 0 255 true _ A2.out).mono ?_); rintro e w' ⟨rfl, ⟨nd, rfl⟩⟩; refine ⟨_, rfl, ?_⟩) | (go_at_call 22; (with_reducible refine (spec_l1In.calls a0_1 0 255 true _ A4.out).mono ?_); rintro e w' ⟨rfl, ⟨nd, rfl⟩⟩) | (go_at_call 22; (with_reducible refine (spec_l1In.calls a0_2 0 255 false _ A6.out).mono ?_); rintro e w' ⟨rfl, ⟨nd, rfl⟩⟩))
    go_ret
    exact ⟨by first | rfl | (simp [*, errW_none, errW_some] <;> rfl), by repeat (with_reducible first | exact HB.out | apply below_alloc | apply pw_below_drewN | apply below_drew1 | refine below_set ?_ (Aside0.out ‹_›))⟩
  ·
   replace c5 := Bool.eq_false_iff.mpr c5
   subst c5
   rw [if_neg (show ¬ (false = true) by decide)] at H
   obtain rfl := Option.some.inj H
   go_enter Try.func23, Try.ntmps23
   go_wp2_with (first | ((with_reducible refine gd_ 1 rfl ?_); refine bx_ 1 rfl #[.int .i64 a0_0, .int .i64 a0_1, .int .i64 a0_2, .int .i64 a0_3] 53 ?_; intro a1 hg w13 hbox hb; have a0 := Aside0.mk (hbox); have a2 := Aside0.mk ((by rw [hg]; exact (below_size (upH HB.out)) : w.heap.size ≤ a1)); replace HB := Aside0.mk (below_step (upH HB.out) hb); have a3 := a2; clear hb hbox hg; obtain ⟨c9, d0, d1, d2⟩ := cc4_ a0.out; obtain ⟨d3, d4, d5⟩ := cf3_ a0.out; have d6 := blk_frozen a0.out 3) | ((with_reducible refine gc_ 22 rfl ?_); refine gl_ (some 5) rfl Try.func22 #[.int .i64 a0_0, .int .i64 0, .int .i64 255] ?_; (with_reducible refine (spec_l1In.calls a0_0 0 255 true _ A2.out).mono ?_); rintro e w' ⟨rfl, ⟨nd, rfl⟩⟩; refine ⟨_, rfl, ?_⟩) | (go_at_call 22; (with_reducible refine (spec_l1In.calls a0_1 0 255 false _ A4.out).mono ?_); rintro e w' ⟨rfl, ⟨nd, rfl⟩⟩))
   go_ret
   exact ⟨by first | rfl | (simp [*, errW_none, errW_some] <;> rfl), by repeat (with_reducible first | exact HB.out | apply below_alloc | apply pw_below_drewN | apply below_drew1 | refine below_set ?_ (Aside0.out ‹_›))⟩
 ·
  replace c3 := Bool.eq_false_iff.mpr c3
  subst c3
  rw [if_neg (show ¬ (false = true) by decide)] at H
  obtain rfl := Option.some.inj H
  go_enter Try.func23, Try.ntmps23
  go_wp2_with (first | ((with_reducible refine gd_ 1 rfl ?_); refine bx_ 1 rfl #[.int .i64 a0_0, .int .i64 a0_1, .int .i64 a0_2, .int .i64 a0_3] 53 ?_; intro a1 hg w15 hbox hb; have a0 := Aside0.mk (hbox); have a2 := Aside0.mk ((by rw [hg]; exact (below_size (upH HB.out)) : w.heap.size ≤ a1)); replace HB := Aside0.mk (below_step (upH HB.out) hb); have a3 := a2; clear hb hbox hg; obtain ⟨d7, d8, d9, e0⟩ := cc4_ a0.out; obtain ⟨e1, e2, e3⟩ := cf3_ a0.out; have e4 := blk_frozen a0.out 3) | ((with_reducible refine gc_ 22 rfl ?_); refine gl_ (some 5) rfl Try.func22 #[.int .i64 a0_0, .int .i64 0, .int .i64 255] ?_; (with_reducible refine (spec_l1In.calls a0_0 0 255 false _ A2.out).mono ?_); rintro e w' ⟨rfl, ⟨nd, rfl⟩⟩; refine ⟨_, rfl, ?_⟩))
  go_ret
  exact ⟨by first | rfl | (simp [*, errW_none, errW_some] <;> rfl), by repeat (with_reducible first | exact HB.out | apply below_alloc | apply pw_below_drewN | apply below_drew1 | refine below_set ?_ (Aside0.out ‹_›))⟩
end
section
open Go.Proofs.YtljobjpldbdhoaaW.PrintWords renaming pw_below_drewN → yaa

mutual
def spec_RasOk.j0 : Nat → Bool → Int → Int → List (S53) → Option (Bool)
 | 0, _, _, _, _ => none
 | k + 1, x24, x102000, x102001, x102002 => if x24 = true then (some false) else (spec_RasOk.l0 k 0 x102000 x102001 x102002)
def spec_RasOk.l0 : Nat → Int → Int → Int → List (S53) → Option (Bool)
 | 0, _, _, _, _ => none
 | k + 1, x3, x102000, x102001, x102002 => if x3 < (x102002.length : Int) then (if 0 ≤ x3 then ((spec_PixOk.f ((rd_T53 x102002 x3).f0) ((rd_T53 x102002 x3).f1) ((rd_T53 x102002 x3).f2) ((rd_T53 x102002 x3).f3)).bind fun t105 => (if t105 = true then (spec_RasOk.l0 k (wrap64 (x3 + 1)) x102000 x102001 x102002) else (some false))) else (none)) else (some true)
end
def spec_RasOk.f (k : Nat) (a0_0 : Int) (a0_1 : Int) (l0_2 : List (S53)) : Option (Bool) := (spec_l1In.f a0_0 1 6).bind fun t102 => (if t102 = true then ((spec_l1In.f a0_1 1 6).bind fun t103 => (if t103 = true then (spec_RasOk.j0 k ((l0_2.length : Int) != (wrap64 (a0_0 * a0_1))) a0_0 a0_1 l0_2) else (spec_RasOk.j0 k true a0_0 a0_1 l0_2))) else (spec_RasOk.j0 k true a0_0 a0_1 l0_2))
set_option maxHeartbeats 8000000 in
set_option maxRecDepth 100000 in
theorem spec_RasOk.calls (k : Nat) (a0_0 : Int) (a0_1 : Int) (A0_2 : Option Addr) (c0_2 : Nat) (l0_2 : List (S53)) (r : Bool) (w : World) (hr0_2 : Kd.C k53 w A0_2 l0_2.length l0_2) (hc0_2 : l0_2.length ≤ c0_2) (h : spec_RasOk.f k a0_0 a0_1 l0_2 = some r) :
  Calls Try.prog 8 #[.agg #[.int .i64 a0_0, .int .i64 a0_1, .slice A0_2 l0_2.length c0_2]] w fun e w' => e = .returned (.bool r) ∧ Below w.heap.size w w' := by
 have hu25 := Try.underlying25; have hu53 := Try.underlying53; have HR0_2 := Aside0.mk hr0_2; have HC0_2 := Aside0.mk hc0_2; clear hr0_2 hc0_2; have HB := Aside0.mk (Below.refl w.heap.size w); have H : ((spec_l1In.f a0_0 1 6).bind fun d6 => (if d6 = true then ((spec_l1In.f a0_1 1 6).bind fun d7 => (if d7 = true then (spec_RasOk.j0 k ((l0_2.length : Int) != (wrap64 (a0_0 * a0_1))) a0_0 a0_1 l0_2) else (spec_RasOk.j0 k true a0_0 a0_1 l0_2))) else (spec_RasOk.j0 k true a0_0 a0_1 l0_2))) = some r := h; clear h; have HC2 := Aside0.mk H; clear H
 go_enter Try.func8, Try.ntmps8
 go_upto_region 1 with (first | ((with_reducible refine gd_ 1 rfl ?_); (try (refine gate_guard (by rfl) ?_; dsimp only)); refine bx_ 1 rfl #[.int .i64 a0_0, .int .i64 a0_1, .slice A0_2 l0_2.length c0_2] 25 ?_; intro b6 hg w3 hbox hb; have a3 := Aside0.mk (hbox); have d9 := Aside0.mk ((by rw [hg]; exact (below_size (upH HB.out)) : w.heap.size ≤ b6)); replace HB := Aside0.mk (below_step (upH HB.out) hb); have g4 := d9; clear hb hbox hg))
 (try simp only [Act.put, List.setIfInBounds_toArray, List.set_cons_zero, List.set_cons_succ])
 go_cut [24] (fun v24 wc => ∃ (kq : Nat) (a9 : Bool), v24 = .bool a9 ∧ Aside0 (spec_RasOk.j0 kq a9 a0_0 a0_1 l0_2 = some r) ∧ Aside0 (kq ≤ k) ∧ Aside0 (wc.heap[b6]? = some (.cells #[.int .i64 a0_0, .int .i64 a0_1, (.slice A0_2 l0_2.length c0_2)] 25 (0, 0))) ∧ Aside0 (Below w.heap.size w wc))
 case first =>
  have H := HC2.out; clear HC2; obtain ⟨d6, A4, H⟩ := bindA H; (try dsimp only at H)
  by_cases c5 : d6 = true
  ·
   subst c5
   rw [if_pos rfl] at H
   obtain ⟨d7, A6, H⟩ := bindA H; (try dsimp only at H)
   by_cases c7 : d7 = true
   ·
    subst c7
    rw [if_pos rfl] at H
    have H' := Aside0.mk H; clear H; obtain ⟨b7, b8, b9⟩ := cc3_ a3.out; obtain ⟨c3, c4, c6⟩ := cf3_ a3.out
    go_wp2_with (first | ((with_reducible refine gc_ 22 rfl ?_); refine gl_ (some 6) rfl Try.func22 #[.int .i64 a0_0, .int .i64 1, .int .i64 6] ?_; (with_reducible refine (spec_l1In.calls a0_0 1 6 true _ A4.out).mono ?_); rintro e w' ⟨rfl, ⟨nd, rfl⟩⟩; refine ⟨_, rfl, ?_⟩) | (go_at_call 22; (with_reducible refine (spec_l1In.calls a0_1 1 6 true _ A6.out).mono ?_); rintro e w' ⟨rfl, ⟨nd, rfl⟩⟩))
    go_meet
    case rel => exact ⟨_, (((l0_2.length : Int) != (wrap64 (a0_0 * a0_1)))), (by first | rfl | (simp; done) | (simp [*]; done)), H', ⟨by first | omega | exact Nat.le_refl _⟩, ⟨by exact upB a3.out⟩, ⟨by repeat (with_reducible first | exact HB.out | apply below_alloc | apply yaa | apply below_drew1 | refine below_set ?_ (Aside0.out ‹_›))⟩⟩
   ·
    replace c7 := Bool.eq_false_iff.mpr c7
    subst c7
    rw [if_neg (show ¬ (false = true) by decide)] at H
    have H' := Aside0.mk H; clear H; obtain ⟨d0, d1, d2⟩ := cc3_ a3.out; obtain ⟨d3, d4, d5⟩ := cf3_ a3.out
    go_wp2_with (first | ((with_reducible refine gc_ 22 rfl ?_); refine gl_ (some 6) rfl Try.func22 #[.int .i64 a0_0, .int .i64 1, .int .i64 6] ?_; (with_reducible refine (spec_l1In.calls a0_0 1 6 true _ A4.out).mono ?_); rintro e w' ⟨rfl, ⟨nd, rfl⟩⟩; refine ⟨_, rfl, ?_⟩) | (go_at_call 22; (with_reducible refine (spec_l1In.calls a0_1 1 6 false _ A6.out).mono ?_); rintro e w' ⟨rfl, ⟨nd, rfl⟩⟩))
    go_meet
    case rel => exact ⟨_, (true), (by first | rfl | (simp; done) | (simp [*]; done)), H', ⟨by first | omega | exact Nat.le_refl _⟩, ⟨by exact upB a3.out⟩, ⟨by repeat (with_reducible first | exact HB.out | apply below_alloc | apply yaa | apply below_drew1 | refine below_set ?_ (Aside0.out ‹_›))⟩⟩
  ·
   replace c5 := Bool.eq_false_iff.mpr c5
   subst c5
   rw [if_neg (show ¬ (false = true) by decide)] at H
   have H' := Aside0.mk H; clear H; obtain ⟨b0, b1, b2⟩ := cc3_ a3.out; obtain ⟨b3, b4, b5⟩ := cf3_ a3.out
   go_wp2_with (first | ((with_reducible refine gc_ 22 rfl ?_); refine gl_ (some 6) rfl Try.func22 #[.int .i64 a0_0, .int .i64 1, .int .i64 6] ?_; (with_reducible refine (spec_l1In.calls a0_0 1 6 false _ A4.out).mono ?_); rintro e w' ⟨rfl, ⟨nd, rfl⟩⟩; refine ⟨_, rfl, ?_⟩))
   go_meet
   case rel => exact ⟨_, (true), (by first | rfl | (simp; done) | (simp [*]; done)), H', ⟨by first | omega | exact Nat.le_refl _⟩, ⟨by exact upB a3.out⟩, ⟨by repeat (with_reducible first | exact HB.out | apply below_alloc | apply yaa | apply below_drew1 | refine below_set ?_ (Aside0.out ‹_›))⟩⟩
 case rest =>
  clear HC2; (try clear c2); (try clear p2); (try clear c5); (try clear p6); (try clear c7); (try clear c8); (try clear b0); (try clear b1); (try clear b2); (try clear b7); (try clear b8); (try clear b9); (try clear d0); (try clear d1); (try clear d2); (try clear b3); (try clear b4); (try clear b5); (try clear c3); (try clear c4); (try clear c6); (try clear d3); (try clear d4); (try clear d5); obtain ⟨kq, a9, rfl, HA, HJ1, a3, HB⟩ := hcut
  cases kq with
  | zero => exact absurd HA.out (by simp [spec_RasOk.j0])
  | succ kj1 =>
   have H := HA.out; clear HA
   simp only [spec_RasOk.j0] at H
   by_cases c11 : a9 = true
   ·
    subst c11
    rw [if_pos rfl] at H
    obtain rfl := Option.some.inj H
    go_wp2
    go_ret
    exact ⟨by first | rfl | (simp [*, errW_none, errW_some] <;> rfl), by repeat (with_reducible first | exact HB.out | apply below_alloc | apply yaa | apply below_drew1 | refine below_set ?_ (Aside0.out ‹_›))⟩
   ·
    replace c11 := Bool.eq_false_iff.mpr c11
    subst c11
    rw [if_neg (show ¬ (false = true) by decide)] at H
    have H' := Aside0.mk H; clear H
    go_wp2
    (try simp only [Act.put, List.setIfInBounds_toArray, List.set_cons_zero, List.set_cons_succ])
    go_loopg [3] kj1 (fun kq v3 w' => ∃ (a4 : Int), v3 = .int .i64 a4 ∧ Aside0 (spec_RasOk.l0 kq a4 a0_0 a0_1 l0_2 = some r) ∧ Aside0 (kq ≤ kj1) ∧ Aside0 (w'.heap[b6]? = some (.cells #[.int .i64 a0_0, .int .i64 a0_1, (.slice A0_2 l0_2.length c0_2)] 25 (0, 0))) ∧ Aside0 (Below w.heap.size w w'))
    case atStart => exact ⟨(0), (by first | rfl | (simp; done) | (simp [*]; done)), H', ⟨Nat.le_refl _⟩, ⟨by exact upB a3.out⟩, ⟨by repeat (with_reducible first | exact HB.out | apply below_alloc | apply yaa | apply below_drew1 | refine below_set ?_ (Aside0.out ‹_›))⟩⟩
    case round =>
     clear H'; (try clear c1); (try clear c2); (try clear p2); (try clear c5); (try clear p6); (try clear c7); (try clear c8); (try clear c11); (try clear b0); (try clear b1); (try clear b2); (try clear b7); (try clear b8); (try clear b9); (try clear d0); (try clear d1); (try clear d2); (try clear b3); (try clear b4); (try clear b5); (try clear c3); (try clear c4); (try clear c6); (try clear d3); (try clear d4); (try clear d5); (try clear p2); (try clear p6); obtain ⟨a4, rfl, HA, HK2, a3, HB⟩ := hrel
     cases gk with
     | zero => exact absurd HA.out (by simp [spec_RasOk.l0])
     | succ k2 =>
      have H := HA.out; clear HA
      simp only [spec_RasOk.l0] at H
      by_cases c12 : a4 < (l0_2.length : Int)
      ·
       rw [if_pos c12] at H
       have e0 : decide (a4 < (l0_2.length : Int)) = true := decide_eq_true c12; clear c12
       by_cases c13 : 0 ≤ a4
       ·
        rw [if_pos c13] at H
        replace c13 := decide_eq_true c13; obtain ⟨g3, A14, H⟩ := bindA H; (try dsimp only at H)
        by_cases c15 : g3 = true
        ·
         subst c15
         rw [if_pos rfl] at H
         have H' := Aside0.mk H; clear H; obtain ⟨e1, e2, e3⟩ := cc3_ a3.out; obtain ⟨e4, e5, e6⟩ := cf3_ a3.out; have p104 : 0 ≤ (a4 : Int) := of_decide_eq_true (by assumption); have q104 : a4 < (l0_2.length : Int) := of_decide_eq_true (by assumption); obtain ⟨ad104, d8, a5, a6, a7, a8⟩ := at_T53 HR0_2.out a4 p104 q104
         cases d8
         replace a5 := (upc_ HB.out a5 :); replace a6 := (upc_ HB.out a6 :); replace a7 := (upc_ HB.out a7 :); replace a8 := (upc_ HB.out a8 :); replace p104 := eq_true p104; replace q104 := eq_true q104
         go_wp2_with (first | ((with_reducible refine gc_ 23 rfl ?_); refine gl_ (some 37) rfl Try.func23 #[.agg #[.int .i64 ((rd_T53 l0_2 a4).f0), .int .i64 ((rd_T53 l0_2 a4).f1), .int .i64 ((rd_T53 l0_2 a4).f2), .int .i64 ((rd_T53 l0_2 a4).f3)]] ?_; (with_reducible refine (spec_PixOk.calls ((rd_T53 l0_2 a4).f0) ((rd_T53 l0_2 a4).f1) ((rd_T53 l0_2 a4).f2) ((rd_T53 l0_2 a4).f3) true _ A14.out).mono ?_); rintro e w17 ⟨rfl, hb⟩; refine ⟨_, rfl, ?_⟩; replace a3 := Aside0.mk (blk_below (upB a3.out) hb); replace HB := Aside0.mk (below_step (by repeat (with_reducible first | exact HB.out | apply below_alloc | apply yaa | apply below_drew1 | refine below_set ?_ (Aside0.out ‹_›))) hb); (try clear hb)))
         go_roundg k2
         case measure => have := HJ1.out; have := HK2.out; omega
         case rel => exact ⟨(wrap64 (a4 + 1)), (by first | rfl | (simp; done) | (simp [*]; done)), H', ⟨by have := HJ1.out; have := HK2.out; omega⟩, ⟨by exact upB a3.out⟩, ⟨by repeat (with_reducible first | exact HB.out | apply below_alloc | apply yaa | apply below_drew1 | refine below_set ?_ (Aside0.out ‹_›))⟩⟩
        ·
         replace c15 := Bool.eq_false_iff.mpr c15
         subst c15
         rw [if_neg (show ¬ (false = true) by decide)] at H
         obtain rfl := Option.some.inj H; obtain ⟨e7, e8, e9⟩ := cc3_ a3.out; obtain ⟨f4, f5, f6⟩ := cf3_ a3.out; have p104 : 0 ≤ (a4 : Int) := of_decide_eq_true (by assumption); have q104 : a4 < (l0_2.length : Int) := of_decide_eq_true (by assumption); obtain ⟨ad104, d8, a5, a6, a7, a8⟩ := at_T53 HR0_2.out a4 p104 q104
         cases d8
         replace a5 := (upc_ HB.out a5 :); replace a6 := (upc_ HB.out a6 :); replace a7 := (upc_ HB.out a7 :); replace a8 := (upc_ HB.out a8 :); replace p104 := eq_true p104; replace q104 := eq_true q104
         go_wp2_with (first | ((with_reducible refine gc_ 23 rfl ?_); refine gl_ (some 37) rfl Try.func23 #[.agg #[.int .i64 ((rd_T53 l0_2 a4).f0), .int .i64 ((rd_T53 l0_2 a4).f1), .int .i64 ((rd_T53 l0_2 a4).f2), .int .i64 ((rd_T53 l0_2 a4).f3)]] ?_; (with_reducible refine (spec_PixOk.calls ((rd_T53 l0_2 a4).f0) ((rd_T53 l0_2 a4).f1) ((rd_T53 l0_2 a4).f2) ((rd_T53 l0_2 a4).f3) false _ A14.out).mono ?_); rintro e w19 ⟨rfl, hb⟩; refine ⟨_, rfl, ?_⟩; replace a3 := Aside0.mk (blk_below (upB a3.out) hb); replace HB := Aside0.mk (below_step (by repeat (with_reducible first | exact HB.out | apply below_alloc | apply yaa | apply below_drew1 | refine below_set ?_ (Aside0.out ‹_›))) hb); (try clear hb)))
         go_ret
         exact ⟨by first | rfl | (simp [*, errW_none, errW_some] <;> rfl), by repeat (with_reducible first | exact HB.out | apply below_alloc | apply yaa | apply below_drew1 | refine below_set ?_ (Aside0.out ‹_›))⟩
       ·
        rw [if_neg c13] at H
        exact absurd H (by simp)
      ·
       rw [if_neg c12] at H
       have e0 : decide (a4 < (l0_2.length : Int)) = false := decide_eq_false c12; clear c12; obtain rfl := Option.some.inj H; obtain ⟨f7, f8, f9⟩ := cc3_ a3.out; obtain ⟨g0, g1, g2⟩ := cf3_ a3.out
       go_wp2
       go_ret
       exact ⟨by first | rfl | (simp [*, errW_none, errW_some] <;> rfl), by repeat (with_reducible first | exact HB.out | apply below_alloc | apply yaa | apply below_drew1 | refine below_set ?_ (Aside0.out ‹_›))⟩
end
section
def laws_eaBytes.f (l0 : List Int) (l1 : List Int) : Option (Bool) := some ((strOfNums l0).toList == (strOfNums l1).toList)
set_option maxHeartbeats 8000000 in
set_option maxRecDepth 100000 in
theorem laws_eaBytes.calls (A0 : Option Addr) (c0 : Nat) (l0 : List Int) (A1 : Option Addr) (c1 : Nat) (l1 : List Int) (r : Bool) (w : World) (hr0 : Kd.C (Kd.int .u8) w A0 l0.length l0) (hc0 : l0.length ≤ c0) (hr1 : Kd.C (Kd.int .u8) w A1 l1.length l1) (hc1 : l1.length ≤ c1) (h : laws_eaBytes.f l0 l1 = some r) :
    Calls Try.prog 6 #[.slice A0 l0.length c0, .slice A1 l1.length c1] w fun e w' => e = .returned (.bool r) ∧ Drawn0 w w' := by
  have HR0 := Aside0.mk hr0; have HC0 := Aside0.mk hc0; clear hr0 hc0; have HR1 := Aside0.mk hr1; have HC1 := Aside0.mk hc1; clear hr1 hc1; have H : (some ((strOfNums l0).toList == (strOfNums l1).toList)) = some r := h; clear h; obtain rfl := Option.some.inj H; have hcv3 := Kd.C_string (P := Try.prog) (A := A0) (c := c0) Try.underlying22 Try.underlying5 Try.underlying9 HR0.out; have hcv4 := Kd.C_string (P := Try.prog) (A := A1) (c := c1) Try.underlying22 Try.underlying5 Try.underlying9 HR1.out
  go_enter Try.func6, Try.ntmps6
  go_wp2
  go_ret
  exact ⟨by first | rfl | (simp; done) | (simp [*]; done), by repeat (first | exact Drawn0.refl _ | apply Drawn0.step)⟩
end
section
def spec_l5Kind.f (a0 : Int) : Option (Bool) := if a0 = 68 then (some true) else (if a0 = 85 then (some true) else (if a0 = 82 then (some true) else (some (a0 == 80))))
set_option maxHeartbeats 8000000 in
set_option maxRecDepth 100000 in
theorem spec_l5Kind.calls (a0 : Int) (r : Bool) (w : World) (h : spec_l5Kind.f a0 = some r) :
    Calls Try.prog 20 #[.int .u8 a0] w fun e w' => e = .returned (.bool r) ∧ Drawn0 w w' := by
  have H : (if a0 = 68 then (some true) else (if a0 = 85 then (some true) else (if a0 = 82 then (some true) else (some (a0 == 80))))) = some r := h; clear h
  by_cases c2 : a0 = 68
  · rw [if_pos c2] at H
    have c2b0 := beq_iff_eq.mpr c2; have c2b1 := bne_eq_false_iff_eq.mpr c2; clear c2; obtain rfl := Option.some.inj H
    go_enter Try.func20, Try.ntmps20
    go_wp2
    go_ret
    exact ⟨by first | rfl | (simp; done) | (simp [*]; done), by repeat (first | exact Drawn0.refl _ | apply Drawn0.step)⟩
  · rw [if_neg c2] at H
    have c2b0 := beq_eq_false_iff_ne.mpr c2; have c2b1 := bne_iff_ne.mpr c2
    by_cases c3 : a0 = 85
    · rw [if_pos c3] at H
      have c3b0 := beq_iff_eq.mpr c3; have c3b1 := bne_eq_false_iff_eq.mpr c3; clear c3; obtain rfl := Option.some.inj H
      go_enter Try.func20, Try.ntmps20
      go_wp2
      go_ret
      exact ⟨by first | rfl | (simp; done) | (simp [*]; done), by repeat (first | exact Drawn0.refl _ | apply Drawn0.step)⟩
    · rw [if_neg c3] at H
      have c3b0 := beq_eq_false_iff_ne.mpr c3; have c3b1 := bne_iff_ne.mpr c3
      by_cases c4 : a0 = 82
      · rw [if_pos c4] at H
        have c4b0 := beq_iff_eq.mpr c4; have c4b1 := bne_eq_false_iff_eq.mpr c4; clear c4; obtain rfl := Option.some.inj H
        go_enter Try.func20, Try.ntmps20
        go_wp2
        go_ret
        exact ⟨by first | rfl | (simp; done) | (simp [*]; done), by repeat (first | exact Drawn0.refl _ | apply Drawn0.step)⟩
      · rw [if_neg c4] at H
        have c4b0 := beq_eq_false_iff_ne.mpr c4; have c4b1 := bne_iff_ne.mpr c4; obtain rfl := Option.some.inj H
        go_enter Try.func20, Try.ntmps20
        go_wp2
        go_ret
        exact ⟨by first | rfl | (simp; done) | (simp [*]; done), by repeat (first | exact Drawn0.refl _ | apply Drawn0.step)⟩
end
section
open Go.Proofs.YtljobjpldbdhoaaW.PrintWords.Aside0 renaming mk → yaa
open Go.Proofs.YtljobjpldbdhoaaW.PrintWords renaming pw_below_drewN → yab
open Go.Proofs.Ytljobjpldbdhoaa.X renaming rd_T53 → yac

def spec_l3Bytes.l0 : Nat → List Int → Int → Int → Int → List (S53) → Option (List Int)
 | 0, _, _, _, _, _ => none
 | k + 1, x3, x4, x102000, x102001, x102002 => if x4 < (x102002.length : Int) then (if 0 ≤ x4 then ((some (([((rd_T53 x102002 x4).f0) % 256, ((rd_T53 x102002 x4).f1) % 256, ((rd_T53 x102002 x4).f2) % 256, ((rd_T53 x102002 x4).f3) % 256] : List Int) : List Int)).bind fun y107 => (if x3.length + y107.length < 140737488355328 then (spec_l3Bytes.l0 k (x3 ++ y107) (wrap64 (x4 + 1)) x102000 x102001 x102002) else (none))) else (none)) else (some x3)
def spec_l3Bytes.f (k : Nat) (a0_0 : Int) (a0_1 : Int) (l0_2 : List (S53)) : Option (List Int) := spec_l3Bytes.l0 k (([(a0_0) % 256, (a0_1) % 256] : List Int)) 0 a0_0 a0_1 l0_2
set_option maxHeartbeats 8000000 in
set_option maxRecDepth 100000 in
theorem spec_l3Bytes.calls (k : Nat) (a0_0 : Int) (a0_1 : Int) (A0_2 : Option Addr) (c0_2 : Nat) (l0_2 : List (S53)) (r : List Int) (w : World) (hr0_2 : Kd.C k53 w A0_2 l0_2.length l0_2) (hc0_2 : l0_2.length ≤ c0_2) (h : spec_l3Bytes.f k a0_0 a0_1 l0_2 = some r) :
  Calls Try.prog 34 #[.agg #[.int .i64 a0_0, .int .i64 a0_1, .slice A0_2 l0_2.length c0_2]] w fun e w' => ∃ v0_ : Value, e = .returned (v0_) ∧ Kd.R (Kd.int .u8) 5 w' w.heap.size (fun _ => True) v0_ r ∧ Below w.heap.size w w' := by
 have hu25 := Try.underlying25; have hu53 := Try.underlying53; have HR0_2 := yaa hr0_2; have HC0_2 := yaa hc0_2; clear hr0_2 hc0_2; have HB := yaa (Below.refl w.heap.size w); have H : (spec_l3Bytes.l0 k (([(a0_0) % 256, (a0_1) % 256] : List Int)) 0 a0_0 a0_1 l0_2) = some r := h; clear h; obtain ⟨y102, hy102⟩ : ∃ y_ : List Int, y_ = (([(a0_0) % 256, (a0_1) % 256] : List Int)) := ⟨_, rfl⟩
 replace H : (spec_l3Bytes.l0 k y102 0 a0_0 a0_1 l0_2) = some r := by first | (rw [hy102]; with_reducible exact H) | (have H2_ := (Option.bind_some _ _).symm.trans H; rw [hy102]; with_reducible exact H2_) | (have H2_ := (Option.bind_some _ _).symm.trans H; with_reducible exact H2_) | with_reducible exact H | (rw [hy102]; exact H) | exact H
 have Ny102 := yaa hy102; clear hy102; have H' := yaa H; clear H
 go_enter Try.func34, Try.ntmps34
 go_wp2_with (first | ((with_reducible refine gd_ 1 rfl ?_); refine bx_ 1 rfl #[.int .i64 a0_0, .int .i64 a0_1, .slice A0_2 l0_2.length c0_2] 25 ?_; intro b1 hg w2 hbox hb; have a4 := yaa (hbox); have c9 := yaa ((by rw [hg]; exact (below_size (upH HB.out)) : w.heap.size ≤ b1)); replace HB := yaa (below_step (upH HB.out) hb); have g3 := c9; clear hb hbox hg; obtain ⟨b9, c0, c1⟩ := cc3_ a4.out; obtain ⟨c2, c4⟩ := cf2_ a4.out; have c5 := blk_frozen a4.out 2) | ((with_reducible refine gd_ 12 rfl ?_); refine Kd.R_lit (Kd.int .u8) _ 5 ?hg (N := 12) ?hd (xs := ([(a0_0) % 256, (a0_1) % 256] : List Int)) (inner := [.int .u8 ((a0_0) % 256), .int .u8 ((a0_1) % 256)]) (ok := fun _ => True) (okp := fun _ => True) ?hr ?hp (fun _ hk => hk) trivial (Below.refl _ _) (Nat.le_refl _) (by simp) ?_; (case hd => rfl); (case hg => rfl); (case hr => first | (go_simp; done) | (go_simp; rfl)); (case hp => exact (Reps.one (show Kd.M (Kd.int .u8) _ _ _ ((a0_0) % 256) [.int .u8 ((a0_0) % 256)] from rfl) (Reps.one (show Kd.M (Kd.int .u8) _ _ _ ((a0_1) % 256) [.int .u8 ((a0_1) % 256)] from rfl) (Reps.none _ _)))); intro g8 w4 ho5 hb hg_ hnew_; clear hg_ hnew_; (first | rw [← Ny102.out] at ho5 | (simp only [Int.reduceToNat] at ho5; rw [← Ny102.out] at ho5)); have b8 := yaa (Kd.R_lower ho5 (below_size (by repeat (with_reducible first | exact HB.out | apply below_alloc | apply yab | apply below_drew1 | refine below_set ?_ (Aside0.out ‹_›))))); replace a4 := yaa (blk_below (upB a4.out) hb); replace HB := yaa (below_step (by repeat (with_reducible first | exact HB.out | apply below_alloc | apply yab | apply below_drew1 | refine below_set ?_ (Aside0.out ‹_›))) hb); clear hb ho5))
 (try simp only [Act.put, List.setIfInBounds_toArray, List.set_cons_zero, List.set_cons_succ])
 go_loopg [3, 4] k (fun kq v3 v4 w' => ∃ (a9 : List Int) (a3 : Int), v4 = .int .i64 a3 ∧ Aside0 (spec_l3Bytes.l0 kq a9 a3 a0_0 a0_1 l0_2 = some r) ∧ Aside0 (kq ≤ k) ∧ Aside0 (Kd.R (Kd.int .u8) 5 w' w.heap.size (fun _ => True) v3 a9) ∧ Aside0 (w'.heap[b1]? = some (.cells #[.int .i64 a0_0, .int .i64 a0_1, (.slice A0_2 l0_2.length c0_2)] 25 (0, 0))) ∧ Aside0 (Below w.heap.size w w'))
 case atStart => exact ⟨(y102), (0), (by first | rfl | (simp; done) | (simp [*]; done)), H', ⟨Nat.le_refl _⟩, ⟨by first | exact b8.out | exact upR b8.out⟩, ⟨by exact upB a4.out⟩, ⟨by repeat (with_reducible first | exact HB.out | apply below_alloc | apply yab | apply below_drew1 | refine below_set ?_ (Aside0.out ‹_›))⟩⟩
 case round =>
  clear H'; (try clear p2); (try clear c3); (try clear b9); (try clear c0); (try clear c1); (try clear c2); (try clear c4); (try clear c5); obtain ⟨a9, a3, rfl, HA, HK1, a8, a4, HB⟩ := hrel
  cases gk with
  | zero => exact absurd HA.out (by simp [spec_l3Bytes.l0])
  | succ k1 =>
   have H := HA.out; clear HA
   simp only [spec_l3Bytes.l0] at H
   by_cases c6 : a3 < (l0_2.length : Int)
   ·
    rw [if_pos c6] at H
    have e8 : decide (a3 < (l0_2.length : Int)) = true := decide_eq_true c6; clear c6
    by_cases c7 : 0 ≤ a3
    ·
     rw [if_pos c7] at H
     replace c7 := decide_eq_true c7; obtain ⟨y107, hy107⟩ : ∃ y_ : List Int, y_ = (([((yac l0_2 a3).f0) % 256, ((yac l0_2 a3).f1) % 256, ((yac l0_2 a3).f2) % 256, ((yac l0_2 a3).f3) % 256] : List Int)) := ⟨_, rfl⟩
     replace H : (if a9.length + y107.length < 140737488355328 then (spec_l3Bytes.l0 k1 (a9 ++ y107) (wrap64 (a3 + 1)) a0_0 a0_1 l0_2) else (none)) = some r := by first | (rw [hy107]; with_reducible exact H) | (have H2_ := (Option.bind_some _ _).symm.trans H; rw [hy107]; with_reducible exact H2_) | (have H2_ := (Option.bind_some _ _).symm.trans H; with_reducible exact H2_) | with_reducible exact H | (rw [hy107]; exact H) | exact H
     have Ny107 := yaa hy107; clear hy107
     by_cases c8 : a9.length + y107.length < 140737488355328
     ·
      rw [if_pos c8] at H
      have LMc8 := yaa c8; clear c8; obtain ⟨y110, hy110⟩ : ∃ y_ : List Int, y_ = (a9 ++ y107) := ⟨_, rfl⟩
      replace H : (spec_l3Bytes.l0 k1 y110 (wrap64 (a3 + 1)) a0_0 a0_1 l0_2) = some r := by first | (rw [hy110]; with_reducible exact H) | (have H2_ := (Option.bind_some _ _).symm.trans H; rw [hy110]; with_reducible exact H2_) | (have H2_ := (Option.bind_some _ _).symm.trans H; with_reducible exact H2_) | with_reducible exact H | (rw [hy110]; exact H) | exact H
      have Ny110 := yaa hy110; clear hy110; have H' := yaa H; clear H; obtain ⟨e9, f4, f5⟩ := cc3_ a4.out; obtain ⟨f6, f7, f8⟩ := cf3_ a4.out; have p105 : 0 ≤ (a3 : Int) := of_decide_eq_true (by assumption); have q105 : a3 < (l0_2.length : Int) := of_decide_eq_true (by assumption); obtain ⟨ad105, f9, b2, b3, b4, b5⟩ := at_T53 HR0_2.out a3 p105 q105
      cases f9
      replace b2 := (upc_ HB.out b2 :); replace b3 := (upc_ HB.out b3 :); replace b4 := (upc_ HB.out b4 :); replace b5 := (upc_ HB.out b5 :); replace p105 := eq_true p105; replace q105 := eq_true q105
      go_wp2_with (first | ((with_reducible refine gd_ 5 rfl ?_); refine bx_ 5 rfl #[.int .i64 0, .int .i64 0, .int .i64 0, .int .i64 0] 53 ?_; intro a5 hg w10 hbox hb; replace a8 := yaa (Kd.R_below (upR a8.out) hb); have a6 := yaa (hbox); have d2 := yaa ((by rw [hg]; exact (below_size (by repeat (with_reducible first | exact HB.out | apply below_alloc | apply yab | apply below_drew1 | refine below_set ?_ (Aside0.out ‹_›)))) : w.heap.size ≤ a5)); replace HB := yaa (below_step (by repeat (with_reducible first | exact HB.out | apply below_alloc | apply yab | apply below_drew1 | refine below_set ?_ (Aside0.out ‹_›))) hb); have g4 := d2; have a7 := yaa ((by rw [hg]; exact Nat.ne_of_lt (blk_lt (upB a4.out)) : b1 ≠ a5)); replace a4 := yaa (blk_below (upB a4.out) hb); have b6 := yaa a7.out.symm; clear hb hbox hg; have g5 := b6.out; have g6 := a7.out; obtain ⟨d4, d5, d6, d7⟩ := cc4_ a6.out; obtain ⟨d8, d9, e0⟩ := cf3_ a6.out; have e1 := blk_frozen a6.out 3) | ((with_reducible refine gd_ 38 rfl ?_); refine Kd.R_lit (Kd.int .u8) _ 5 ?hg (N := 38) ?hd (xs := ([((yac l0_2 a3).f0) % 256, ((yac l0_2 a3).f1) % 256, ((yac l0_2 a3).f2) % 256, ((yac l0_2 a3).f3) % 256] : List Int)) (inner := [.int .u8 (((yac l0_2 a3).f0) % 256), .int .u8 (((yac l0_2 a3).f1) % 256), .int .u8 (((yac l0_2 a3).f2) % 256), .int .u8 (((yac l0_2 a3).f3) % 256)]) (ok := fun _ => True) (okp := fun _ => True) ?hr ?hp (fun _ hk => hk) trivial (Below.refl _ _) (Nat.le_refl _) (by simp) ?_; (case hd => rfl); (case hg => rfl); (case hr => first | (go_simp; done) | (go_simp; rfl)); (case hp => exact (Reps.one (show Kd.M (Kd.int .u8) _ _ _ (((yac l0_2 a3).f0) % 256) [.int .u8 (((yac l0_2 a3).f0) % 256)] from rfl) (Reps.one (show Kd.M (Kd.int .u8) _ _ _ (((yac l0_2 a3).f1) % 256) [.int .u8 (((yac l0_2 a3).f1) % 256)] from rfl) (Reps.one (show Kd.M (Kd.int .u8) _ _ _ (((yac l0_2 a3).f2) % 256) [.int .u8 (((yac l0_2 a3).f2) % 256)] from rfl) (Reps.one (show Kd.M (Kd.int .u8) _ _ _ (((yac l0_2 a3).f3) % 256) [.int .u8 (((yac l0_2 a3).f3) % 256)] from rfl) (Reps.none _ _)))))); intro h0 w13 b7 hb hg_ hnew_; clear hg_ hnew_; (first | rw [← Ny107.out] at b7 | (simp only [Int.reduceToNat] at b7; rw [← Ny107.out] at b7)); have b0 := yaa (Kd.R_lower (Kd.R_new' b7 (Kd.R_lt (by (with_reducible repeat (first | apply Kd.R_alloc | apply Kd.R_drewN | apply Kd.R_drew)); exact (Kd.R_mono (Kd.R_far (p := ⟨a5, 3, none⟩) (Kd.R_far (p := ⟨a5, 2, none⟩) (Kd.R_far (p := ⟨a5, 1, none⟩) (Kd.R_far (p := ⟨a5, 0, none⟩) (Kd.R_types a8.out a6.out (by decide)) (fun _ hk => hk.2) (.int .i64 ((yac l0_2 a3).f0))) (fun _ hk => hk.2) (.int .i64 ((yac l0_2 a3).f1))) (fun _ hk => hk.2) (.int .i64 ((yac l0_2 a3).f2))) (fun _ hk => hk.2) (.int .i64 ((yac l0_2 a3).f3))) (fun _ h_ => h_.1))))) (below_size (by repeat (with_reducible first | exact HB.out | apply below_alloc | apply yab | apply below_drew1 | refine below_set ?_ (Aside0.out ‹_›))))); replace a8 := yaa (Kd.R_elder' (by (with_reducible repeat (first | apply Kd.R_alloc | apply Kd.R_drewN | apply Kd.R_drew)); exact (Kd.R_mono (Kd.R_far (p := ⟨a5, 3, none⟩) (Kd.R_far (p := ⟨a5, 2, none⟩) (Kd.R_far (p := ⟨a5, 1, none⟩) (Kd.R_far (p := ⟨a5, 0, none⟩) (Kd.R_types a8.out a6.out (by decide)) (fun _ hk => hk.2) (.int .i64 ((yac l0_2 a3).f0))) (fun _ hk => hk.2) (.int .i64 ((yac l0_2 a3).f1))) (fun _ hk => hk.2) (.int .i64 ((yac l0_2 a3).f2))) (fun _ hk => hk.2) (.int .i64 ((yac l0_2 a3).f3))) (fun _ h_ => h_.1))) (Kd.R_base b7) hb); replace a4 := yaa (blk_below (g := b1) (o := .cells #[.int .i64 a0_0, .int .i64 a0_1, .slice (some ad105) l0_2.length c0_2] 25 (0, 0)) (by repeat (with_reducible first | exact a4.out | refine oneB ?_ | refine blk_far ?_ a7.out _)) hb); replace a6 := yaa (blk_below (g := a5) (o := .cells #[.int .i64 ((yac l0_2 a3).f0), .int .i64 ((yac l0_2 a3).f1), .int .i64 ((yac l0_2 a3).f2), .int .i64 ((yac l0_2 a3).f3)] 53 (0, 0)) (by (repeat refine oneB ?_); refine blk_put (cs := #[.int .i64 ((yac l0_2 a3).f0), .int .i64 ((yac l0_2 a3).f1), .int .i64 ((yac l0_2 a3).f2), .int .i64 0]) ?_ 3 _ rfl; refine blk_put (cs := #[.int .i64 ((yac l0_2 a3).f0), .int .i64 ((yac l0_2 a3).f1), .int .i64 0, .int .i64 0]) ?_ 2 _ rfl; refine blk_put (cs := #[.int .i64 ((yac l0_2 a3).f0), .int .i64 0, .int .i64 0, .int .i64 0]) ?_ 1 _ rfl; refine blk_put (cs := #[.int .i64 0, .int .i64 0, .int .i64 0, .int .i64 0]) ?_ 0 _ rfl; exact upB a6.out) hb); replace HB := yaa (below_step (by repeat (with_reducible first | exact HB.out | apply below_alloc | apply yab | apply below_drew1 | refine below_set ?_ (Aside0.out ‹_›))) hb); clear hb b7; obtain ⟨g0, g1, g2⟩ := Kd.R_slice b0.out; subst g2) | ((with_reducible refine gate_builtin (b := .append) (xs := #[.tmp 25, .tmp 38]) rfl ?_); at_builtin; refine Kd.R_append_rows (Kd.int .u8) (w0 := w) w.heap.size rfl (.tmp 25) (.tmp 38) 22 5 (.int .u8 0) 1 rfl Try.underlying22 info5 rfl (by decide) (by omega) u3 a9 y107 _ _ _ (fun k_ => some k_ ≠ (.slice g0 y107.length g1 : Value).ownBlock) (fun _ => False) rfl rfl ?aO ?aR (fun _ _ h => h) (fun _ h => h.elim) ?aF ?aB ?aS ?aL ?_; (case aR => repeat (first | exact (Kd.R_reads' b0.out).2.2 | (with_reducible refine Kd.C_alloc ?_ _) | (with_reducible refine Kd.C_drewN ?_ _) | (with_reducible refine Kd.C_drew ?_))); (case aB => exact (by repeat (with_reducible first | exact HB.out | apply below_alloc | apply yab | apply below_drew1 | refine below_set ?_ (Aside0.out ‹_›)))); (case aF => exact (fun k_ hk => Kd.fresh' (Kd.R_lt (upR b0.out)) k_ hk)); (case aO => exact (by (with_reducible repeat (first | apply Kd.R_alloc | apply Kd.R_drewN | apply Kd.R_drew)); exact Kd.R_mono a8.out (fun _ hk => by first | exact hk.2 | exact True.intro))); (case aS => exact (below_size (by repeat (with_reducible first | exact HB.out | apply below_alloc | apply yab | apply below_drew1 | refine below_set ?_ (Aside0.out ‹_›))))); (case aL => have := LMc8.out; omega); intro h1 w15 ho hb hg hat; rw [← Ny110.out] at ho; replace a4 := yaa (blk_grown (upB a4.out) hg (Kd.R_ne a8.out a4.out (by decide))); replace a6 := yaa (blk_grown (upB a6.out) hg (Kd.R_ne a8.out a6.out (by decide))); replace b0 := yaa (Kd.R_after (ok := (fun _ => True)) (upR b0.out) hg hat); replace HB := yaa (hb); have d3 := yaa (ho); clear a8; clear ho hb hg hat))
      go_roundg k1
      case measure => have := HK1.out; omega
      case rel => exact ⟨(y110), (wrap64 (a3 + 1)), (by first | rfl | (simp; done) | (simp [*]; done)), H', ⟨by have := HK1.out; omega⟩, ⟨by (with_reducible repeat (first | apply Kd.R_alloc | apply Kd.R_drewN | apply Kd.R_drew)); exact Kd.R_mono d3.out (fun _ hk => trivial)⟩, ⟨by exact upB a4.out⟩, ⟨by repeat (with_reducible first | exact HB.out | apply below_alloc | apply yab | apply below_drew1 | refine below_set ?_ (Aside0.out ‹_›))⟩⟩
     ·
      rw [if_neg c8] at H
      exact absurd H (by simp)
    ·
     rw [if_neg c7] at H
     exact absurd H (by simp)
   ·
    rw [if_neg c6] at H
    have e8 : decide (a3 < (l0_2.length : Int)) = false := decide_eq_false c6; clear c6; obtain rfl := Option.some.inj H; obtain ⟨e2, e3, e4⟩ := cc3_ a4.out; obtain ⟨e5, e6, e7⟩ := cf3_ a4.out
    go_wp2
    go_ret
    exact ⟨_, by first | rfl | (simp [*, errW_none, errW_some] <;> rfl), by first | exact a8.out | exact upR a8.out, by repeat (with_reducible first | exact HB.out | apply below_alloc | apply yab | apply below_drew1 | refine below_set ?_ (Aside0.out ‹_›))⟩
end
section
open Go.Proofs.YtljobjpldbdhoaaW.PrintWords.Aside0 renaming mk → yaa

abbrev q35_0 : Array Bool := Array.replicate 17 false
abbrev q35_1 : Array Bool := bl_ 17 1
abbrev q35_2 : Array Bool := bl_ 17 5
abbrev q35_3 : Array Bool := bl_ 17 21
abbrev q35_4 : Array Bool := bl_ 17 53
abbrev q35_5 : Array Bool := bl_ 17 309
abbrev q35_6 : Array Bool := bl_ 17 821
abbrev q35_7 : Array Bool := bl_ 17 1845
abbrev q35_8 : Array Bool := bl_ 17 1847
abbrev q35_9 : Array Bool := bl_ 17 1855
abbrev q35_10 : Array Bool := bl_ 17 1919
abbrev q35_11 : Array Bool := bl_ 17 2047
abbrev q35_12 : Array Bool := bl_ 17 4095
abbrev q35_13 : Array Bool := bl_ 17 8191
abbrev q35_14 : Array Bool := bl_ 17 16383
abbrev q35_15 : Array Bool := bl_ 17 32767
abbrev q35_16 : Array Bool := bl_ 17 65535
abbrev q35_17 : Array Bool := bl_ 17 131071
def spec_l5Flip.l0 : Nat → Int → Int → Int → List (S53) → Int → Int → List (S53) → Option (Int × Int × (List (S53)))
 | 0, _, _, _, _, _, _, _ => none
 | k + 1, x4, x102000, x102001, x102002, x104000, x104001, x104002 => if x4 ≥ 0 then (if 0 ≤ (wrap64 (x4 * x102000)) then (if (wrap64 (x4 * x102000)) ≤ (wrap64 ((wrap64 (x4 + 1)) * x102000)) then (if (wrap64 ((wrap64 (x4 + 1)) * x102000)) ≤ (x102002.length : Int) then ((some ((x102002.take ((wrap64 ((wrap64 (x4 + 1)) * x102000)) : Int).toNat).drop ((wrap64 (x4 * x102000)) : Int).toNat : List (S53))).bind fun y104 => (if x104002.length + y104.length < 4398046511104 then (spec_l5Flip.l0 k (wrap64 (x4 - 1)) x102000 x102001 x102002 x104000 x104001 (x104002 ++ y104)) else (none))) else (none)) else (none)) else (none)) else (some (x104000, x104001, x104002))
def spec_l5Flip.f (k : Nat) (a0_0 : Int) (a0_1 : Int) (l0_2 : List (S53)) : Option (Int × Int × (List (S53))) := spec_l5Flip.l0 k (wrap64 (a0_1 - 1)) a0_0 a0_1 l0_2 a0_0 a0_1 ([] : List (S53))
def spec_l5Flip.T5 : Bool × List (List Nat × List Nat) := (true, [([], []), ([0], [0]), ([], []), ([2], [2]), ([], []), ([], []), ([5], [5]), ([4, 6], [4, 6]), ([], []), ([8], [8]), ([], []), ([10], [10]), ([9, 11], [9, 11]), ([3, 7, 12], [3, 7, 12]), ([1, 13], [1, 13]), ([0, 1, 2, 3, 4, 5, 6, 7, 8, 9, 10, 11, 12, 13, 14], []), ([15, 14, 14, 0, 1, 2, 3, 4, 5, 6, 7, 8, 9, 10, 11, 12, 13, 14], [14, 15])])
def spec_l5Flip.B5 : List Nat := [0, 1, 0, 4, 0, 0, 32, 112, 0, 256, 0, 1024, 3840, 8188, 16383, 32767, 65535]
theorem spec_l5Flip.tab5 : rtab .any (opsOf Try.f35 5) = spec_l5Flip.T5 := by kernel_rfl
theorem spec_l5Flip.bits5 : waitsOk spec_l5Flip.T5.2 spec_l5Flip.B5 = true := by kernel_rfl
set_option maxHeartbeats 8000000 in
set_option maxRecDepth 100000 in
theorem spec_l5Flip.calls (k : Nat) (a0_0 : Int) (a0_1 : Int) (A0_2 : Option Addr) (c0_2 : Nat) (l0_2 : List (S53)) (r1 : Int) (r2 : Int) (r3 : List (S53)) (w : World) (hr0_2 : Kd.C k53 w A0_2 l0_2.length l0_2) (hc0_2 : l0_2.length ≤ c0_2) (h : spec_l5Flip.f k a0_0 a0_1 l0_2 = some (r1, r2, r3)) :
  Calls Try.prog 35 #[.agg #[.int .i64 a0_0, .int .i64 a0_1, .slice A0_2 l0_2.length c0_2]] w fun e w' => ∃ v2_ : Value, e = .returned (.agg #[.int .i64 r1, .int .i64 r2, v2_]) ∧ Kd.R k53 53 w' w.heap.size (fun _ => True) v2_ r3 ∧ Below w.heap.size w w' := by
 have hu25 := Try.underlying25; have HR0_2 := yaa hr0_2; have HC0_2 := yaa hc0_2; clear hr0_2 hc0_2; have HB := yaa (Below.refl w.heap.size w); have H : (spec_l5Flip.l0 k (wrap64 (a0_1 - 1)) a0_0 a0_1 l0_2 a0_0 a0_1 ([] : List (S53))) = some (r1, r2, r3) := h; clear h; have H' := yaa H; clear H
 go_enter Try.func35, Try.ntmps35
 go_wp2_with (first | ((with_reducible refine gd_ 1 rfl ?_); refine bx_ 1 rfl #[.int .i64 a0_0, .int .i64 a0_1, .slice A0_2 l0_2.length c0_2] 25 ?_; intro b6 hg w2 hbox hb; have a4 := yaa (hbox); have e4 := yaa ((by rw [hg]; exact (below_size (upH HB.out)) : w.heap.size ≤ b6)); replace HB := yaa (below_step (upH HB.out) hb); have h2 := e4; clear hb hbox hg) | ((with_reducible refine gd_ 2 rfl ?_); refine bx_ 2 rfl #[.int .i64 0, .int .i64 0, .slice none 0 0] 25 ?_; intro b5 hg w3 hbox hb; have a8 := yaa (hbox); have e5 := yaa ((by rw [hg]; exact (below_size (by repeat (with_reducible first | exact HB.out | apply below_alloc | apply pw_below_drewN | apply below_drew1 | refine below_set ?_ (Aside0.out ‹_›)))) : w.heap.size ≤ b5)); replace HB := yaa (below_step (by repeat (with_reducible first | exact HB.out | apply below_alloc | apply pw_below_drewN | apply below_drew1 | refine below_set ?_ (Aside0.out ‹_›))) hb); have h3 := e5; have b2 := yaa ((by rw [hg]; exact Nat.ne_of_lt (blk_lt (upB a4.out)) : b6 ≠ b5)); replace a4 := yaa (blk_below (upB a4.out) hb); have b7 := yaa b2.out.symm; clear hb hbox hg; have i7 := b2.out; have i8 := b7.out; obtain ⟨d2, d3, d4⟩ := cc3_ a4.out; obtain ⟨d5, d6⟩ := cf2_ a4.out; have d7 := blk_frozen a4.out 2) | ((with_reducible refine gd_ 3 rfl ?_); refine bx_ 3 rfl #[.int .i64 0, .int .i64 0, .slice none 0 0] 25 ?_; intro b1 hg w6 hbox hb; have a6 := yaa (hbox); have e6 := yaa ((by rw [hg]; exact (below_size (by repeat (with_reducible first | exact HB.out | apply below_alloc | apply pw_below_drewN | apply below_drew1 | refine below_set ?_ (Aside0.out ‹_›)))) : w.heap.size ≤ b1)); replace HB := yaa (below_step (by repeat (with_reducible first | exact HB.out | apply below_alloc | apply pw_below_drewN | apply below_drew1 | refine below_set ?_ (Aside0.out ‹_›))) hb); have h4 := e6; have a9 := yaa ((by rw [hg]; exact Nat.ne_of_lt (blk_lt (upB a4.out)) : b6 ≠ b1)); replace a4 := yaa (blk_below (upB a4.out) hb); have b3 := yaa a9.out.symm; have b0 := yaa ((by rw [hg]; exact Nat.ne_of_lt (blk_lt (upB a8.out)) : b5 ≠ b1)); replace a8 := yaa (blk_below (upB a8.out) hb); have b4 := yaa b0.out.symm; clear hb hbox hg; have i9 := b3.out; have j0 := a9.out; have j1 := b4.out; have j2 := b0.out; obtain ⟨d8, d9, e0⟩ := cc3_ a6.out; obtain ⟨e1, e2, e3⟩ := cf3_ a6.out; obtain ⟨b9, c0, c2⟩ := cc3_ a4.out; obtain ⟨c5, c6⟩ := cf2_ a4.out; have c9 := blk_frozen a4.out 2))
 (try simp only [Act.put, List.setIfInBounds_toArray, List.set_cons_zero, List.set_cons_succ])
 go_loopg [4] k (fun kq v4 w' => ∃ (a7 : Int) (a3 : List (S53)) (u104002 : Value), v4 = .int .i64 a7 ∧ Aside0 (spec_l5Flip.l0 kq a7 a0_0 a0_1 l0_2 a0_0 a0_1 a3 = some (r1, r2, r3)) ∧ Aside0 (kq ≤ k) ∧ Aside0 (Kd.R k53 53 w' w.heap.size (fun _ => True) u104002 a3) ∧ Aside0 (w'.heap[b6]? = some (.cells #[.int .i64 a0_0, .int .i64 a0_1, (.slice A0_2 l0_2.length c0_2)] 25 (0, 0))) ∧ Aside0 (w'.heap[b5]? = some (.cells #[.int .i64 0, .int .i64 0, (.slice none 0 0)] 25 (0, 0))) ∧ Aside0 (w'.heap[b1]? = some (.cells #[.int .i64 a0_0, .int .i64 a0_1, u104002] 25 (0, 0))) ∧ Aside0 (Below w.heap.size w w'))
 case atStart => exact ⟨(wrap64 (a0_1 - 1)), (([] : List (S53))), (.slice none 0 0), (by first | rfl | (simp; done) | (simp [*]; done)), H', ⟨Nat.le_refl _⟩, ⟨by first | exact Kd.R_nil _ _ _ _ _ | exact Kd.N_nil _ _ _ _ _ | exact Kd.V_nil _ _ _ _ _ | exact Kd.Q_nil _ _ _ _ _ | exact Kd.S_nil _ _ _ _ _⟩, ⟨by repeat (with_reducible first | exact a4.out | refine oneB ?_ | refine blk_far ?_ a9.out _)⟩, ⟨by repeat (with_reducible first | exact a8.out | refine oneB ?_ | refine blk_far ?_ b0.out _)⟩, ⟨by (repeat refine oneB ?_); refine blk_put (cs := #[.int .i64 a0_0, .int .i64 a0_1, .slice none 0 0]) ?_ 2 _ rfl; refine blk_put (cs := #[.int .i64 a0_0, .int .i64 0, .slice none 0 0]) ?_ 1 _ rfl; refine blk_put (cs := #[.int .i64 0, .int .i64 0, .slice none 0 0]) ?_ 0 _ rfl; exact upB a6.out⟩, ⟨by repeat (with_reducible first | exact HB.out | apply below_alloc | apply pw_below_drewN | apply below_drew1 | refine below_set ?_ (Aside0.out ‹_›))⟩⟩
 case round =>
  clear H'; (try clear p2); (try clear c3); (try clear c4); (try clear p6); (try clear c7); (try clear c8); (try clear b9); (try clear c0); (try clear c2); (try clear d2); (try clear d3); (try clear d4); (try clear d8); (try clear d9); (try clear e0); (try clear c5); (try clear c6); (try clear c9); (try clear d5); (try clear d6); (try clear d7); (try clear e1); (try clear e2); (try clear e3); obtain ⟨a7, a3, u104002, rfl, HA, HK1, a5, a4, a8, a6, HB⟩ := hrel
  cases gk with
  | zero => exact absurd HA.out (by simp [spec_l5Flip.l0])
  | succ k1 =>
   have H := HA.out; clear HA
   simp only [spec_l5Flip.l0] at H
   by_cases c11 : a7 ≥ 0
   ·
    rw [if_pos c11] at H
    have e8 : decide (0 ≤ a7) = true := decide_eq_true c11; clear c11; obtain ⟨ji12, hji12⟩ : ∃ j_ : Int, (wrap64 (a7 * a0_0)) = j_ := ⟨_, rfl⟩
    replace H : (if 0 ≤ (ji12) then (if (ji12) ≤ (wrap64 ((wrap64 (a7 + 1)) * a0_0)) then (if (wrap64 ((wrap64 (a7 + 1)) * a0_0)) ≤ (l0_2.length : Int) then ((some ((l0_2.take ((wrap64 ((wrap64 (a7 + 1)) * a0_0)) : Int).toNat).drop ((ji12) : Int).toNat : List (S53))).bind fun y104 => (if a3.length + y104.length < 4398046511104 then (spec_l5Flip.l0 k1 (wrap64 (a7 - 1)) a0_0 a0_1 l0_2 a0_0 a0_1 (a3 ++ y104)) else (none))) else (none)) else (none)) else (none)) = some (r1, r2, r3) := by first | (rw [hji12] at H; exact H) | (simp only [hji12] at H ⊢; exact H)
    have hji12w : (IntKind.i64.wrap (a7 * a0_0)) = ji12 := (i64_w _).trans hji12
    by_cases c13 : 0 ≤ (ji12)
    ·
     rw [if_pos c13] at H
     have h5 := eq_true c13; replace c13 := decide_eq_true c13
     by_cases c14 : (ji12) ≤ (wrap64 ((wrap64 (a7 + 1)) * a0_0))
     ·
      rw [if_pos c14] at H
      have h6 := eq_true c14; have h7 : decide ((ji12) ≤ (wrap64 ((wrap64 (a7 + 1)) * a0_0))) = true := decide_eq_true c14
      by_cases c15 : (wrap64 ((wrap64 (a7 + 1)) * a0_0)) ≤ (l0_2.length : Int)
      ·
       rw [if_pos c15] at H
       have h8 := eq_true c15; have h9 : decide ((wrap64 ((wrap64 (a7 + 1)) * a0_0)) ≤ (l0_2.length : Int)) = true := decide_eq_true c15; obtain ⟨y104, hy104⟩ : ∃ y_ : List (S53), y_ = ((l0_2.take ((wrap64 ((wrap64 (a7 + 1)) * a0_0)) : Int).toNat).drop ((ji12) : Int).toNat) := ⟨_, rfl⟩
       replace H : (if a3.length + y104.length < 4398046511104 then (spec_l5Flip.l0 k1 (wrap64 (a7 - 1)) a0_0 a0_1 l0_2 a0_0 a0_1 (a3 ++ y104)) else (none)) = some (r1, r2, r3) := by first | (rw [hy104]; with_reducible exact H) | (have H2_ := (Option.bind_some _ _).symm.trans H; rw [hy104]; with_reducible exact H2_) | (have H2_ := (Option.bind_some _ _).symm.trans H; with_reducible exact H2_) | with_reducible exact H | (rw [hy104]; exact H) | exact H
       have Ny104 := yaa hy104; clear hy104
       by_cases c16 : a3.length + y104.length < 4398046511104
       ·
        rw [if_pos c16] at H
        have LMc16 := yaa c16; clear c16; obtain ⟨y108, hy108⟩ : ∃ y_ : List (S53), y_ = (a3 ++ y104) := ⟨_, rfl⟩
        replace H : (spec_l5Flip.l0 k1 (wrap64 (a7 - 1)) a0_0 a0_1 l0_2 a0_0 a0_1 y108) = some (r1, r2, r3) := by first | (rw [hy108]; with_reducible exact H) | (have H2_ := (Option.bind_some _ _).symm.trans H; rw [hy108]; with_reducible exact H2_) | (have H2_ := (Option.bind_some _ _).symm.trans H; with_reducible exact H2_) | with_reducible exact H | (rw [hy108]; exact H) | exact H
        have Ny108 := yaa hy108; clear hy108; have H' := yaa H; clear H
        try go_wp2
        replace a5 := yaa (Kd.R_drew a5.out); replace a4 := yaa (blk_drew a4.out); replace a8 := yaa (blk_drew a8.out); replace a6 := yaa (blk_drew a6.out); replace HB := yaa (below_drew1 HB.out); have q18 : ((wrap64 ((wrap64 (a7 + 1)) * a0_0)) : Int) ≤ ((l0_2.length : Int) : Int) := of_decide_eq_true (by assumption); obtain ⟨i018, hi018, _, d0, _⟩ := info_parts info53; have hroom18 : l0_2.length ≤ c0_2 := HC0_2.out; have hC18 : Kd.C k53 _ A0_2 l0_2.length l0_2 := HR0_2.out; have ql18 : ((ji12) : Int) ≤ ((wrap64 ((wrap64 (a7 + 1)) * a0_0)) : Int) := of_decide_eq_true (by assumption); have q018 : (0 : Int) ≤ ((ji12) : Int) := of_decide_eq_true (by assumption); have hcut18 := cut_mid (P := Try.prog) 23 53 .i64 .i64 Try.underlying23 hi018 4 d0 A0_2 l0_2.length c0_2 (ji12) (wrap64 ((wrap64 (a7 + 1)) * a0_0)) q018 ql18 q18 hroom18; have hr18 := Kd.C_mid (lo := ((ji12) : Int).toNat) (hi := ((wrap64 ((wrap64 (a7 + 1)) * a0_0)) : Int).toNat) (c := c0_2) hC18 (by omega) (by omega) hroom18
        obtain ⟨A18, hA18⟩ : ∃ A1, A1 = (if c0_2 = ((ji12) : Int).toNat then A0_2 else (A0_2 : Option Addr).map (·.add (((ji12) : Int).toNat * 4))) := ⟨_, rfl⟩
        obtain ⟨c18, hc18⟩ : ∃ c1, c1 = c0_2 - ((ji12) : Int).toNat := ⟨_, rfl⟩; have hy18 : y104.length = ((wrap64 ((wrap64 (a7 + 1)) * a0_0)) : Int).toNat - ((ji12) : Int).toNat := (by rw [Ny104.out, List.length_drop, List.length_take] <;> omega)
        rw [show ((l0_2).take ((wrap64 ((wrap64 (a7 + 1)) * a0_0)) : Int).toNat).drop ((ji12) : Int).toNat = y104 from Ny104.out.symm] at hr18
        replace hr18 : Kd.C k53 _ A18 y104.length y104 := (by rw [hA18]; exact hr18)
        rw [← hy18, ← hA18, ← hc18] at hcut18
        have HR107 := yaa hr18; have HC107 := yaa (show y104.length ≤ c18 from by rw [hy18, hc18]; exact Nat.sub_le_sub_right (Nat.le_trans (by omega) hroom18) _); clear hr18 hC18 hroom18 hi018 d0 hc18; have KY18 := yaa hy18; have KA18 := yaa hA18; clear hy18 hA18; replace q18 := eq_true q18
        refine start_ (n := 17) (S := fun w' => w'.cell? ⟨b1, 0, none⟩ = some (.int .i64 a0_0) ∧ w'.cell? ⟨b1, 1, none⟩ = some (.int .i64 a0_1) ∧ w'.cell? ⟨b1, 2, none⟩ = some (u104002) ∧ w'.cell? ⟨b6, 0, none⟩ = some (.int .i64 a0_0) ∧ w'.cell? ⟨b6, 1, none⟩ = some (.int .i64 a0_1) ∧ w'.cell? ⟨b6, 2, none⟩ = some (.slice A0_2 l0_2.length c0_2)) (ds := [16]) q35_0 (by kernel_rfl) rfl rfl ⟨(blk_cell a6.out 0).trans rfl, (blk_cell a6.out 1).trans rfl, (blk_cell a6.out 2).trans rfl, (blk_cell a4.out 0).trans rfl, (blk_cell a4.out 1).trans rfl, (blk_cell a4.out 2).trans rfl⟩ (fun hHeld => ?_); refine with_tabW spec_l5Flip.tab5 spec_l5Flip.bits5 (fun HT_ HW_ => ?_)
        generalize wr.drew = w17 at a5 a4 a8 a6 HB HR107 hHeld ⊢
        refine pz_ 0 17 q35_1 HT_ (by kernel_rfl) ?_
        refine pz_ 2 19 q35_2 HT_ (by kernel_rfl) ?_
        refine pz_ 4 21 q35_3 HT_ (by kernel_rfl) ?_
        refine pz_ 5 22 q35_4 HT_ (by kernel_rfl) ?_
        refine pz_ 8 25 q35_5 HT_ (by kernel_rfl) ?_
        refine pz_ 9 26 q35_6 HT_ (by kernel_rfl) ?_
        refine pz_ 10 27 q35_7 HT_ (by kernel_rfl) ?_
        refine tz_ 1 18 q35_8 HT_ HW_ (by kernel_rfl) hHeld ?_
        refine tz_ 3 20 q35_9 HT_ HW_ (by kernel_rfl) hHeld ?_
        refine tz_ 6 23 q35_10 HT_ HW_ (by kernel_rfl) hHeld ?_
        refine pz_ 7 24 q35_11 HT_ (by kernel_rfl) ?_
        refine tz_ 11 28 q35_12 HT_ HW_ (by kernel_rfl) hHeld ?_
        refine pz_ 12 29 q35_13 HT_ (by kernel_rfl) ?_
        refine pz_ 13 30 q35_14 HT_ (by kernel_rfl) ?_
        refine one_ (i := 14) (N := some 31) q35_15 rfl rfl (one_of HT_.out (by kernel_rfl)) (by decide) (fun K hK => ?_)
        refine Kd.R_append_rows_step k53 (w0 := w) w.heap.size (by rfl) (.tmp 18) (.tmp 30) 23 53 (.agg #[(.int .i64 0), (.int .i64 0), (.int .i64 0), (.int .i64 0)]) 32 rfl Try.underlying23 info53 rfl (by decide) (by omega) u104002 a3 y104 _ _ _ (fun _ => True) (fun _ => False) rfl rfl ?aO ?aR (fun _ _ h => h) (fun _ h => h.elim) ?aF ?aB ?aS ?aL ?_
        (case aR => repeat (first | exact (Kd.C_below HR107.out HB.out) | (with_reducible refine Kd.C_alloc ?_ _) | (with_reducible refine Kd.C_drewN ?_ _) | (with_reducible refine Kd.C_drew ?_)))
        (case aB => exact (by repeat (with_reducible first | exact HB.out | apply below_alloc | apply pw_below_drewN | apply below_drew1 | refine below_set ?_ (Aside0.out ‹_›))))
        (case aF => exact (fun _ _ => trivial))
        (case aO => exact (upR a5.out))
        (case aS => exact (below_size (by repeat (with_reducible first | exact HB.out | apply below_alloc | apply pw_below_drewN | apply below_drew1 | refine below_set ?_ (Aside0.out ‹_›)))))
        (case aL => have := LMc16.out; omega)
        intro j3 w19 ho hb hg hat
        rw [← Ny108.out] at ho
        replace a4 := yaa (blk_grown (upB a4.out) hg (Kd.R_ne a5.out a4.out (by decide))); replace a8 := yaa (blk_grown (upB a8.out) hg (Kd.R_ne a5.out a8.out (by decide))); replace a6 := yaa (blk_grown (upB a6.out) hg (Kd.R_ne a5.out a6.out (by decide))); replace HB := yaa (hb); have d1 := yaa (ho); clear a5; clear ho hb hg hat; obtain ⟨e9, f0, f1⟩ := Kd.R_slice d1.out
        (first | subst f1 | (injection f1 with f1_ f2_ f3_; have f4_ := f1_.symm; have f5_ := f3_.symm; clear f1_ f2_ f3_; subst f4_; subst f5_))
        refine hK.out _ _ ⟨(blk_cell a6.out 0).trans rfl, (blk_cell a6.out 1).trans rfl, (blk_cell a6.out 2).trans rfl, (blk_cell a4.out 0).trans rfl, (blk_cell a4.out 1).trans rfl, (blk_cell a4.out 2).trans rfl⟩ (fun hHeld => ?_)
        clear hK K
        refine norm_ (a' := ?_) ?_ ?_
        rotate_left
        ·
         show Act.put _ (some 31) _ = _
         simp only [Act.put, List.setIfInBounds_toArray, List.set_cons_zero, List.set_cons_succ, i64_w, i32_w]
         rfl
        refine pz_ 15 32 q35_16 HT_ (by kernel_rfl) ?_
        refine last_ (i := 16) (N := none) q35_17 rfl rfl (one_of HT_.out (by kernel_rfl)) (by decide) (fun K hK => ?_)
        have j4 : w19.cell? ⟨b1, 2, none⟩ = some (u104002) := (blk_cell a6.out 2).trans rfl; have i0 := blk_frozen a6.out 2; have f4 := a9.out; have f5 := b0.out; have f6 := b3.out; have f7 := b4.out
        refine skip_ (w1 := ?_) (by rfl) rfl ?_ ?_
        rotate_left
        ·
         go_simp
         rfl
        refine hK.out _ _ ?_
        clear hK K
        refine done_ (done_of HT_.out (by kernel_rfl)) ?_
        try go_wp2
        go_roundg k1
        case measure => have := HK1.out; omega
        case rel => exact ⟨(wrap64 (a7 - 1)), (y108), (.slice e9 y108.length f0), (by first | rfl | (simp; done) | (simp [*]; done)), H', ⟨by have := HK1.out; omega⟩, ⟨by (with_reducible repeat (first | apply Kd.R_alloc | apply Kd.R_drewN | apply Kd.R_drew)); exact Kd.R_mono (Kd.R_far (p := ⟨b1, 2, none⟩) (Kd.R_types d1.out a6.out (by decide)) (fun _ hk => hk.2) (.slice e9 y108.length f0)) (fun _ hk => trivial)⟩, ⟨by repeat (with_reducible first | exact a4.out | refine oneB ?_ | refine blk_far ?_ a9.out _)⟩, ⟨by repeat (with_reducible first | exact a8.out | refine oneB ?_ | refine blk_far ?_ b0.out _)⟩, ⟨by (repeat refine oneB ?_); refine blk_put (cs := #[.int .i64 a0_0, .int .i64 a0_1, u104002]) ?_ 2 _ rfl; exact upB a6.out⟩, ⟨by repeat (with_reducible first | exact HB.out | apply below_alloc | apply pw_below_drewN | apply below_drew1 | refine below_set ?_ (Aside0.out ‹_›))⟩⟩
       ·
        rw [if_neg c16] at H
        exact absurd H (by simp)
      ·
       rw [if_neg c15] at H
       exact absurd H (by simp)
     ·
      rw [if_neg c14] at H
      exact absurd H (by simp)
    ·
     rw [if_neg c13] at H
     exact absurd H (by simp)
   ·
    rw [if_neg c11] at H
    have e8 : decide (0 ≤ a7) = false := decide_eq_false c11; clear c11
    simp only [Option.some.injEq, Prod.mk.injEq] at H
    obtain ⟨rfl, rfl, rfl⟩ := H; have i1 := b3.out; have i2 := a9.out; have i3 := b4.out; have i4 := b0.out; obtain ⟨f8, f9, g0⟩ := cc3_ a6.out; obtain ⟨g1, g2, g3⟩ := cf3_ a6.out; have i5 := b7.out; have i6 := b2.out; obtain ⟨g4, g5, g6⟩ := cc3_ a8.out; obtain ⟨g7, g8, g9⟩ := cf3_ a8.out; obtain ⟨f2, f3, h1⟩ := Kd.R_slice a5.out; subst h1
    go_wp2
    refine bodyPost_ret (results_cell_row rfl _ _ b5 25 #[.int .i64 a0_0, .int .i64 a0_1, .slice f2 a3.length f3] (0, 0) _ rfl (by (repeat refine oneB ?_); refine blk_put (cs := #[.int .i64 a0_0, .int .i64 a0_1, .slice none 0 0]) ?_ 2 _ rfl; refine blk_put (cs := #[.int .i64 a0_0, .int .i64 0, .slice none 0 0]) ?_ 1 _ rfl; refine blk_put (cs := #[.int .i64 0, .int .i64 0, .slice none 0 0]) ?_ 0 _ rfl; exact upB a8.out) Try.underlying25 rfl (by kernel_rfl)) rfl ?_
    exact ⟨_, by first | rfl | (simp [*, errW_none, errW_some] <;> rfl), by (with_reducible repeat (first | apply Kd.R_alloc | apply Kd.R_drewN | apply Kd.R_drew)); exact Kd.R_mono (Kd.R_far (p := ⟨b5, 2, none⟩) (Kd.R_far (p := ⟨b5, 1, none⟩) (Kd.R_far (p := ⟨b5, 0, none⟩) (Kd.R_types a5.out a8.out (by decide)) (fun _ hk => hk.2) (.int .i64 a0_0)) (fun _ hk => hk.2) (.int .i64 a0_1)) (fun _ hk => hk.2) (.slice f2 a3.length f3)) (fun _ hk => trivial), by repeat (with_reducible first | exact HB.out | apply below_alloc | apply pw_below_drewN | apply below_drew1 | refine below_set ?_ (Aside0.out ‹_›))⟩
end
section
theorem eqA53 (d : Nat) (w : World) (x0 y0 : Int) (x1 y1 : Int) (x2 y2 : Int) (x3 y3 : Int) :
    (Op.equalIn (d + 2) 53 (.agg #[.int .i64 x0, .int .i64 x1, .int .i64 x2, .int .i64 x3]) (.agg #[.int .i64 y0, .int .i64 y1, .int .i64 y2, .int .i64 y3])).run Try.prog w = .ok (x0 == y0 && (x1 == y1 && (x2 == y2 && (x3 == y3)))) w := by
  refine eqA_of Try.underlying53 (by kernel_rfl) ?_
  refine eqf_cons (by rfl) (by go_simp; rfl) (by go_simp; rfl) (by go_simp) ?_
  refine eqf_cons (by rfl) (by go_simp; rfl) (by go_simp; rfl) (by go_simp) ?_
  refine eqf_cons (by rfl) (by go_simp; rfl) (by go_simp; rfl) (by go_simp) ?_
  exact eqf_last (by rfl) (by go_simp; rfl) (by go_simp; rfl) (by go_simp)
end
section
attribute [local go_sem high] eqA53
open Go.Proofs.Ytljobjpldbdhoaa.X renaming rd_T53 → yaa
open Go.Proofs.YtljobjpldbdhoaaW.PrintWords.Aside0 renaming mk → yab
open Go.Proofs.YtljobjpldbdhoaaW.PrintWords renaming pw_below_drewN → yac, below_alloc → yad, below_drew1 → yae, below_set → yaf, below_size → yai, below_step → yam, blk_below → yan
open Go.Proofs.YtljobjpldbdhoaaW.PrintWords.Kd renaming R_far → yag, int → yaj, R_alloc → yak, R_drewN → yal, R_drew → yao, R_mono → yap
open Go.Proofs.YtljobjpldbdhoaaW.PrintWords.Reps renaming one → yah

mutual
def spec_l5Runs.l0 : Nat → List Int → Int → Int → Int → List (S53) → Option (List Int)
 | 0, _, _, _, _, _ => none
 | k + 1, x3, x4, x102000, x102001, x102002 => if x4 < (x102002.length : Int) then (spec_l5Runs.l1 k x3 x4 1 x102000 x102001 x102002) else (some x3)
def spec_l5Runs.l1 : Nat → List Int → Int → Int → Int → Int → List (S53) → Option (List Int)
 | 0, _, _, _, _, _, _ => none
 | k + 1, x3, x4, x5, x102000, x102001, x102002 => if (wrap64 (x4 + x5)) < (x102002.length : Int) then (if 0 ≤ (wrap64 (x4 + x5)) then (if 0 ≤ x4 then (if x4 < (x102002.length : Int) then (if (((rd_T53 x102002 (wrap64 (x4 + x5))).f0) == ((rd_T53 x102002 x4).f0) && (((rd_T53 x102002 (wrap64 (x4 + x5))).f1) == ((rd_T53 x102002 x4).f1) && (((rd_T53 x102002 (wrap64 (x4 + x5))).f2) == ((rd_T53 x102002 x4).f2) && (((rd_T53 x102002 (wrap64 (x4 + x5))).f3) == ((rd_T53 x102002 x4).f3))))) = true then (spec_l5Runs.l1 k x3 x4 (wrap64 (x5 + 1)) x102000 x102001 x102002) else ((some (([(x5) % 256, ((rd_T53 x102002 x4).f0) % 256, ((rd_T53 x102002 x4).f1) % 256, ((rd_T53 x102002 x4).f2) % 256, ((rd_T53 x102002 x4).f3) % 256] : List Int) : List Int)).bind fun y109 => (if x3.length + y109.length < 140737488355328 then (spec_l5Runs.l0 k (x3 ++ y109) (wrap64 (x4 + x5)) x102000 x102001 x102002) else (none)))) else (none)) else (none)) else (none)) else (if 0 ≤ x4 then (if x4 < (x102002.length : Int) then ((some (([(x5) % 256, ((rd_T53 x102002 x4).f0) % 256, ((rd_T53 x102002 x4).f1) % 256, ((rd_T53 x102002 x4).f2) % 256, ((rd_T53 x102002 x4).f3) % 256] : List Int) : List Int)).bind fun y117 => (if x3.length + y117.length < 140737488355328 then (spec_l5Runs.l0 k (x3 ++ y117) (wrap64 (x4 + x5)) x102000 x102001 x102002) else (none))) else (none)) else (none))
end
def spec_l5Runs.f (k : Nat) (a0_0 : Int) (a0_1 : Int) (l0_2 : List (S53)) : Option (List Int) := spec_l5Runs.l0 k (([(a0_0) % 256, (a0_1) % 256] : List Int)) 0 a0_0 a0_1 l0_2
set_option maxHeartbeats 8000000 in
set_option maxRecDepth 100000 in
theorem spec_l5Runs.calls (k : Nat) (a0_0 : Int) (a0_1 : Int) (A0_2 : Option Addr) (c0_2 : Nat) (l0_2 : List (S53)) (r : List Int) (w : World) (hr0_2 : Kd.C k53 w A0_2 l0_2.length l0_2) (hc0_2 : l0_2.length ≤ c0_2) (h : spec_l5Runs.f k a0_0 a0_1 l0_2 = some r) :
  Calls Try.prog 36 #[.agg #[.int .i64 a0_0, .int .i64 a0_1, .slice A0_2 l0_2.length c0_2]] w fun e w' => ∃ v0_ : Value, e = .returned (v0_) ∧ Kd.R (yaj .u8) 5 w' w.heap.size (fun _ => True) v0_ r ∧ Below w.heap.size w w' := by
 have hu25 := Try.underlying25; have hu53 := Try.underlying53; have HR0_2 := yab hr0_2; have HC0_2 := yab hc0_2; clear hr0_2 hc0_2; have HB := yab (Below.refl w.heap.size w); have H : (spec_l5Runs.l0 k (([(a0_0) % 256, (a0_1) % 256] : List Int)) 0 a0_0 a0_1 l0_2) = some r := h; clear h; obtain ⟨y102, hy102⟩ : ∃ y_ : List Int, y_ = (([(a0_0) % 256, (a0_1) % 256] : List Int)) := ⟨_, rfl⟩
 replace H : (spec_l5Runs.l0 k y102 0 a0_0 a0_1 l0_2) = some r := by first | (rw [hy102]; with_reducible exact H) | (have H2_ := (Option.bind_some _ _).symm.trans H; rw [hy102]; with_reducible exact H2_) | (have H2_ := (Option.bind_some _ _).symm.trans H; with_reducible exact H2_) | with_reducible exact H | (rw [hy102]; exact H) | exact H
 have Ny102 := yab hy102; clear hy102; have H' := yab H; clear H
 go_enter Try.func36, Try.ntmps36
 go_wp2_with (first | ((with_reducible refine gd_ 1 rfl ?_); refine bx_ 1 rfl #[.int .i64 a0_0, .int .i64 a0_1, .slice A0_2 l0_2.length c0_2] 25 ?_; intro b3 hg w2 hbox hb; have a4 := yab (hbox); have d9 := yab ((by rw [hg]; exact (yai (upH HB.out)) : w.heap.size ≤ b3)); replace HB := yab (yam (upH HB.out) hb); have i1 := d9; clear hb hbox hg; obtain ⟨d3, d4, d5⟩ := cc3_ a4.out; obtain ⟨d6, d7⟩ := cf2_ a4.out; have d8 := blk_frozen a4.out 2) | ((with_reducible refine gd_ 13 rfl ?_); refine Kd.R_lit (yaj .u8) _ 5 ?hg (N := 13) ?hd (xs := ([(a0_0) % 256, (a0_1) % 256] : List Int)) (inner := [.int .u8 ((a0_0) % 256), .int .u8 ((a0_1) % 256)]) (ok := fun _ => True) (okp := fun _ => True) ?hr ?hp (fun _ hk => hk) trivial (Below.refl _ _) (Nat.le_refl _) (by simp) ?_; (case hd => rfl); (case hg => rfl); (case hr => first | (go_simp; done) | (go_simp; rfl)); (case hp => exact (yah (show Kd.M (yaj .u8) _ _ _ ((a0_0) % 256) [.int .u8 ((a0_0) % 256)] from rfl) (yah (show Kd.M (yaj .u8) _ _ _ ((a0_1) % 256) [.int .u8 ((a0_1) % 256)] from rfl) (Reps.none _ _)))); intro j7 w4 ho5 hb hg_ hnew_; clear hg_ hnew_; (first | rw [← Ny102.out] at ho5 | (simp only [Int.reduceToNat] at ho5; rw [← Ny102.out] at ho5)); have e3 := yab (Kd.R_lower ho5 (yai (by repeat (with_reducible first | exact HB.out | apply yad | apply yac | apply yae | refine yaf ?_ (Aside0.out ‹_›))))); replace a4 := yab (yan (upB a4.out) hb); replace HB := yab (yam (by repeat (with_reducible first | exact HB.out | apply yad | apply yac | apply yae | refine yaf ?_ (Aside0.out ‹_›))) hb); clear hb ho5))
 repeat (go_quiet (first | ((with_reducible refine gd_ 1 rfl ?_); refine bx_ 1 rfl #[.int .i64 a0_0, .int .i64 a0_1, .slice A0_2 l0_2.length c0_2] 25 ?_; intro b3 hg w2 hbox hb; have a4 := yab (hbox); have d9 := yab ((by rw [hg]; exact (yai (upH HB.out)) : w.heap.size ≤ b3)); replace HB := yab (yam (upH HB.out) hb); have i1 := d9; clear hb hbox hg; obtain ⟨d3, d4, d5⟩ := cc3_ a4.out; obtain ⟨d6, d7⟩ := cf2_ a4.out; have d8 := blk_frozen a4.out 2) | ((with_reducible refine gd_ 13 rfl ?_); refine Kd.R_lit (yaj .u8) _ 5 ?hg (N := 13) ?hd (xs := ([(a0_0) % 256, (a0_1) % 256] : List Int)) (inner := [.int .u8 ((a0_0) % 256), .int .u8 ((a0_1) % 256)]) (ok := fun _ => True) (okp := fun _ => True) ?hr ?hp (fun _ hk => hk) trivial (Below.refl _ _) (Nat.le_refl _) (by simp) ?_; (case hd => rfl); (case hg => rfl); (case hr => first | (go_simp; done) | (go_simp; rfl)); (case hp => exact (yah (show Kd.M (yaj .u8) _ _ _ ((a0_0) % 256) [.int .u8 ((a0_0) % 256)] from rfl) (yah (show Kd.M (yaj .u8) _ _ _ ((a0_1) % 256) [.int .u8 ((a0_1) % 256)] from rfl) (Reps.none _ _)))); intro j7 w4 ho5 hb hg_ hnew_; clear hg_ hnew_; (first | rw [← Ny102.out] at ho5 | (simp only [Int.reduceToNat] at ho5; rw [← Ny102.out] at ho5)); have e3 := yab (Kd.R_lower ho5 (yai (by repeat (with_reducible first | exact HB.out | apply yad | apply yac | apply yae | refine yaf ?_ (Aside0.out ‹_›))))); replace a4 := yab (yan (upB a4.out) hb); replace HB := yab (yam (by repeat (with_reducible first | exact HB.out | apply yad | apply yac | apply yae | refine yaf ?_ (Aside0.out ‹_›))) hb); clear hb ho5)); try go_wp2_with (first | ((with_reducible refine gd_ 1 rfl ?_); refine bx_ 1 rfl #[.int .i64 a0_0, .int .i64 a0_1, .slice A0_2 l0_2.length c0_2] 25 ?_; intro b3 hg w2 hbox hb; have a4 := yab (hbox); have d9 := yab ((by rw [hg]; exact (yai (upH HB.out)) : w.heap.size ≤ b3)); replace HB := yab (yam (upH HB.out) hb); have i1 := d9; clear hb hbox hg; obtain ⟨d3, d4, d5⟩ := cc3_ a4.out; obtain ⟨d6, d7⟩ := cf2_ a4.out; have d8 := blk_frozen a4.out 2) | ((with_reducible refine gd_ 13 rfl ?_); refine Kd.R_lit (yaj .u8) _ 5 ?hg (N := 13) ?hd (xs := ([(a0_0) % 256, (a0_1) % 256] : List Int)) (inner := [.int .u8 ((a0_0) % 256), .int .u8 ((a0_1) % 256)]) (ok := fun _ => True) (okp := fun _ => True) ?hr ?hp (fun _ hk => hk) trivial (Below.refl _ _) (Nat.le_refl _) (by simp) ?_; (case hd => rfl); (case hg => rfl); (case hr => first | (go_simp; done) | (go_simp; rfl)); (case hp => exact (yah (show Kd.M (yaj .u8) _ _ _ ((a0_0) % 256) [.int .u8 ((a0_0) % 256)] from rfl) (yah (show Kd.M (yaj .u8) _ _ _ ((a0_1) % 256) [.int .u8 ((a0_1) % 256)] from rfl) (Reps.none _ _)))); intro j7 w4 ho5 hb hg_ hnew_; clear hg_ hnew_; (first | rw [← Ny102.out] at ho5 | (simp only [Int.reduceToNat] at ho5; rw [← Ny102.out] at ho5)); have e3 := yab (Kd.R_lower ho5 (yai (by repeat (with_reducible first | exact HB.out | apply yad | apply yac | apply yae | refine yaf ?_ (Aside0.out ‹_›))))); replace a4 := yab (yan (upB a4.out) hb); replace HB := yab (yam (by repeat (with_reducible first | exact HB.out | apply yad | apply yac | apply yae | refine yaf ?_ (Aside0.out ‹_›))) hb); clear hb ho5)))
 (try simp only [Act.put, List.setIfInBounds_toArray, List.set_cons_zero, List.set_cons_succ])
 go_loopg [3, 4] k (fun kq v3 v4 w' => ∃ (b6 : List Int) (a3 : Int), v4 = .int .i64 a3 ∧ Aside0 (spec_l5Runs.l0 kq b6 a3 a0_0 a0_1 l0_2 = some r) ∧ Aside0 (kq ≤ k) ∧ Aside0 (Kd.R (yaj .u8) 5 w' w.heap.size (fun _ => True) v3 b6) ∧ Aside0 (w'.heap[b3]? = some (.cells #[.int .i64 a0_0, .int .i64 a0_1, (.slice A0_2 l0_2.length c0_2)] 25 (0, 0))) ∧ Aside0 (Below w.heap.size w w'))
 case atStart => exact ⟨(y102), (0), (by first | rfl | (simp; done) | (simp [*]; done)), H', ⟨Nat.le_refl _⟩, ⟨by first | exact e3.out | exact upR e3.out⟩, ⟨by exact upB a4.out⟩, ⟨by repeat (with_reducible first | exact HB.out | apply yad | apply yac | apply yae | refine yaf ?_ (Aside0.out ‹_›))⟩⟩
 case round =>
  clear H'; (try clear p2); (try clear c3); (try clear d3); (try clear d4); (try clear d5); (try clear d6); (try clear d7); (try clear d8); obtain ⟨b6, a3, rfl, HA, HK1, a5, a4, HB⟩ := hrel
  cases gk with
  | zero => exact absurd HA.out (by simp [spec_l5Runs.l0])
  | succ k1 =>
   have H := HA.out; clear HA
   simp only [spec_l5Runs.l0] at H
   by_cases c6 : a3 < (l0_2.length : Int)
   ·
    rw [if_pos c6] at H
    have j8 : decide (a3 < (l0_2.length : Int)) = true := decide_eq_true c6; clear c6; have H' := yab H; clear H; obtain ⟨i8, i9, j0⟩ := cc3_ a4.out; obtain ⟨j1, j2, j3⟩ := cf3_ a4.out
    go_wp2
    repeat (go_quiet (fail); try go_wp2)
    (try simp only [Act.put, List.setIfInBounds_toArray, List.set_cons_zero, List.set_cons_succ])
    go_loopg [5] k1 (fun kq v5 w' => ∃ (b2 : Int), v5 = .int .i64 b2 ∧ Aside0 (spec_l5Runs.l1 kq b6 a3 b2 a0_0 a0_1 l0_2 = some r) ∧ Aside0 (kq ≤ k1) ∧ Aside0 (Kd.R (yaj .u8) 5 w' w.heap.size (fun _ => True) u3 b6) ∧ Aside0 (w'.heap[b3]? = some (.cells #[.int .i64 a0_0, .int .i64 a0_1, (.slice A0_2 l0_2.length c0_2)] 25 (0, 0))) ∧ Aside0 (Below w.heap.size w w'))
    case atStart => exact ⟨(1), (by first | rfl | (simp; done) | (simp [*]; done)), H', ⟨Nat.le_refl _⟩, ⟨by first | exact a5.out | exact upR a5.out⟩, ⟨by exact upB a4.out⟩, ⟨by repeat (with_reducible first | exact HB.out | apply yad | apply yac | apply yae | refine yaf ?_ (Aside0.out ‹_›))⟩⟩
    case round =>
     clear H'; (try clear p2); (try clear c3); (try clear c6); (try clear j8); (try clear d3); (try clear d4); (try clear d5); (try clear i8); (try clear i9); (try clear j0); (try clear d6); (try clear d7); (try clear d8); (try clear j1); (try clear j2); (try clear j3); (try clear p2); obtain ⟨b2, rfl, HA, HK2, a5, a4, HB⟩ := hrel
     cases gk with
     | zero => exact absurd HA.out (by simp [spec_l5Runs.l1])
     | succ k2 =>
      have H := HA.out; clear HA
      simp only [spec_l5Runs.l1] at H
      by_cases c8 : (wrap64 (a3 + b2)) < (l0_2.length : Int)
      ·
       rw [if_pos c8] at H
       have j9 : decide ((wrap64 (a3 + b2)) < (l0_2.length : Int)) = true := decide_eq_true c8; clear c8; obtain ⟨ji9, hji9⟩ : ∃ j_ : Int, (wrap64 (a3 + b2)) = j_ := ⟨_, rfl⟩
       replace H : (if 0 ≤ (ji9) then (if 0 ≤ a3 then (if a3 < (l0_2.length : Int) then (if (((yaa l0_2 (ji9)).f0) == ((yaa l0_2 a3).f0) && (((yaa l0_2 (ji9)).f1) == ((yaa l0_2 a3).f1) && (((yaa l0_2 (ji9)).f2) == ((yaa l0_2 a3).f2) && (((yaa l0_2 (ji9)).f3) == ((yaa l0_2 a3).f3))))) = true then (spec_l5Runs.l1 k2 b6 a3 (wrap64 (b2 + 1)) a0_0 a0_1 l0_2) else ((some (([(b2) % 256, ((yaa l0_2 a3).f0) % 256, ((yaa l0_2 a3).f1) % 256, ((yaa l0_2 a3).f2) % 256, ((yaa l0_2 a3).f3) % 256] : List Int) : List Int)).bind fun y109 => (if b6.length + y109.length < 140737488355328 then (spec_l5Runs.l0 k2 (b6 ++ y109) ji9 a0_0 a0_1 l0_2) else (none)))) else (none)) else (none)) else (none)) = some r := by first | (rw [hji9] at H; exact H) | (simp only [hji9] at H ⊢; exact H)
       (try rw [hji9] at j9)
       have hji9w : (IntKind.i64.wrap (a3 + b2)) = ji9 := (i64_w _).trans hji9
       by_cases c10 : 0 ≤ (ji9)
       ·
        rw [if_pos c10] at H
        replace c10 := decide_eq_true c10
        by_cases c11 : 0 ≤ a3
        ·
         rw [if_pos c11] at H
         replace c11 := decide_eq_true c11
         by_cases c12 : a3 < (l0_2.length : Int)
         ·
          rw [if_pos c12] at H
          replace c12 := decide_eq_true c12
          by_cases c13 : (((yaa l0_2 (ji9)).f0) == ((yaa l0_2 a3).f0) && (((yaa l0_2 (ji9)).f1) == ((yaa l0_2 a3).f1) && (((yaa l0_2 (ji9)).f2) == ((yaa l0_2 a3).f2) && (((yaa l0_2 (ji9)).f3) == ((yaa l0_2 a3).f3))))) = true
          ·
           rw [if_pos c13] at H
           have k0 : (((yaa l0_2 (ji9)).f0) == ((yaa l0_2 a3).f0) && (((yaa l0_2 (ji9)).f1) == ((yaa l0_2 a3).f1) && (((yaa l0_2 (ji9)).f2) == ((yaa l0_2 a3).f2) && (((yaa l0_2 (ji9)).f3) == ((yaa l0_2 a3).f3))))) = true := c13
           (try (have k3 : decide (((yaa l0_2 (ji9)).f0) = ((yaa l0_2 a3).f0) && (((yaa l0_2 (ji9)).f1) == ((yaa l0_2 a3).f1) && (((yaa l0_2 (ji9)).f2) == ((yaa l0_2 a3).f2) && (((yaa l0_2 (ji9)).f3) == ((yaa l0_2 a3).f3))))) = true := by simpa using c13))
           (try (have k4 : (((yaa l0_2 (ji9)).f0) == ((yaa l0_2 a3).f0) && (((yaa l0_2 (ji9)).f1) == ((yaa l0_2 a3).f1) && (((yaa l0_2 (ji9)).f2) == ((yaa l0_2 a3).f2) && (((yaa l0_2 (ji9)).f3) == ((yaa l0_2 a3).f3))))) = true := by simpa using c13))
           clear c13; have H' := yab H; clear H; obtain ⟨k9, l2, l3⟩ := cc3_ a4.out; obtain ⟨l4, l5, l6⟩ := cf3_ a4.out; have p105 : 0 ≤ ((ji9) : Int) := of_decide_eq_true (by assumption); have q105 : (ji9) < (l0_2.length : Int) := of_decide_eq_true (by assumption); obtain ⟨ad105, j4, c1, c2, c4, c5⟩ := at_T53 HR0_2.out (ji9) p105 q105
           cases j4
           replace c1 := (upc_ HB.out c1 :); replace c2 := (upc_ HB.out c2 :); replace c4 := (upc_ HB.out c4 :); replace c5 := (upc_ HB.out c5 :); replace p105 := eq_true p105; replace q105 := eq_true q105; have p106 : 0 ≤ (a3 : Int) := of_decide_eq_true (by assumption); have q106 : a3 < (l0_2.length : Int) := of_decide_eq_true (by assumption); obtain ⟨ad106, j5, c7, c9, d0, d1⟩ := at_T53 HR0_2.out a3 p106 q106; obtain rfl : ad105 = ad106 := (by injection j5); replace c7 := (upc_ HB.out c7 :); replace c9 := (upc_ HB.out c9 :); replace d0 := (upc_ HB.out d0 :); replace d1 := (upc_ HB.out d1 :); replace p106 := eq_true p106; replace q106 := eq_true q106
           go_wp2
           repeat (go_quiet (fail); try go_wp2)
           go_roundg k2
           case measure => have := HK1.out; have := HK2.out; omega
           case rel => exact ⟨(wrap64 (b2 + 1)), (by first | rfl | (simp; done) | (simp [*]; done)), H', ⟨by have := HK1.out; have := HK2.out; omega⟩, ⟨by first | exact a5.out | exact upR a5.out⟩, ⟨by exact upB a4.out⟩, ⟨by repeat (with_reducible first | exact HB.out | apply yad | apply yac | apply yae | refine yaf ?_ (Aside0.out ‹_›))⟩⟩
          ·
           rw [if_neg c13] at H
           have k0 : (((yaa l0_2 (ji9)).f0) == ((yaa l0_2 a3).f0) && (((yaa l0_2 (ji9)).f1) == ((yaa l0_2 a3).f1) && (((yaa l0_2 (ji9)).f2) == ((yaa l0_2 a3).f2) && (((yaa l0_2 (ji9)).f3) == ((yaa l0_2 a3).f3))))) = false := (by simpa using c13)
           (try (have k3 : decide (((yaa l0_2 (ji9)).f0) = ((yaa l0_2 a3).f0) && (((yaa l0_2 (ji9)).f1) == ((yaa l0_2 a3).f1) && (((yaa l0_2 (ji9)).f2) == ((yaa l0_2 a3).f2) && (((yaa l0_2 (ji9)).f3) == ((yaa l0_2 a3).f3))))) = false := by simpa using c13))
           (try (have k4 : (((yaa l0_2 (ji9)).f0) == ((yaa l0_2 a3).f0) && (((yaa l0_2 (ji9)).f1) == ((yaa l0_2 a3).f1) && (((yaa l0_2 (ji9)).f2) == ((yaa l0_2 a3).f2) && (((yaa l0_2 (ji9)).f3) == ((yaa l0_2 a3).f3))))) = false := by simpa using c13))
           (try (have n7 : ¬ (((yaa l0_2 (ji9)).f0) = ((yaa l0_2 a3).f0) && (((yaa l0_2 (ji9)).f1) == ((yaa l0_2 a3).f1) && (((yaa l0_2 (ji9)).f2) == ((yaa l0_2 a3).f2) && (((yaa l0_2 (ji9)).f3) == ((yaa l0_2 a3).f3))))) := by simpa using c13))
           clear c13; obtain ⟨y109, hy109⟩ : ∃ y_ : List Int, y_ = (([(b2) % 256, ((yaa l0_2 a3).f0) % 256, ((yaa l0_2 a3).f1) % 256, ((yaa l0_2 a3).f2) % 256, ((yaa l0_2 a3).f3) % 256] : List Int)) := ⟨_, rfl⟩
           replace H : (if b6.length + y109.length < 140737488355328 then (spec_l5Runs.l0 k2 (b6 ++ y109) ji9 a0_0 a0_1 l0_2) else (none)) = some r := by first | (rw [hy109]; with_reducible exact H) | (have H2_ := (Option.bind_some _ _).symm.trans H; rw [hy109]; with_reducible exact H2_) | (have H2_ := (Option.bind_some _ _).symm.trans H; with_reducible exact H2_) | with_reducible exact H | (rw [hy109]; exact H) | exact H
           have Ny109 := yab hy109; clear hy109
           by_cases c15 : b6.length + y109.length < 140737488355328
           ·
            rw [if_pos c15] at H
            have LMc15 := yab c15; clear c15; obtain ⟨y112, hy112⟩ : ∃ y_ : List Int, y_ = (b6 ++ y109) := ⟨_, rfl⟩
            replace H : (spec_l5Runs.l0 k2 y112 ji9 a0_0 a0_1 l0_2) = some r := by first | (rw [hy112]; with_reducible exact H) | (have H2_ := (Option.bind_some _ _).symm.trans H; rw [hy112]; with_reducible exact H2_) | (have H2_ := (Option.bind_some _ _).symm.trans H; with_reducible exact H2_) | with_reducible exact H | (rw [hy112]; exact H) | exact H
            have Ny112 := yab hy112; clear hy112; have H' := yab H; clear H; obtain ⟨l7, l8, l9⟩ := cc3_ a4.out; obtain ⟨m0, m1, m2⟩ := cf3_ a4.out; have p105 : 0 ≤ ((ji9) : Int) := of_decide_eq_true (by assumption); have q105 : (ji9) < (l0_2.length : Int) := of_decide_eq_true (by assumption); obtain ⟨ad105, j4, c1, c2, c4, c5⟩ := at_T53 HR0_2.out (ji9) p105 q105
            cases j4
            replace c1 := (upc_ HB.out c1 :); replace c2 := (upc_ HB.out c2 :); replace c4 := (upc_ HB.out c4 :); replace c5 := (upc_ HB.out c5 :); replace p105 := eq_true p105; replace q105 := eq_true q105; have p106 : 0 ≤ (a3 : Int) := of_decide_eq_true (by assumption); have q106 : a3 < (l0_2.length : Int) := of_decide_eq_true (by assumption); obtain ⟨ad106, j5, c7, c9, d0, d1⟩ := at_T53 HR0_2.out a3 p106 q106; obtain rfl : ad105 = ad106 := (by injection j5); replace c7 := (upc_ HB.out c7 :); replace c9 := (upc_ HB.out c9 :); replace d0 := (upc_ HB.out d0 :); replace d1 := (upc_ HB.out d1 :); replace p106 := eq_true p106; replace q106 := eq_true q106; have p107 : 0 ≤ (a3 : Int) := of_decide_eq_true (by assumption); have q107 : a3 < (l0_2.length : Int) := of_decide_eq_true (by assumption); obtain ⟨ad107, n5, e4, e5, e6, e7⟩ := at_T53 HR0_2.out a3 p107 q107; obtain rfl : ad105 = ad107 := (by injection n5); replace e4 := (upc_ HB.out e4 :); replace e5 := (upc_ HB.out e5 :); replace e6 := (upc_ HB.out e6 :); replace e7 := (upc_ HB.out e7 :); replace p107 := eq_true p107; replace q107 := eq_true q107
            go_wp2_with (first | ((with_reducible refine gd_ 6 rfl ?_); refine bx_ 6 rfl #[.int .i64 0, .int .i64 0, .int .i64 0, .int .i64 0] 53 ?_; intro a6 hg w17 hbox hb; replace a5 := yab (Kd.R_below (upR a5.out) hb); have a8 := yab (hbox); have e0 := yab ((by rw [hg]; exact (yai (by repeat (with_reducible first | exact HB.out | apply yad | apply yac | apply yae | refine yaf ?_ (Aside0.out ‹_›)))) : w.heap.size ≤ a6)); replace HB := yab (yam (by repeat (with_reducible first | exact HB.out | apply yad | apply yac | apply yae | refine yaf ?_ (Aside0.out ‹_›))) hb); have i2 := e0; have b0 := yab ((by rw [hg]; exact Nat.ne_of_lt (blk_lt (upB a4.out)) : b3 ≠ a6)); replace a4 := yab (yan (upB a4.out) hb); have b7 := yab b0.out.symm; clear hb hbox hg; have i3 := b7.out; have i4 := b0.out; obtain ⟨e8, e9, f4, f5⟩ := cc4_ a8.out; obtain ⟨f6, f7, f8⟩ := cf3_ a8.out; have f9 := blk_frozen a8.out 3) | ((with_reducible refine gd_ 63 rfl ?_); refine Kd.R_lit (yaj .u8) _ 5 ?hg (N := 63) ?hd (xs := ([(b2) % 256, ((yaa l0_2 a3).f0) % 256, ((yaa l0_2 a3).f1) % 256, ((yaa l0_2 a3).f2) % 256, ((yaa l0_2 a3).f3) % 256] : List Int)) (inner := [.int .u8 ((b2) % 256), .int .u8 (((yaa l0_2 a3).f0) % 256), .int .u8 (((yaa l0_2 a3).f1) % 256), .int .u8 (((yaa l0_2 a3).f2) % 256), .int .u8 (((yaa l0_2 a3).f3) % 256)]) (ok := fun _ => True) (okp := fun _ => True) ?hr ?hp (fun _ hk => hk) trivial (Below.refl _ _) (Nat.le_refl _) (by simp) ?_; (case hd => rfl); (case hg => rfl); (case hr => first | (go_simp; done) | (go_simp; rfl)); (case hp => exact (yah (show Kd.M (yaj .u8) _ _ _ ((b2) % 256) [.int .u8 ((b2) % 256)] from rfl) (yah (show Kd.M (yaj .u8) _ _ _ (((yaa l0_2 a3).f0) % 256) [.int .u8 (((yaa l0_2 a3).f0) % 256)] from rfl) (yah (show Kd.M (yaj .u8) _ _ _ (((yaa l0_2 a3).f1) % 256) [.int .u8 (((yaa l0_2 a3).f1) % 256)] from rfl) (yah (show Kd.M (yaj .u8) _ _ _ (((yaa l0_2 a3).f2) % 256) [.int .u8 (((yaa l0_2 a3).f2) % 256)] from rfl) (yah (show Kd.M (yaj .u8) _ _ _ (((yaa l0_2 a3).f3) % 256) [.int .u8 (((yaa l0_2 a3).f3) % 256)] from rfl) (Reps.none _ _))))))); intro k5 w20 b8 hb hg_ hnew_; clear hg_ hnew_; (first | rw [← Ny109.out] at b8 | (simp only [Int.reduceToNat] at b8; rw [← Ny109.out] at b8)); have b4 := yab (Kd.R_lower (Kd.R_new' b8 (Kd.R_lt (by (with_reducible repeat (first | apply yak | apply yal | apply yao)); exact (yap (yag (p := ⟨a6, 3, none⟩) (yag (p := ⟨a6, 2, none⟩) (yag (p := ⟨a6, 1, none⟩) (yag (p := ⟨a6, 0, none⟩) (Kd.R_types a5.out a8.out (by decide)) (fun _ hk => hk.2) (.int .i64 ((yaa l0_2 a3).f0))) (fun _ hk => hk.2) (.int .i64 ((yaa l0_2 a3).f1))) (fun _ hk => hk.2) (.int .i64 ((yaa l0_2 a3).f2))) (fun _ hk => hk.2) (.int .i64 ((yaa l0_2 a3).f3))) (fun _ h_ => h_.1))))) (yai (by repeat (with_reducible first | exact HB.out | apply yad | apply yac | apply yae | refine yaf ?_ (Aside0.out ‹_›))))); replace a5 := yab (Kd.R_elder' (by (with_reducible repeat (first | apply yak | apply yal | apply yao)); exact (yap (yag (p := ⟨a6, 3, none⟩) (yag (p := ⟨a6, 2, none⟩) (yag (p := ⟨a6, 1, none⟩) (yag (p := ⟨a6, 0, none⟩) (Kd.R_types a5.out a8.out (by decide)) (fun _ hk => hk.2) (.int .i64 ((yaa l0_2 a3).f0))) (fun _ hk => hk.2) (.int .i64 ((yaa l0_2 a3).f1))) (fun _ hk => hk.2) (.int .i64 ((yaa l0_2 a3).f2))) (fun _ hk => hk.2) (.int .i64 ((yaa l0_2 a3).f3))) (fun _ h_ => h_.1))) (Kd.R_base b8) hb); replace a4 := yab (yan (g := b3) (o := .cells #[.int .i64 a0_0, .int .i64 a0_1, .slice (some ad105) l0_2.length c0_2] 25 (0, 0)) (by repeat (with_reducible first | exact a4.out | refine oneB ?_ | refine blk_far ?_ b0.out _)) hb); replace a8 := yab (yan (g := a6) (o := .cells #[.int .i64 ((yaa l0_2 a3).f0), .int .i64 ((yaa l0_2 a3).f1), .int .i64 ((yaa l0_2 a3).f2), .int .i64 ((yaa l0_2 a3).f3)] 53 (0, 0)) (by (repeat refine oneB ?_); refine blk_put (cs := #[.int .i64 ((yaa l0_2 a3).f0), .int .i64 ((yaa l0_2 a3).f1), .int .i64 ((yaa l0_2 a3).f2), .int .i64 0]) ?_ 3 _ rfl; refine blk_put (cs := #[.int .i64 ((yaa l0_2 a3).f0), .int .i64 ((yaa l0_2 a3).f1), .int .i64 0, .int .i64 0]) ?_ 2 _ rfl; refine blk_put (cs := #[.int .i64 ((yaa l0_2 a3).f0), .int .i64 0, .int .i64 0, .int .i64 0]) ?_ 1 _ rfl; refine blk_put (cs := #[.int .i64 0, .int .i64 0, .int .i64 0, .int .i64 0]) ?_ 0 _ rfl; exact upB a8.out) hb); replace HB := yab (yam (by repeat (with_reducible first | exact HB.out | apply yad | apply yac | apply yae | refine yaf ?_ (Aside0.out ‹_›))) hb); clear hb b8; obtain ⟨h3, h4, h5⟩ := Kd.R_slice b4.out; subst h5) | ((with_reducible refine gate_builtin (b := .append) (xs := #[.tmp 48, .tmp 63]) rfl ?_); at_builtin; refine Kd.R_append_rows (yaj .u8) (w0 := w) w.heap.size rfl (.tmp 48) (.tmp 63) 22 5 (.int .u8 0) 1 rfl Try.underlying22 info5 rfl (by decide) (by omega) u3 b6 y109 _ _ _ (fun k_ => some k_ ≠ (.slice h3 y109.length h4 : Value).ownBlock) (fun _ => False) rfl rfl ?aO ?aR (fun _ _ h => h) (fun _ h => h.elim) ?aF ?aB ?aS ?aL ?_; (case aR => repeat (first | exact (Kd.R_reads' b4.out).2.2 | (with_reducible refine Kd.C_alloc ?_ _) | (with_reducible refine Kd.C_drewN ?_ _) | (with_reducible refine Kd.C_drew ?_))); (case aB => exact (by repeat (with_reducible first | exact HB.out | apply yad | apply yac | apply yae | refine yaf ?_ (Aside0.out ‹_›)))); (case aF => exact (fun k_ hk => Kd.fresh' (Kd.R_lt (upR b4.out)) k_ hk)); (case aO => exact (by (with_reducible repeat (first | apply yak | apply yal | apply yao)); exact yap a5.out (fun _ hk => by first | exact hk.2 | exact True.intro))); (case aS => exact (yai (by repeat (with_reducible first | exact HB.out | apply yad | apply yac | apply yae | refine yaf ?_ (Aside0.out ‹_›))))); (case aL => have := LMc15.out; omega); intro k6 w22 ho hb hg hat; rw [← Ny112.out] at ho; replace a4 := yab (blk_grown (upB a4.out) hg (Kd.R_ne a5.out a4.out (by decide))); replace a8 := yab (blk_grown (upB a8.out) hg (Kd.R_ne a5.out a8.out (by decide))); replace b4 := yab (Kd.R_after (ok := (fun _ => True)) (upR b4.out) hg hat); replace HB := yab (hb); have h6 := yab (ho); clear a5; clear ho hb hg hat))
            repeat (go_quiet (first | ((with_reducible refine gd_ 6 rfl ?_); refine bx_ 6 rfl #[.int .i64 0, .int .i64 0, .int .i64 0, .int .i64 0] 53 ?_; intro a6 hg w17 hbox hb; replace a5 := yab (Kd.R_below (upR a5.out) hb); have a8 := yab (hbox); have e0 := yab ((by rw [hg]; exact (yai (by repeat (with_reducible first | exact HB.out | apply yad | apply yac | apply yae | refine yaf ?_ (Aside0.out ‹_›)))) : w.heap.size ≤ a6)); replace HB := yab (yam (by repeat (with_reducible first | exact HB.out | apply yad | apply yac | apply yae | refine yaf ?_ (Aside0.out ‹_›))) hb); have i2 := e0; have b0 := yab ((by rw [hg]; exact Nat.ne_of_lt (blk_lt (upB a4.out)) : b3 ≠ a6)); replace a4 := yab (yan (upB a4.out) hb); have b7 := yab b0.out.symm; clear hb hbox hg; have i3 := b7.out; have i4 := b0.out; obtain ⟨e8, e9, f4, f5⟩ := cc4_ a8.out; obtain ⟨f6, f7, f8⟩ := cf3_ a8.out; have f9 := blk_frozen a8.out 3) | ((with_reducible refine gd_ 63 rfl ?_); refine Kd.R_lit (yaj .u8) _ 5 ?hg (N := 63) ?hd (xs := ([(b2) % 256, ((yaa l0_2 a3).f0) % 256, ((yaa l0_2 a3).f1) % 256, ((yaa l0_2 a3).f2) % 256, ((yaa l0_2 a3).f3) % 256] : List Int)) (inner := [.int .u8 ((b2) % 256), .int .u8 (((yaa l0_2 a3).f0) % 256), .int .u8 (((yaa l0_2 a3).f1) % 256), .int .u8 (((yaa l0_2 a3).f2) % 256), .int .u8 (((yaa l0_2 a3).f3) % 256)]) (ok := fun _ => True) (okp := fun _ => True) ?hr ?hp (fun _ hk => hk) trivial (Below.refl _ _) (Nat.le_refl _) (by simp) ?_; (case hd => rfl); (case hg => rfl); (case hr => first | (go_simp; done) | (go_simp; rfl)); (case hp => exact (yah (show Kd.M (yaj .u8) _ _ _ ((b2) % 256) [.int .u8 ((b2) % 256)] from rfl) (yah (show Kd.M (yaj .u8) _ _ _ (((yaa l0_2 a3).f0) % 256) [.int .u8 (((yaa l0_2 a3).f0) % 256)] from rfl) (yah (show Kd.M (yaj .u8) _ _ _ (((yaa l0_2 a3).f1) % 256) [.int .u8 (((yaa l0_2 a3).f1) % 256)] from rfl) (yah (show Kd.M (yaj .u8) _ _ _ (((yaa l0_2 a3).f2) % 256) [.int .u8 (((yaa l0_2 a3).f2) % 256)] from rfl) (yah (show Kd.M (yaj .u8) _ _ _ (((yaa l0_2 a3).f3) % 256) [.int .u8 (((yaa l0_2 a3).f3) % 256)] from rfl) (Reps.none _ _))))))); intro k5 w20 b8 hb hg_ hnew_; clear hg_ hnew_; (first | rw [← Ny109.out] at b8 | (simp only [Int.reduceToNat] at b8; rw [← Ny109.out] at b8)); have b4 := yab (Kd.R_lower (Kd.R_new' b8 (Kd.R_lt (by (with_reducible repeat (first | apply yak | apply yal | apply yao)); exact (yap (yag (p := ⟨a6, 3, none⟩) (yag (p := ⟨a6, 2, none⟩) (yag (p := ⟨a6, 1, none⟩) (yag (p := ⟨a6, 0, none⟩) (Kd.R_types a5.out a8.out (by decide)) (fun _ hk => hk.2) (.int .i64 ((yaa l0_2 a3).f0))) (fun _ hk => hk.2) (.int .i64 ((yaa l0_2 a3).f1))) (fun _ hk => hk.2) (.int .i64 ((yaa l0_2 a3).f2))) (fun _ hk => hk.2) (.int .i64 ((yaa l0_2 a3).f3))) (fun _ h_ => h_.1))))) (yai (by repeat (with_reducible first | exact HB.out | apply yad | apply yac | apply yae | refine yaf ?_ (Aside0.out ‹_›))))); replace a5 := yab (Kd.R_elder' (by (with_reducible repeat (first | apply yak | apply yal | apply yao)); exact (yap (yag (p := ⟨a6, 3, none⟩) (yag (p := ⟨a6, 2, none⟩) (yag (p := ⟨a6, 1, none⟩) (yag (p := ⟨a6, 0, none⟩) (Kd.R_types a5.out a8.out (by decide)) (fun _ hk => hk.2) (.int .i64 ((yaa l0_2 a3).f0))) (fun _ hk => hk.2) (.int .i64 ((yaa l0_2 a3).f1))) (fun _ hk => hk.2) (.int .i64 ((yaa l0_2 a3).f2))) (fun _ hk => hk.2) (.int .i64 ((yaa l0_2 a3).f3))) (fun _ h_ => h_.1))) (Kd.R_base b8) hb); replace a4 := yab (yan (g := b3) (o := .cells #[.int .i64 a0_0, .int .i64 a0_1, .slice (some ad105) l0_2.length c0_2] 25 (0, 0)) (by repeat (with_reducible first | exact a4.out | refine oneB ?_ | refine blk_far ?_ b0.out _)) hb); replace a8 := yab (yan (g := a6) (o := .cells #[.int .i64 ((yaa l0_2 a3).f0), .int .i64 ((yaa l0_2 a3).f1), .int .i64 ((yaa l0_2 a3).f2), .int .i64 ((yaa l0_2 a3).f3)] 53 (0, 0)) (by (repeat refine oneB ?_); refine blk_put (cs := #[.int .i64 ((yaa l0_2 a3).f0), .int .i64 ((yaa l0_2 a3).f1), .int .i64 ((yaa l0_2 a3).f2), .int .i64 0]) ?_ 3 _ rfl; refine blk_put (cs := #[.int .i64 ((yaa l0_2 a3).f0), .int .i64 ((yaa l0_2 a3).f1), .int .i64 0, .int .i64 0]) ?_ 2 _ rfl; refine blk_put (cs := #[.int .i64 ((yaa l0_2 a3).f0), .int .i64 0, .int .i64 0, .int .i64 0]) ?_ 1 _ rfl; refine blk_put (cs := #[.int .i64 0, .int .i64 0, .int .i64 0, .int .i64 0]) ?_ 0 _ rfl; exact upB a8.out) hb); replace HB := yab (yam (by repeat (with_reducible first | exact HB.out | apply yad | apply yac | apply yae | refine yaf ?_ (Aside0.out ‹_›))) hb); clear hb b8; obtain ⟨h3, h4, h5⟩ := Kd.R_slice b4.out; subst h5) | ((with_reducible refine gate_builtin (b := .append) (xs := #[.tmp 48, .tmp 63]) rfl ?_); at_builtin; refine Kd.R_append_rows (yaj .u8) (w0 := w) w.heap.size rfl (.tmp 48) (.tmp 63) 22 5 (.int .u8 0) 1 rfl Try.underlying22 info5 rfl (by decide) (by omega) u3 b6 y109 _ _ _ (fun k_ => some k_ ≠ (.slice h3 y109.length h4 : Value).ownBlock) (fun _ => False) rfl rfl ?aO ?aR (fun _ _ h => h) (fun _ h => h.elim) ?aF ?aB ?aS ?aL ?_; (case aR => repeat (first | exact (Kd.R_reads' b4.out).2.2 | (with_reducible refine Kd.C_alloc ?_ _) | (with_reducible refine Kd.C_drewN ?_ _) | (with_reducible refine Kd.C_drew ?_))); (case aB => exact (by repeat (with_reducible first | exact HB.out | apply yad | apply yac | apply yae | refine yaf ?_ (Aside0.out ‹_›)))); (case aF => exact (fun k_ hk => Kd.fresh' (Kd.R_lt (upR b4.out)) k_ hk)); (case aO => exact (by (with_reducible repeat (first | apply yak | apply yal | apply yao)); exact yap a5.out (fun _ hk => by first | exact hk.2 | exact True.intro))); (case aS => exact (yai (by repeat (with_reducible first | exact HB.out | apply yad | apply yac | apply yae | refine yaf ?_ (Aside0.out ‹_›))))); (case aL => have := LMc15.out; omega); intro k6 w22 ho hb hg hat; rw [← Ny112.out] at ho; replace a4 := yab (blk_grown (upB a4.out) hg (Kd.R_ne a5.out a4.out (by decide))); replace a8 := yab (blk_grown (upB a8.out) hg (Kd.R_ne a5.out a8.out (by decide))); replace b4 := yab (Kd.R_after (ok := (fun _ => True)) (upR b4.out) hg hat); replace HB := yab (hb); have h6 := yab (ho); clear a5; clear ho hb hg hat)); try go_wp2_with (first | ((with_reducible refine gd_ 6 rfl ?_); refine bx_ 6 rfl #[.int .i64 0, .int .i64 0, .int .i64 0, .int .i64 0] 53 ?_; intro a6 hg w17 hbox hb; replace a5 := yab (Kd.R_below (upR a5.out) hb); have a8 := yab (hbox); have e0 := yab ((by rw [hg]; exact (yai (by repeat (with_reducible first | exact HB.out | apply yad | apply yac | apply yae | refine yaf ?_ (Aside0.out ‹_›)))) : w.heap.size ≤ a6)); replace HB := yab (yam (by repeat (with_reducible first | exact HB.out | apply yad | apply yac | apply yae | refine yaf ?_ (Aside0.out ‹_›))) hb); have i2 := e0; have b0 := yab ((by rw [hg]; exact Nat.ne_of_lt (blk_lt (upB a4.out)) : b3 ≠ a6)); replace a4 := yab (yan (upB a4.out) hb); have b7 := yab b0.out.symm; clear hb hbox hg; have i3 := b7.out; have i4 := b0.out; obtain ⟨e8, e9, f4, f5⟩ := cc4_ a8.out; obtain ⟨f6, f7, f8⟩ := cf3_ a8.out; have f9 := blk_frozen a8.out 3) | ((with_reducible refine gd_ 63 rfl ?_); refine Kd.R_lit (yaj .u8) _ 5 ?hg (N := 63) ?hd (xs := ([(b2) % 256, ((yaa l0_2 a3).f0) % 256, ((yaa l0_2 a3).f1) % 256, ((yaa l0_2 a3).f2) % 256, ((yaa l0_2 a3).f3) % 256] : List Int)) (inner := [.int .u8 ((b2) % 256), .int .u8 (((yaa l0_2 a3).f0) % 256), .int .u8 (((yaa l0_2 a3).f1) % 256), .int .u8 (((yaa l0_2 a3).f2) % 256), .int .u8 (((yaa l0_2 a3).f3) % 256)]) (ok := fun _ => True) (okp := fun _ => True) ?hr ?hp (fun _ hk => hk) trivial (Below.refl _ _) (Nat.le_refl _) (by simp) ?_; (case hd => rfl); (case hg => rfl); (case hr => first | (go_simp; done) | (go_simp; rfl)); (case hp => exact (yah (show Kd.M (yaj .u8) _ _ _ ((b2) % 256) [.int .u8 ((b2) % 256)] from rfl) (yah (show Kd.M (yaj .u8) _ _ _ (((yaa l0_2 a3).f0) % 256) [.int .u8 (((yaa l0_2 a3).f0) % 256)] from rfl) (yah (show Kd.M (yaj .u8) _ _ _ (((yaa l0_2 a3).f1) % 256) [.int .u8 (((yaa l0_2 a3).f1) % 256)] from rfl) (yah (show Kd.M (yaj .u8) _ _ _ (((yaa l0_2 a3).f2) % 256) [.int .u8 (((yaa l0_2 a3).f2) % 256)] from rfl) (yah (show Kd.M (yaj .u8) _ _ _ (((yaa l0_2 a3).f3) % 256) [.int .u8 (((yaa l0_2 a3).f3) % 256)] from rfl) (Reps.none _ _))))))); intro k5 w20 b8 hb hg_ hnew_; clear hg_ hnew_; (first | rw [← Ny109.out] at b8 | (simp only [Int.reduceToNat] at b8; rw [← Ny109.out] at b8)); have b4 := yab (Kd.R_lower (Kd.R_new' b8 (Kd.R_lt (by (with_reducible repeat (first | apply yak | apply yal | apply yao)); exact (yap (yag (p := ⟨a6, 3, none⟩) (yag (p := ⟨a6, 2, none⟩) (yag (p := ⟨a6, 1, none⟩) (yag (p := ⟨a6, 0, none⟩) (Kd.R_types a5.out a8.out (by decide)) (fun _ hk => hk.2) (.int .i64 ((yaa l0_2 a3).f0))) (fun _ hk => hk.2) (.int .i64 ((yaa l0_2 a3).f1))) (fun _ hk => hk.2) (.int .i64 ((yaa l0_2 a3).f2))) (fun _ hk => hk.2) (.int .i64 ((yaa l0_2 a3).f3))) (fun _ h_ => h_.1))))) (yai (by repeat (with_reducible first | exact HB.out | apply yad | apply yac | apply yae | refine yaf ?_ (Aside0.out ‹_›))))); replace a5 := yab (Kd.R_elder' (by (with_reducible repeat (first | apply yak | apply yal | apply yao)); exact (yap (yag (p := ⟨a6, 3, none⟩) (yag (p := ⟨a6, 2, none⟩) (yag (p := ⟨a6, 1, none⟩) (yag (p := ⟨a6, 0, none⟩) (Kd.R_types a5.out a8.out (by decide)) (fun _ hk => hk.2) (.int .i64 ((yaa l0_2 a3).f0))) (fun _ hk => hk.2) (.int .i64 ((yaa l0_2 a3).f1))) (fun _ hk => hk.2) (.int .i64 ((yaa l0_2 a3).f2))) (fun _ hk => hk.2) (.int .i64 ((yaa l0_2 a3).f3))) (fun _ h_ => h_.1))) (Kd.R_base b8) hb); replace a4 := yab (yan (g := b3) (o := .cells #[.int .i64 a0_0, .int .i64 a0_1, .slice (some ad105) l0_2.length c0_2] 25 (0, 0)) (by repeat (with_reducible first | exact a4.out | refine oneB ?_ | refine blk_far ?_ b0.out _)) hb); replace a8 := yab (yan (g := a6) (o := .cells #[.int .i64 ((yaa l0_2 a3).f0), .int .i64 ((yaa l0_2 a3).f1), .int .i64 ((yaa l0_2 a3).f2), .int .i64 ((yaa l0_2 a3).f3)] 53 (0, 0)) (by (repeat refine oneB ?_); refine blk_put (cs := #[.int .i64 ((yaa l0_2 a3).f0), .int .i64 ((yaa l0_2 a3).f1), .int .i64 ((yaa l0_2 a3).f2), .int .i64 0]) ?_ 3 _ rfl; refine blk_put (cs := #[.int .i64 ((yaa l0_2 a3).f0), .int .i64 ((yaa l0_2 a3).f1), .int .i64 0, .int .i64 0]) ?_ 2 _ rfl; refine blk_put (cs := #[.int .i64 ((yaa l0_2 a3).f0), .int .i64 0, .int .i64 0, .int .i64 0]) ?_ 1 _ rfl; refine blk_put (cs := #[.int .i64 0, .int .i64 0, .int .i64 0, .int .i64 0]) ?_ 0 _ rfl; exact upB a8.out) hb); replace HB := yab (yam (by repeat (with_reducible first | exact HB.out | apply yad | apply yac | apply yae | refine yaf ?_ (Aside0.out ‹_›))) hb); clear hb b8; obtain ⟨h3, h4, h5⟩ := Kd.R_slice b4.out; subst h5) | ((with_reducible refine gate_builtin (b := .append) (xs := #[.tmp 48, .tmp 63]) rfl ?_); at_builtin; refine Kd.R_append_rows (yaj .u8) (w0 := w) w.heap.size rfl (.tmp 48) (.tmp 63) 22 5 (.int .u8 0) 1 rfl Try.underlying22 info5 rfl (by decide) (by omega) u3 b6 y109 _ _ _ (fun k_ => some k_ ≠ (.slice h3 y109.length h4 : Value).ownBlock) (fun _ => False) rfl rfl ?aO ?aR (fun _ _ h => h) (fun _ h => h.elim) ?aF ?aB ?aS ?aL ?_; (case aR => repeat (first | exact (Kd.R_reads' b4.out).2.2 | (with_reducible refine Kd.C_alloc ?_ _) | (with_reducible refine Kd.C_drewN ?_ _) | (with_reducible refine Kd.C_drew ?_))); (case aB => exact (by repeat (with_reducible first | exact HB.out | apply yad | apply yac | apply yae | refine yaf ?_ (Aside0.out ‹_›)))); (case aF => exact (fun k_ hk => Kd.fresh' (Kd.R_lt (upR b4.out)) k_ hk)); (case aO => exact (by (with_reducible repeat (first | apply yak | apply yal | apply yao)); exact yap a5.out (fun _ hk => by first | exact hk.2 | exact True.intro))); (case aS => exact (yai (by repeat (with_reducible first | exact HB.out | apply yad | apply yac | apply yae | refine yaf ?_ (Aside0.out ‹_›))))); (case aL => have := LMc15.out; omega); intro k6 w22 ho hb hg hat; rw [← Ny112.out] at ho; replace a4 := yab (blk_grown (upB a4.out) hg (Kd.R_ne a5.out a4.out (by decide))); replace a8 := yab (blk_grown (upB a8.out) hg (Kd.R_ne a5.out a8.out (by decide))); replace b4 := yab (Kd.R_after (ok := (fun _ => True)) (upR b4.out) hg hat); replace HB := yab (hb); have h6 := yab (ho); clear a5; clear ho hb hg hat)))
            go_roundg k2
            case measure => have := HK1.out; have := HK2.out; omega
            case rel => exact ⟨(y112), (ji9), (by first | rfl | (simp; done) | (simp only [← hji9] <;> (first | rfl | simp)) | (simp [*]; done)), H', ⟨by have := HK1.out; have := HK2.out; omega⟩, ⟨by (with_reducible repeat (first | apply yak | apply yal | apply yao)); exact yap h6.out (fun _ hk => trivial)⟩, ⟨by exact upB a4.out⟩, ⟨by repeat (with_reducible first | exact HB.out | apply yad | apply yac | apply yae | refine yaf ?_ (Aside0.out ‹_›))⟩⟩
           ·
            rw [if_neg c15] at H
            exact absurd H (by simp)
         ·
          rw [if_neg c12] at H
          exact absurd H (by simp)
        ·
         rw [if_neg c11] at H
         exact absurd H (by simp)
       ·
        rw [if_neg c10] at H
        exact absurd H (by simp)
      ·
       rw [if_neg c8] at H
       have j9 : decide ((wrap64 (a3 + b2)) < (l0_2.length : Int)) = false := decide_eq_false c8; clear c8
       by_cases c24 : 0 ≤ a3
       ·
        rw [if_pos c24] at H
        replace c24 := decide_eq_true c24
        by_cases c25 : a3 < (l0_2.length : Int)
        ·
         rw [if_pos c25] at H
         replace c25 := decide_eq_true c25; obtain ⟨y117, hy117⟩ : ∃ y_ : List Int, y_ = (([(b2) % 256, ((yaa l0_2 a3).f0) % 256, ((yaa l0_2 a3).f1) % 256, ((yaa l0_2 a3).f2) % 256, ((yaa l0_2 a3).f3) % 256] : List Int)) := ⟨_, rfl⟩
         replace H : (if b6.length + y117.length < 140737488355328 then (spec_l5Runs.l0 k2 (b6 ++ y117) (wrap64 (a3 + b2)) a0_0 a0_1 l0_2) else (none)) = some r := by first | (rw [hy117]; with_reducible exact H) | (have H2_ := (Option.bind_some _ _).symm.trans H; rw [hy117]; with_reducible exact H2_) | (have H2_ := (Option.bind_some _ _).symm.trans H; with_reducible exact H2_) | with_reducible exact H | (rw [hy117]; exact H) | exact H
         have Ny117 := yab hy117; clear hy117
         by_cases c26 : b6.length + y117.length < 140737488355328
         ·
          rw [if_pos c26] at H
          have LMc26 := yab c26; clear c26; obtain ⟨y120, hy120⟩ : ∃ y_ : List Int, y_ = (b6 ++ y117) := ⟨_, rfl⟩
          replace H : (spec_l5Runs.l0 k2 y120 (wrap64 (a3 + b2)) a0_0 a0_1 l0_2) = some r := by first | (rw [hy120]; with_reducible exact H) | (have H2_ := (Option.bind_some _ _).symm.trans H; rw [hy120]; with_reducible exact H2_) | (have H2_ := (Option.bind_some _ _).symm.trans H; with_reducible exact H2_) | with_reducible exact H | (rw [hy120]; exact H) | exact H
          have Ny120 := yab hy120; clear hy120; have H' := yab H; clear H; obtain ⟨m3, m4, m5⟩ := cc3_ a4.out; obtain ⟨m6, m7, m8⟩ := cf3_ a4.out; have p115 : 0 ≤ (a3 : Int) := of_decide_eq_true (by assumption); have q115 : a3 < (l0_2.length : Int) := of_decide_eq_true (by assumption); obtain ⟨ad115, n6, g0, g1, g2, g3⟩ := at_T53 HR0_2.out a3 p115 q115
          cases n6
          replace g0 := (upc_ HB.out g0 :); replace g1 := (upc_ HB.out g1 :); replace g2 := (upc_ HB.out g2 :); replace g3 := (upc_ HB.out g3 :); replace p115 := eq_true p115; replace q115 := eq_true q115
          go_wp2_with (first | ((with_reducible refine gd_ 6 rfl ?_); refine bx_ 6 rfl #[.int .i64 0, .int .i64 0, .int .i64 0, .int .i64 0] 53 ?_; intro a7 hg w28 hbox hb; replace a5 := yab (Kd.R_below (upR a5.out) hb); have a9 := yab (hbox); have e1 := yab ((by rw [hg]; exact (yai (by repeat (with_reducible first | exact HB.out | apply yad | apply yac | apply yae | refine yaf ?_ (Aside0.out ‹_›)))) : w.heap.size ≤ a7)); replace HB := yab (yam (by repeat (with_reducible first | exact HB.out | apply yad | apply yac | apply yae | refine yaf ?_ (Aside0.out ‹_›))) hb); have i5 := e1; have b1 := yab ((by rw [hg]; exact Nat.ne_of_lt (blk_lt (upB a4.out)) : b3 ≠ a7)); replace a4 := yab (yan (upB a4.out) hb); have b9 := yab b1.out.symm; clear hb hbox hg; have i6 := b9.out; have i7 := b1.out; obtain ⟨g4, g5, g6, g7⟩ := cc4_ a9.out; obtain ⟨g8, g9, h0⟩ := cf3_ a9.out; have h1 := blk_frozen a9.out 3) | ((with_reducible refine gd_ 63 rfl ?_); refine Kd.R_lit (yaj .u8) _ 5 ?hg (N := 63) ?hd (xs := ([(b2) % 256, ((yaa l0_2 a3).f0) % 256, ((yaa l0_2 a3).f1) % 256, ((yaa l0_2 a3).f2) % 256, ((yaa l0_2 a3).f3) % 256] : List Int)) (inner := [.int .u8 ((b2) % 256), .int .u8 (((yaa l0_2 a3).f0) % 256), .int .u8 (((yaa l0_2 a3).f1) % 256), .int .u8 (((yaa l0_2 a3).f2) % 256), .int .u8 (((yaa l0_2 a3).f3) % 256)]) (ok := fun _ => True) (okp := fun _ => True) ?hr ?hp (fun _ hk => hk) trivial (Below.refl _ _) (Nat.le_refl _) (by simp) ?_; (case hd => rfl); (case hg => rfl); (case hr => first | (go_simp; done) | (go_simp; rfl)); (case hp => exact (yah (show Kd.M (yaj .u8) _ _ _ ((b2) % 256) [.int .u8 ((b2) % 256)] from rfl) (yah (show Kd.M (yaj .u8) _ _ _ (((yaa l0_2 a3).f0) % 256) [.int .u8 (((yaa l0_2 a3).f0) % 256)] from rfl) (yah (show Kd.M (yaj .u8) _ _ _ (((yaa l0_2 a3).f1) % 256) [.int .u8 (((yaa l0_2 a3).f1) % 256)] from rfl) (yah (show Kd.M (yaj .u8) _ _ _ (((yaa l0_2 a3).f2) % 256) [.int .u8 (((yaa l0_2 a3).f2) % 256)] from rfl) (yah (show Kd.M (yaj .u8) _ _ _ (((yaa l0_2 a3).f3) % 256) [.int .u8 (((yaa l0_2 a3).f3) % 256)] from rfl) (Reps.none _ _))))))); intro k7 w31 c0 hb hg_ hnew_; clear hg_ hnew_; (first | rw [← Ny117.out] at c0 | (simp only [Int.reduceToNat] at c0; rw [← Ny117.out] at c0)); have b5 := yab (Kd.R_lower (Kd.R_new' c0 (Kd.R_lt (by (with_reducible repeat (first | apply yak | apply yal | apply yao)); exact (yap (yag (p := ⟨a7, 3, none⟩) (yag (p := ⟨a7, 2, none⟩) (yag (p := ⟨a7, 1, none⟩) (yag (p := ⟨a7, 0, none⟩) (Kd.R_types a5.out a9.out (by decide)) (fun _ hk => hk.2) (.int .i64 ((yaa l0_2 a3).f0))) (fun _ hk => hk.2) (.int .i64 ((yaa l0_2 a3).f1))) (fun _ hk => hk.2) (.int .i64 ((yaa l0_2 a3).f2))) (fun _ hk => hk.2) (.int .i64 ((yaa l0_2 a3).f3))) (fun _ h_ => h_.1))))) (yai (by repeat (with_reducible first | exact HB.out | apply yad | apply yac | apply yae | refine yaf ?_ (Aside0.out ‹_›))))); replace a5 := yab (Kd.R_elder' (by (with_reducible repeat (first | apply yak | apply yal | apply yao)); exact (yap (yag (p := ⟨a7, 3, none⟩) (yag (p := ⟨a7, 2, none⟩) (yag (p := ⟨a7, 1, none⟩) (yag (p := ⟨a7, 0, none⟩) (Kd.R_types a5.out a9.out (by decide)) (fun _ hk => hk.2) (.int .i64 ((yaa l0_2 a3).f0))) (fun _ hk => hk.2) (.int .i64 ((yaa l0_2 a3).f1))) (fun _ hk => hk.2) (.int .i64 ((yaa l0_2 a3).f2))) (fun _ hk => hk.2) (.int .i64 ((yaa l0_2 a3).f3))) (fun _ h_ => h_.1))) (Kd.R_base c0) hb); replace a4 := yab (yan (g := b3) (o := .cells #[.int .i64 a0_0, .int .i64 a0_1, .slice (some ad115) l0_2.length c0_2] 25 (0, 0)) (by repeat (with_reducible first | exact a4.out | refine oneB ?_ | refine blk_far ?_ b1.out _)) hb); replace a9 := yab (yan (g := a7) (o := .cells #[.int .i64 ((yaa l0_2 a3).f0), .int .i64 ((yaa l0_2 a3).f1), .int .i64 ((yaa l0_2 a3).f2), .int .i64 ((yaa l0_2 a3).f3)] 53 (0, 0)) (by (repeat refine oneB ?_); refine blk_put (cs := #[.int .i64 ((yaa l0_2 a3).f0), .int .i64 ((yaa l0_2 a3).f1), .int .i64 ((yaa l0_2 a3).f2), .int .i64 0]) ?_ 3 _ rfl; refine blk_put (cs := #[.int .i64 ((yaa l0_2 a3).f0), .int .i64 ((yaa l0_2 a3).f1), .int .i64 0, .int .i64 0]) ?_ 2 _ rfl; refine blk_put (cs := #[.int .i64 ((yaa l0_2 a3).f0), .int .i64 0, .int .i64 0, .int .i64 0]) ?_ 1 _ rfl; refine blk_put (cs := #[.int .i64 0, .int .i64 0, .int .i64 0, .int .i64 0]) ?_ 0 _ rfl; exact upB a9.out) hb); replace HB := yab (yam (by repeat (with_reducible first | exact HB.out | apply yad | apply yac | apply yae | refine yaf ?_ (Aside0.out ‹_›))) hb); clear hb c0; obtain ⟨h7, h8, h9⟩ := Kd.R_slice b5.out; subst h9) | ((with_reducible refine gate_builtin (b := .append) (xs := #[.tmp 48, .tmp 63]) rfl ?_); at_builtin; refine Kd.R_append_rows (yaj .u8) (w0 := w) w.heap.size rfl (.tmp 48) (.tmp 63) 22 5 (.int .u8 0) 1 rfl Try.underlying22 info5 rfl (by decide) (by omega) u3 b6 y117 _ _ _ (fun k_ => some k_ ≠ (.slice h7 y117.length h8 : Value).ownBlock) (fun _ => False) rfl rfl ?aO ?aR (fun _ _ h => h) (fun _ h => h.elim) ?aF ?aB ?aS ?aL ?_; (case aR => repeat (first | exact (Kd.R_reads' b5.out).2.2 | (with_reducible refine Kd.C_alloc ?_ _) | (with_reducible refine Kd.C_drewN ?_ _) | (with_reducible refine Kd.C_drew ?_))); (case aB => exact (by repeat (with_reducible first | exact HB.out | apply yad | apply yac | apply yae | refine yaf ?_ (Aside0.out ‹_›)))); (case aF => exact (fun k_ hk => Kd.fresh' (Kd.R_lt (upR b5.out)) k_ hk)); (case aO => exact (by (with_reducible repeat (first | apply yak | apply yal | apply yao)); exact yap a5.out (fun _ hk => by first | exact hk.2 | exact True.intro))); (case aS => exact (yai (by repeat (with_reducible first | exact HB.out | apply yad | apply yac | apply yae | refine yaf ?_ (Aside0.out ‹_›))))); (case aL => have := LMc26.out; omega); intro k8 w33 ho hb hg hat; rw [← Ny120.out] at ho; replace a4 := yab (blk_grown (upB a4.out) hg (Kd.R_ne a5.out a4.out (by decide))); replace a9 := yab (blk_grown (upB a9.out) hg (Kd.R_ne a5.out a9.out (by decide))); replace b5 := yab (Kd.R_after (ok := (fun _ => True)) (upR b5.out) hg hat); replace HB := yab (hb); have i0 := yab (ho); clear a5; clear ho hb hg hat))
          repeat (go_quiet (first | ((with_reducible refine gd_ 6 rfl ?_); refine bx_ 6 rfl #[.int .i64 0, .int .i64 0, .int .i64 0, .int .i64 0] 53 ?_; intro a7 hg w28 hbox hb; replace a5 := yab (Kd.R_below (upR a5.out) hb); have a9 := yab (hbox); have e1 := yab ((by rw [hg]; exact (yai (by repeat (with_reducible first | exact HB.out | apply yad | apply yac | apply yae | refine yaf ?_ (Aside0.out ‹_›)))) : w.heap.size ≤ a7)); replace HB := yab (yam (by repeat (with_reducible first | exact HB.out | apply yad | apply yac | apply yae | refine yaf ?_ (Aside0.out ‹_›))) hb); have i5 := e1; have b1 := yab ((by rw [hg]; exact Nat.ne_of_lt (blk_lt (upB a4.out)) : b3 ≠ a7)); replace a4 := yab (yan (upB a4.out) hb); have b9 := yab b1.out.symm; clear hb hbox hg; have i6 := b9.out; have i7 := b1.out; obtain ⟨g4, g5, g6, g7⟩ := cc4_ a9.out; obtain ⟨g8, g9, h0⟩ := cf3_ a9.out; have h1 := blk_frozen a9.out 3) | ((with_reducible refine gd_ 63 rfl ?_); refine Kd.R_lit (yaj .u8) _ 5 ?hg (N := 63) ?hd (xs := ([(b2) % 256, ((yaa l0_2 a3).f0) % 256, ((yaa l0_2 a3).f1) % 256, ((yaa l0_2 a3).f2) % 256, ((yaa l0_2 a3).f3) % 256] : List Int)) (inner := [.int .u8 ((b2) % 256), .int .u8 (((yaa l0_2 a3).f0) % 256), .int .u8 (((yaa l0_2 a3).f1) % 256), .int .u8 (((yaa l0_2 a3).f2) % 256), .int .u8 (((yaa l0_2 a3).f3) % 256)]) (ok := fun _ => True) (okp := fun _ => True) ?hr ?hp (fun _ hk => hk) trivial (Below.refl _ _) (Nat.le_refl _) (by simp) ?_; (case hd => rfl); (case hg => rfl); (case hr => first | (go_simp; done) | (go_simp; rfl)); (case hp => exact (yah (show Kd.M (yaj .u8) _ _ _ ((b2) % 256) [.int .u8 ((b2) % 256)] from rfl) (yah (show Kd.M (yaj .u8) _ _ _ (((yaa l0_2 a3).f0) % 256) [.int .u8 (((yaa l0_2 a3).f0) % 256)] from rfl) (yah (show Kd.M (yaj .u8) _ _ _ (((yaa l0_2 a3).f1) % 256) [.int .u8 (((yaa l0_2 a3).f1) % 256)] from rfl) (yah (show Kd.M (yaj .u8) _ _ _ (((yaa l0_2 a3).f2) % 256) [.int .u8 (((yaa l0_2 a3).f2) % 256)] from rfl) (yah (show Kd.M (yaj .u8) _ _ _ (((yaa l0_2 a3).f3) % 256) [.int .u8 (((yaa l0_2 a3).f3) % 256)] from rfl) (Reps.none _ _))))))); intro k7 w31 c0 hb hg_ hnew_; clear hg_ hnew_; (first | rw [← Ny117.out] at c0 | (simp only [Int.reduceToNat] at c0; rw [← Ny117.out] at c0)); have b5 := yab (Kd.R_lower (Kd.R_new' c0 (Kd.R_lt (by (with_reducible repeat (first | apply yak | apply yal | apply yao)); exact (yap (yag (p := ⟨a7, 3, none⟩) (yag (p := ⟨a7, 2, none⟩) (yag (p := ⟨a7, 1, none⟩) (yag (p := ⟨a7, 0, none⟩) (Kd.R_types a5.out a9.out (by decide)) (fun _ hk => hk.2) (.int .i64 ((yaa l0_2 a3).f0))) (fun _ hk => hk.2) (.int .i64 ((yaa l0_2 a3).f1))) (fun _ hk => hk.2) (.int .i64 ((yaa l0_2 a3).f2))) (fun _ hk => hk.2) (.int .i64 ((yaa l0_2 a3).f3))) (fun _ h_ => h_.1))))) (yai (by repeat (with_reducible first | exact HB.out | apply yad | apply yac | apply yae | refine yaf ?_ (Aside0.out ‹_›))))); replace a5 := yab (Kd.R_elder' (by (with_reducible repeat (first | apply yak | apply yal | apply yao)); exact (yap (yag (p := ⟨a7, 3, none⟩) (yag (p := ⟨a7, 2, none⟩) (yag (p := ⟨a7, 1, none⟩) (yag (p := ⟨a7, 0, none⟩) (Kd.R_types a5.out a9.out (by decide)) (fun _ hk => hk.2) (.int .i64 ((yaa l0_2 a3).f0))) (fun _ hk => hk.2) (.int .i64 ((yaa l0_2 a3).f1))) (fun _ hk => hk.2) (.int .i64 ((yaa l0_2 a3).f2))) (fun _ hk => hk.2) (.int .i64 ((yaa l0_2 a3).f3))) (fun _ h_ => h_.1))) (Kd.R_base c0) hb); replace a4 := yab (yan (g := b3) (o := .cells #[.int .i64 a0_0, .int .i64 a0_1, .slice (some ad115) l0_2.length c0_2] 25 (0, 0)) (by repeat (with_reducible first | exact a4.out | refine oneB ?_ | refine blk_far ?_ b1.out _)) hb); replace a9 := yab (yan (g := a7) (o := .cells #[.int .i64 ((yaa l0_2 a3).f0), .int .i64 ((yaa l0_2 a3).f1), .int .i64 ((yaa l0_2 a3).f2), .int .i64 ((yaa l0_2 a3).f3)] 53 (0, 0)) (by (repeat refine oneB ?_); refine blk_put (cs := #[.int .i64 ((yaa l0_2 a3).f0), .int .i64 ((yaa l0_2 a3).f1), .int .i64 ((yaa l0_2 a3).f2), .int .i64 0]) ?_ 3 _ rfl; refine blk_put (cs := #[.int .i64 ((yaa l0_2 a3).f0), .int .i64 ((yaa l0_2 a3).f1), .int .i64 0, .int .i64 0]) ?_ 2 _ rfl; refine blk_put (cs := #[.int .i64 ((yaa l0_2 a3).f0), .int .i64 0, .int .i64 0, .int .i64 0]) ?_ 1 _ rfl; refine blk_put (cs := #[.int .i64 0, .int .i64 0, .int .i64 0, .int .i64 0]) ?_ 0 _ rfl; exact upB a9.out) hb); replace HB := yab (yam (by repeat (with_reducible first | exact HB.out | apply yad | apply yac | apply yae | refine yaf ?_ (Aside0.out ‹_›))) hb); clear hb c0; obtain ⟨h7, h8, h9⟩ := Kd.R_slice b5.out; subst h9) | ((with_reducible refine gate_builtin (b := .append) (xs := #[.tmp 48, .tmp 63]) rfl ?_); at_builtin; refine Kd.R_append_rows (yaj .u8) (w0 := w) w.heap.size rfl (.tmp 48) (.tmp 63) 22 5 (.int .u8 0) 1 rfl Try.underlying22 info5 rfl (by decide) (by omega) u3 b6 y117 _ _ _ (fun k_ => some k_ ≠ (.slice h7 y117.length h8 : Value).ownBlock) (fun _ => False) rfl rfl ?aO ?aR (fun _ _ h => h) (fun _ h => h.elim) ?aF ?aB ?aS ?aL ?_; (case aR => repeat (first | exact (Kd.R_reads' b5.out).2.2 | (with_reducible refine Kd.C_alloc ?_ _) | (with_reducible refine Kd.C_drewN ?_ _) | (with_reducible refine Kd.C_drew ?_))); (case aB => exact (by repeat (with_reducible first | exact HB.out | apply yad | apply yac | apply yae | refine yaf ?_ (Aside0.out ‹_›)))); (case aF => exact (fun k_ hk => Kd.fresh' (Kd.R_lt (upR b5.out)) k_ hk)); (case aO => exact (by (with_reducible repeat (first | apply yak | apply yal | apply yao)); exact yap a5.out (fun _ hk => by first | exact hk.2 | exact True.intro))); (case aS => exact (yai (by repeat (with_reducible first | exact HB.out | apply yad | apply yac | apply yae | refine yaf ?_ (Aside0.out ‹_›))))); (case aL => have := LMc26.out; omega); intro k8 w33 ho hb hg hat; rw [← Ny120.out] at ho; replace a4 := yab (blk_grown (upB a4.out) hg (Kd.R_ne a5.out a4.out (by decide))); replace a9 := yab (blk_grown (upB a9.out) hg (Kd.R_ne a5.out a9.out (by decide))); replace b5 := yab (Kd.R_after (ok := (fun _ => True)) (upR b5.out) hg hat); replace HB := yab (hb); have i0 := yab (ho); clear a5; clear ho hb hg hat)); try go_wp2_with (first | ((with_reducible refine gd_ 6 rfl ?_); refine bx_ 6 rfl #[.int .i64 0, .int .i64 0, .int .i64 0, .int .i64 0] 53 ?_; intro a7 hg w28 hbox hb; replace a5 := yab (Kd.R_below (upR a5.out) hb); have a9 := yab (hbox); have e1 := yab ((by rw [hg]; exact (yai (by repeat (with_reducible first | exact HB.out | apply yad | apply yac | apply yae | refine yaf ?_ (Aside0.out ‹_›)))) : w.heap.size ≤ a7)); replace HB := yab (yam (by repeat (with_reducible first | exact HB.out | apply yad | apply yac | apply yae | refine yaf ?_ (Aside0.out ‹_›))) hb); have i5 := e1; have b1 := yab ((by rw [hg]; exact Nat.ne_of_lt (blk_lt (upB a4.out)) : b3 ≠ a7)); replace a4 := yab (yan (upB a4.out) hb); have b9 := yab b1.out.symm; clear hb hbox hg; have i6 := b9.out; have i7 := b1.out; obtain ⟨g4, g5, g6, g7⟩ := cc4_ a9.out; obtain ⟨g8, g9, h0⟩ := cf3_ a9.out; have h1 := blk_frozen a9.out 3) | ((with_reducible refine gd_ 63 rfl ?_); refine Kd.R_lit (yaj .u8) _ 5 ?hg (N := 63) ?hd (xs := ([(b2) % 256, ((yaa l0_2 a3).f0) % 256, ((yaa l0_2 a3).f1) % 256, ((yaa l0_2 a3).f2) % 256, ((yaa l0_2 a3).f3) % 256] : List Int)) (inner := [.int .u8 ((b2) % 256), .int .u8 (((yaa l0_2 a3).f0) % 256), .int .u8 (((yaa l0_2 a3).f1) % 256), .int .u8 (((yaa l0_2 a3).f2) % 256), .int .u8 (((yaa l0_2 a3).f3) % 256)]) (ok := fun _ => True) (okp := fun _ => True) ?hr ?hp (fun _ hk => hk) trivial (Below.refl _ _) (Nat.le_refl _) (by simp) ?_; (case hd => rfl); (case hg => rfl); (case hr => first | (go_simp; done) | (go_simp; rfl)); (case hp => exact (yah (show Kd.M (yaj .u8) _ _ _ ((b2) % 256) [.int .u8 ((b2) % 256)] from rfl) (yah (show Kd.M (yaj .u8) _ _ _ (((yaa l0_2 a3).f0) % 256) [.int .u8 (((yaa l0_2 a3).f0) % 256)] from rfl) (yah (show Kd.M (yaj .u8) _ _ _ (((yaa l0_2 a3).f1) % 256) [.int .u8 (((yaa l0_2 a3).f1) % 256)] from rfl) (yah (show Kd.M (yaj .u8) _ _ _ (((yaa l0_2 a3).f2) % 256) [.int .u8 (((yaa l0_2 a3).f2) % 256)] from rfl) (yah (show Kd.M (yaj .u8) _ _ _ (((yaa l0_2 a3).f3) % 256) [.int .u8 (((yaa l0_2 a3).f3) % 256)] from rfl) (Reps.none _ _))))))); intro k7 w31 c0 hb hg_ hnew_; clear hg_ hnew_; (first | rw [← Ny117.out] at c0 | (simp only [Int.reduceToNat] at c0; rw [← Ny117.out] at c0)); have b5 := yab (Kd.R_lower (Kd.R_new' c0 (Kd.R_lt (by (with_reducible repeat (first | apply yak | apply yal | apply yao)); exact (yap (yag (p := ⟨a7, 3, none⟩) (yag (p := ⟨a7, 2, none⟩) (yag (p := ⟨a7, 1, none⟩) (yag (p := ⟨a7, 0, none⟩) (Kd.R_types a5.out a9.out (by decide)) (fun _ hk => hk.2) (.int .i64 ((yaa l0_2 a3).f0))) (fun _ hk => hk.2) (.int .i64 ((yaa l0_2 a3).f1))) (fun _ hk => hk.2) (.int .i64 ((yaa l0_2 a3).f2))) (fun _ hk => hk.2) (.int .i64 ((yaa l0_2 a3).f3))) (fun _ h_ => h_.1))))) (yai (by repeat (with_reducible first | exact HB.out | apply yad | apply yac | apply yae | refine yaf ?_ (Aside0.out ‹_›))))); replace a5 := yab (Kd.R_elder' (by (with_reducible repeat (first | apply yak | apply yal | apply yao)); exact (yap (yag (p := ⟨a7, 3, none⟩) (yag (p := ⟨a7, 2, none⟩) (yag (p := ⟨a7, 1, none⟩) (yag (p := ⟨a7, 0, none⟩) (Kd.R_types a5.out a9.out (by decide)) (fun _ hk => hk.2) (.int .i64 ((yaa l0_2 a3).f0))) (fun _ hk => hk.2) (.int .i64 ((yaa l0_2 a3).f1))) (fun _ hk => hk.2) (.int .i64 ((yaa l0_2 a3).f2))) (fun _ hk => hk.2) (.int .i64 ((yaa l0_2 a3).f3))) (fun _ h_ => h_.1))) (Kd.R_base c0) hb); replace a4 := yab (yan (g := b3) (o := .cells #[.int .i64 a0_0, .int .i64 a0_1, .slice (some ad115) l0_2.length c0_2] 25 (0, 0)) (by repeat (with_reducible first | exact a4.out | refine oneB ?_ | refine blk_far ?_ b1.out _)) hb); replace a9 := yab (yan (g := a7) (o := .cells #[.int .i64 ((yaa l0_2 a3).f0), .int .i64 ((yaa l0_2 a3).f1), .int .i64 ((yaa l0_2 a3).f2), .int .i64 ((yaa l0_2 a3).f3)] 53 (0, 0)) (by (repeat refine oneB ?_); refine blk_put (cs := #[.int .i64 ((yaa l0_2 a3).f0), .int .i64 ((yaa l0_2 a3).f1), .int .i64 ((yaa l0_2 a3).f2), .int .i64 0]) ?_ 3 _ rfl; refine blk_put (cs := #[.int .i64 ((yaa l0_2 a3).f0), .int .i64 ((yaa l0_2 a3).f1), .int .i64 0, .int .i64 0]) ?_ 2 _ rfl; refine blk_put (cs := #[.int .i64 ((yaa l0_2 a3).f0), .int .i64 0, .int .i64 0, .int .i64 0]) ?_ 1 _ rfl; refine blk_put (cs := #[.int .i64 0, .int .i64 0, .int .i64 0, .int .i64 0]) ?_ 0 _ rfl; exact upB a9.out) hb); replace HB := yab (yam (by repeat (with_reducible first | exact HB.out | apply yad | apply yac | apply yae | refine yaf ?_ (Aside0.out ‹_›))) hb); clear hb c0; obtain ⟨h7, h8, h9⟩ := Kd.R_slice b5.out; subst h9) | ((with_reducible refine gate_builtin (b := .append) (xs := #[.tmp 48, .tmp 63]) rfl ?_); at_builtin; refine Kd.R_append_rows (yaj .u8) (w0 := w) w.heap.size rfl (.tmp 48) (.tmp 63) 22 5 (.int .u8 0) 1 rfl Try.underlying22 info5 rfl (by decide) (by omega) u3 b6 y117 _ _ _ (fun k_ => some k_ ≠ (.slice h7 y117.length h8 : Value).ownBlock) (fun _ => False) rfl rfl ?aO ?aR (fun _ _ h => h) (fun _ h => h.elim) ?aF ?aB ?aS ?aL ?_; (case aR => repeat (first | exact (Kd.R_reads' b5.out).2.2 | (with_reducible refine Kd.C_alloc ?_ _) | (with_reducible refine Kd.C_drewN ?_ _) | (with_reducible refine Kd.C_drew ?_))); (case aB => exact (by repeat (with_reducible first | exact HB.out | apply yad | apply yac | apply yae | refine yaf ?_ (Aside0.out ‹_›)))); (case aF => exact (fun k_ hk => Kd.fresh' (Kd.R_lt (upR b5.out)) k_ hk)); (case aO => exact (by (with_reducible repeat (first | apply yak | apply yal | apply yao)); exact yap a5.out (fun _ hk => by first | exact hk.2 | exact True.intro))); (case aS => exact (yai (by repeat (with_reducible first | exact HB.out | apply yad | apply yac | apply yae | refine yaf ?_ (Aside0.out ‹_›))))); (case aL => have := LMc26.out; omega); intro k8 w33 ho hb hg hat; rw [← Ny120.out] at ho; replace a4 := yab (blk_grown (upB a4.out) hg (Kd.R_ne a5.out a4.out (by decide))); replace a9 := yab (blk_grown (upB a9.out) hg (Kd.R_ne a5.out a9.out (by decide))); replace b5 := yab (Kd.R_after (ok := (fun _ => True)) (upR b5.out) hg hat); replace HB := yab (hb); have i0 := yab (ho); clear a5; clear ho hb hg hat)))
          go_roundg k2
          case measure => have := HK1.out; have := HK2.out; omega
          case rel => exact ⟨(y120), (wrap64 (a3 + b2)), (by first | rfl | (simp; done) | (simp [*]; done)), H', ⟨by have := HK1.out; have := HK2.out; omega⟩, ⟨by (with_reducible repeat (first | apply yak | apply yal | apply yao)); exact yap i0.out (fun _ hk => trivial)⟩, ⟨by exact upB a4.out⟩, ⟨by repeat (with_reducible first | exact HB.out | apply yad | apply yac | apply yae | refine yaf ?_ (Aside0.out ‹_›))⟩⟩
         ·
          rw [if_neg c26] at H
          exact absurd H (by simp)
        ·
         rw [if_neg c25] at H
         exact absurd H (by simp)
       ·
        rw [if_neg c24] at H
        exact absurd H (by simp)
   ·
    rw [if_neg c6] at H
    have j8 : decide (a3 < (l0_2.length : Int)) = false := decide_eq_false c6; clear c6; obtain rfl := Option.some.inj H; obtain ⟨m9, n0, n1⟩ := cc3_ a4.out; obtain ⟨n2, n3, n4⟩ := cf3_ a4.out
    go_wp2
    repeat (go_quiet (fail); try go_wp2)
    go_ret
    exact ⟨_, by first | rfl | (simp [*, errW_none, errW_some] <;> rfl), by first | exact a5.out | exact upR a5.out, by repeat (with_reducible first | exact HB.out | apply yad | apply yac | apply yae | refine yaf ?_ (Aside0.out ‹_›))⟩
end
section
/-- Nothing is packed in these laws. -/
def spec_PakPut.f (k : Nat) (l0 : List Int) : Option (List Int) := none
theorem spec_PakPut.calls (k : Nat) (A0 : Option Addr) (c0 : Nat) (l0 : List Int) (r : List Int) (w : World) (hr0 : Kd.C (Kd.int .u8) w A0 l0.length l0) (hc0 : l0.length ≤ c0) (h : spec_PakPut.f k l0 = some r) :
  Calls Try.prog 37 #[.slice A0 l0.length c0] w fun e w' => ∃ v0_ : Value, e = .returned (v0_) ∧ Kd.R (Kd.int .u8) 5 w' w.heap.size (fun _ => True) v0_ r ∧ Below w.heap.size w w' := by
 cases h
end
section
open Go.Proofs.YtljobjpldbdhoaaW.PrintWords.Aside0 renaming mk → yaa
open Go.Proofs.YtljobjpldbdhoaaW.PrintWords renaming pw_below_drewN → yab, below_alloc → yac, below_drew1 → yad

def spec_l5Body.f (k : Nat) (a0 : Int) (a1_0 : Int) (a1_1 : Int) (l1_2 : List (S53)) : Option (List Int) := if a0 = 68 then ((spec_l3Bytes.f k a1_0 a1_1 l1_2).bind fun t102 => (some t102)) else (if a0 = 85 then ((spec_l5Flip.f k a1_0 a1_1 l1_2).bind fun bt105 => ((spec_l3Bytes.f k bt105.1 bt105.2.1 bt105.2.2).bind fun t110 => (some t110))) else (if a0 = 82 then ((spec_l5Runs.f k a1_0 a1_1 l1_2).bind fun t113 => (some t113)) else ((spec_l3Bytes.f k a1_0 a1_1 l1_2).bind fun t116 => ((spec_PakPut.f k t116).bind fun t119 => (some t119)))))
set_option maxHeartbeats 8000000 in
set_option maxRecDepth 100000 in
theorem spec_l5Body.calls (k : Nat) (a0 : Int) (a1_0 : Int) (a1_1 : Int) (A1_2 : Option Addr) (c1_2 : Nat) (l1_2 : List (S53)) (r : List Int) (w : World) (hr1_2 : Kd.C k53 w A1_2 l1_2.length l1_2) (hc1_2 : l1_2.length ≤ c1_2) (h : spec_l5Body.f k a0 a1_0 a1_1 l1_2 = some r) :
  Calls Try.prog 29 #[.int .u8 a0, .agg #[.int .i64 a1_0, .int .i64 a1_1, .slice A1_2 l1_2.length c1_2]] w fun e w' => ∃ v0_ : Value, e = .returned (v0_) ∧ Kd.R (Kd.int .u8) 5 w' w.heap.size (fun _ => True) v0_ r ∧ Below w.heap.size w w' := by
 have hu25 := Try.underlying25; have HR1_2 := yaa hr1_2; have HC1_2 := yaa hc1_2; clear hr1_2 hc1_2; have HB := yaa (Below.refl w.heap.size w); have H : (if a0 = 68 then ((spec_l3Bytes.f k a1_0 a1_1 l1_2).bind fun b5 => (some b5)) else (if a0 = 85 then ((spec_l5Flip.f k a1_0 a1_1 l1_2).bind fun a9 => ((spec_l3Bytes.f k a9.1 a9.2.1 a9.2.2).bind fun b6 => (some b6))) else (if a0 = 82 then ((spec_l5Runs.f k a1_0 a1_1 l1_2).bind fun b7 => (some b7)) else ((spec_l3Bytes.f k a1_0 a1_1 l1_2).bind fun b0 => ((spec_PakPut.f k b0).bind fun b8 => (some b8)))))) = some r := h; clear h
 by_cases c3 : a0 = 68
 ·
  rw [if_pos c3] at H
  have e7 := beq_iff_eq.mpr c3; have e8 := bne_eq_false_iff_eq.mpr c3; clear c3; obtain ⟨b5, A4, H⟩ := bindA H; (try dsimp only at H); obtain rfl := Option.some.inj H
  go_enter Try.func29, Try.ntmps29
  go_wp2_with (first | ((with_reducible refine gd_ 3 rfl ?_); refine bx_ 3 rfl #[.int .i64 a1_0, .int .i64 a1_1, .slice A1_2 l1_2.length c1_2] 25 ?_; intro a5 hg w5 hbox hb; have a4 := yaa (hbox); have a6 := yaa ((by rw [hg]; exact (below_size (upH HB.out)) : w.heap.size ≤ a5)); replace HB := yaa (below_step (upH HB.out) hb); have b1 := a6; clear hb hbox hg; obtain ⟨e9, f0, f1⟩ := cc3_ a4.out; obtain ⟨f2, f3⟩ := cf2_ a4.out; have f4 := blk_frozen a4.out 2) | ((with_reducible refine gc_ 34 rfl ?_); refine gl_ (some 9) rfl Try.func34 #[.agg #[.int .i64 a1_0, .int .i64 a1_1, .slice A1_2 l1_2.length c1_2]] ?_; (with_reducible refine (spec_l3Bytes.calls k a1_0 a1_1 _ _ l1_2 b5 _ ?side1 ?side2 A4.out).mono ?_); (case side1 => repeat (first | exact (Kd.C_below HR1_2.out HB.out) | (with_reducible refine Kd.C_alloc ?_ _) | (with_reducible refine Kd.C_drewN ?_ _) | (with_reducible refine Kd.C_drew ?_))); (case side2 => exact HC1_2.out); rintro e w7 ⟨g3, rfl, ho0, hb⟩; refine ⟨_, rfl, ?_⟩; have b2 := yaa (Kd.R_lower ho0 (below_size (by repeat (with_reducible first | exact HB.out | apply yac | apply yab | apply yad | refine below_set ?_ (Aside0.out ‹_›))))); replace a4 := yaa (blk_below (upB a4.out) hb); replace HB := yaa (below_step (by repeat (with_reducible first | exact HB.out | apply yac | apply yab | apply yad | refine below_set ?_ (Aside0.out ‹_›))) hb); (try clear hb ho0)))
  go_ret
  exact ⟨_, by first | rfl | (simp [*, errW_none, errW_some] <;> rfl), by first | exact b2.out | exact upR b2.out, by repeat (with_reducible first | exact HB.out | apply yac | apply yab | apply yad | refine below_set ?_ (Aside0.out ‹_›))⟩
 ·
  rw [if_neg c3] at H
  have e7 := beq_eq_false_iff_ne.mpr c3; have e8 := bne_iff_ne.mpr c3
  by_cases c8 : a0 = 85
  ·
   rw [if_pos c8] at H
   have f5 := beq_iff_eq.mpr c8; have f6 := bne_eq_false_iff_eq.mpr c8; clear c8; obtain ⟨⟨c1, c2, c4⟩, A9, H⟩ := bindA H; (try dsimp only at H); obtain ⟨b6, A10, H⟩ := bindA H; (try dsimp only at H); obtain rfl := Option.some.inj H
   go_enter Try.func29, Try.ntmps29
   go_wp2_with (first | ((with_reducible refine gd_ 3 rfl ?_); refine bx_ 3 rfl #[.int .i64 a1_0, .int .i64 a1_1, .slice A1_2 l1_2.length c1_2] 25 ?_; intro a5 hg w11 hbox hb; have a4 := yaa (hbox); have a6 := yaa ((by rw [hg]; exact (below_size (upH HB.out)) : w.heap.size ≤ a5)); replace HB := yaa (below_step (upH HB.out) hb); have b1 := a6; clear hb hbox hg; obtain ⟨c9, d0, d1⟩ := cc3_ a4.out; obtain ⟨d2, d3⟩ := cf2_ a4.out; have d4 := blk_frozen a4.out 2) | ((with_reducible refine gc_ 35 rfl ?_); refine gl_ (some 13) rfl Try.func35 #[.agg #[.int .i64 a1_0, .int .i64 a1_1, .slice A1_2 l1_2.length c1_2]] ?_; (with_reducible refine (spec_l5Flip.calls k a1_0 a1_1 _ _ l1_2 c1 c2 c4 _ ?side1 ?side2 A9.out).mono ?_); (case side1 => repeat (first | exact (Kd.C_below HR1_2.out HB.out) | (with_reducible refine Kd.C_alloc ?_ _) | (with_reducible refine Kd.C_drewN ?_ _) | (with_reducible refine Kd.C_drew ?_))); (case side2 => exact HC1_2.out); rintro e w13 ⟨g4, rfl, ho0, hb⟩; refine ⟨_, rfl, ?_⟩; have a8 := yaa (Kd.R_lower ho0 (below_size (by repeat (with_reducible first | exact HB.out | apply yac | apply yab | apply yad | refine below_set ?_ (Aside0.out ‹_›))))); replace a4 := yaa (blk_below (upB a4.out) hb); replace HB := yaa (below_step (by repeat (with_reducible first | exact HB.out | apply yac | apply yab | apply yad | refine below_set ?_ (Aside0.out ‹_›))) hb); (try clear hb ho0); obtain ⟨f7, f8, f9⟩ := Kd.R_slice a8.out; subst f9) | ((with_reducible refine gc_ 34 rfl ?_); refine gl_ (some 14) rfl Try.func34 #[.agg #[.int .i64 c1, .int .i64 c2, .slice f7 c4.length f8]] ?_; (with_reducible refine (spec_l3Bytes.calls k c1 c2 _ _ c4 b6 _ ?side1 ?side2 A10.out).mono ?_); (case side1 => repeat (first | exact (Kd.R_reads' a8.out).2.2 | (with_reducible refine Kd.C_alloc ?_ _) | (with_reducible refine Kd.C_drewN ?_ _) | (with_reducible refine Kd.C_drew ?_))); (case side2 => exact (Kd.R_reads' a8.out).2.1); rintro e w15 ⟨g5, rfl, ho0, hb⟩; refine ⟨_, rfl, ?_⟩; replace a8 := yaa (Kd.R_below (upR a8.out) hb); have b3 := yaa (Kd.R_lower ho0 (below_size (by repeat (with_reducible first | exact HB.out | apply yac | apply yab | apply yad | refine below_set ?_ (Aside0.out ‹_›))))); replace a4 := yaa (blk_below (upB a4.out) hb); replace HB := yaa (below_step (by repeat (with_reducible first | exact HB.out | apply yac | apply yab | apply yad | refine below_set ?_ (Aside0.out ‹_›))) hb); (try clear hb ho0)))
   go_ret
   exact ⟨_, by first | rfl | (simp [*, errW_none, errW_some] <;> rfl), by first | exact b3.out | exact upR b3.out, by repeat (with_reducible first | exact HB.out | apply yac | apply yab | apply yad | refine below_set ?_ (Aside0.out ‹_›))⟩
  ·
   rw [if_neg c8] at H
   have f5 := beq_eq_false_iff_ne.mpr c8; have f6 := bne_iff_ne.mpr c8
   by_cases c16 : a0 = 82
   ·
    rw [if_pos c16] at H
    have c5 := beq_iff_eq.mpr c16; have c6 := bne_eq_false_iff_eq.mpr c16; clear c16; obtain ⟨b7, A17, H⟩ := bindA H; (try dsimp only at H); obtain rfl := Option.some.inj H
    go_enter Try.func29, Try.ntmps29
    go_wp2_with (first | ((with_reducible refine gd_ 3 rfl ?_); refine bx_ 3 rfl #[.int .i64 a1_0, .int .i64 a1_1, .slice A1_2 l1_2.length c1_2] 25 ?_; intro a5 hg w18 hbox hb; have a4 := yaa (hbox); have a6 := yaa ((by rw [hg]; exact (below_size (upH HB.out)) : w.heap.size ≤ a5)); replace HB := yaa (below_step (upH HB.out) hb); have b1 := a6; clear hb hbox hg; obtain ⟨d5, d6, d7⟩ := cc3_ a4.out; obtain ⟨d8, d9⟩ := cf2_ a4.out; have e0 := blk_frozen a4.out 2) | ((with_reducible refine gc_ 36 rfl ?_); refine gl_ (some 18) rfl Try.func36 #[.agg #[.int .i64 a1_0, .int .i64 a1_1, .slice A1_2 l1_2.length c1_2]] ?_; (with_reducible refine (spec_l5Runs.calls k a1_0 a1_1 _ _ l1_2 b7 _ ?side1 ?side2 A17.out).mono ?_); (case side1 => repeat (first | exact (Kd.C_below HR1_2.out HB.out) | (with_reducible refine Kd.C_alloc ?_ _) | (with_reducible refine Kd.C_drewN ?_ _) | (with_reducible refine Kd.C_drew ?_))); (case side2 => exact HC1_2.out); rintro e w20 ⟨g6, rfl, ho0, hb⟩; refine ⟨_, rfl, ?_⟩; have b4 := yaa (Kd.R_lower ho0 (below_size (by repeat (with_reducible first | exact HB.out | apply yac | apply yab | apply yad | refine below_set ?_ (Aside0.out ‹_›))))); replace a4 := yaa (blk_below (upB a4.out) hb); replace HB := yaa (below_step (by repeat (with_reducible first | exact HB.out | apply yac | apply yab | apply yad | refine below_set ?_ (Aside0.out ‹_›))) hb); (try clear hb ho0)))
    go_ret
    exact ⟨_, by first | rfl | (simp [*, errW_none, errW_some] <;> rfl), by first | exact b4.out | exact upR b4.out, by repeat (with_reducible first | exact HB.out | apply yac | apply yab | apply yad | refine below_set ?_ (Aside0.out ‹_›))⟩
   ·
    rw [if_neg c16] at H
    have c5 := beq_eq_false_iff_ne.mpr c16; have c6 := bne_iff_ne.mpr c16; obtain ⟨b0, A21, H⟩ := bindA H; (try dsimp only at H); obtain ⟨b8, A22, H⟩ := bindA H; (try dsimp only at H); obtain rfl := Option.some.inj H
    go_enter Try.func29, Try.ntmps29
    go_wp2_with (first | ((with_reducible refine gd_ 3 rfl ?_); refine bx_ 3 rfl #[.int .i64 a1_0, .int .i64 a1_1, .slice A1_2 l1_2.length c1_2] 25 ?_; intro a5 hg w23 hbox hb; have a4 := yaa (hbox); have a6 := yaa ((by rw [hg]; exact (below_size (upH HB.out)) : w.heap.size ≤ a5)); replace HB := yaa (below_step (upH HB.out) hb); have b1 := a6; clear hb hbox hg; obtain ⟨e1, e2, e3⟩ := cc3_ a4.out; obtain ⟨e4, e5⟩ := cf2_ a4.out; have e6 := blk_frozen a4.out 2) | ((with_reducible refine gc_ 34 rfl ?_); refine gl_ (some 20) rfl Try.func34 #[.agg #[.int .i64 a1_0, .int .i64 a1_1, .slice A1_2 l1_2.length c1_2]] ?_; (with_reducible refine (spec_l3Bytes.calls k a1_0 a1_1 _ _ l1_2 b0 _ ?side1 ?side2 A21.out).mono ?_); (case side1 => repeat (first | exact (Kd.C_below HR1_2.out HB.out) | (with_reducible refine Kd.C_alloc ?_ _) | (with_reducible refine Kd.C_drewN ?_ _) | (with_reducible refine Kd.C_drew ?_))); (case side2 => exact HC1_2.out); rintro e w25 ⟨g7, rfl, ho0, hb⟩; refine ⟨_, rfl, ?_⟩; have a7 := yaa (Kd.R_lower ho0 (below_size (by repeat (with_reducible first | exact HB.out | apply yac | apply yab | apply yad | refine below_set ?_ (Aside0.out ‹_›))))); replace a4 := yaa (blk_below (upB a4.out) hb); replace HB := yaa (below_step (by repeat (with_reducible first | exact HB.out | apply yac | apply yab | apply yad | refine below_set ?_ (Aside0.out ‹_›))) hb); (try clear hb ho0); obtain ⟨g0, g1, g2⟩ := Kd.R_slice a7.out; subst g2) | ((with_reducible refine gc_ 37 rfl ?_); refine gl_ (some 21) rfl Try.func37 #[.slice g0 b0.length g1] ?_; (with_reducible refine (spec_PakPut.calls k _ _ b0 b8 _ ?side1 ?side2 A22.out).mono ?_); (case side1 => repeat (first | exact (Kd.R_reads' a7.out).2.2 | (with_reducible refine Kd.C_alloc ?_ _) | (with_reducible refine Kd.C_drewN ?_ _) | (with_reducible refine Kd.C_drew ?_))); (case side2 => exact (Kd.R_reads' a7.out).2.1); rintro e w27 ⟨g8, rfl, ho0, hb⟩; refine ⟨_, rfl, ?_⟩; have c7 := yaa (Kd.R_lower (Kd.R_new' ho0 (Kd.R_lt (upR a7.out))) (below_size (by repeat (with_reducible first | exact HB.out | apply yac | apply yab | apply yad | refine below_set ?_ (Aside0.out ‹_›))))); replace a7 := yaa (Kd.R_elder' (upR a7.out) (Kd.R_base ho0) hb); replace a4 := yaa (blk_below (upB a4.out) hb); replace HB := yaa (below_step (by repeat (with_reducible first | exact HB.out | apply yac | apply yab | apply yad | refine below_set ?_ (Aside0.out ‹_›))) hb); (try clear hb ho0)))
    go_ret
    exact ⟨_, by first | rfl | (simp [*, errW_none, errW_some] <;> rfl), by (with_reducible repeat (first | apply Kd.R_alloc | apply Kd.R_drewN | apply Kd.R_drew)); exact Kd.R_mono c7.out (fun _ hk => trivial), by repeat (with_reducible first | exact HB.out | apply yac | apply yab | apply yad | refine below_set ?_ (Aside0.out ‹_›))⟩
end
section
def spec_SumOf.l0 : Nat → List Int → Int → Int → Int → Option (Int)
  | 0, _, _, _, _ => none
  | k + 1, x0, x3, x4, x5 => if x5 < (x0.length : Int) then (if 0 ≤ x5 then (spec_SumOf.l0 k x0 (Int.tmod (wrap64 (x3 + (wrap64 (rd x0 x5)))) 65521) (Int.tmod (wrap64 (x4 + (Int.tmod (wrap64 (x3 + (wrap64 (rd x0 x5)))) 65521))) 65521) (wrap64 (x5 + 1))) else (none)) else (some (wrap64 ((wrap64 (x4 * 65536)) + x3)))
def spec_SumOf.f (k : Nat) (l0 : List Int) : Option (Int) := spec_SumOf.l0 k l0 1 0 0
set_option maxHeartbeats 8000000 in
set_option maxRecDepth 100000 in
theorem spec_SumOf.calls (k : Nat) (A0 : Option Addr) (c0 : Nat) (l0 : List Int) (r : Int) (w : World) (hr0 : Kd.C (Kd.int .u8) w A0 l0.length l0) (hc0 : l0.length ≤ c0) (h : spec_SumOf.f k l0 = some r) :
    Calls Try.prog 38 #[.slice A0 l0.length c0] w fun e w' => e = .returned (.int .i64 r) ∧ Drawn0 w w' := by
  have HR0 := Aside0.mk hr0; have HC0 := Aside0.mk hc0; clear hr0 hc0; have H : (spec_SumOf.l0 k l0 1 0 0) = some r := h; clear h; have H' := Aside0.mk H; clear H
  go_enter Try.func38, Try.ntmps38
  go_wp2
  (try simp only [Act.put, List.setIfInBounds_toArray, List.set_cons_zero, List.set_cons_succ])
  go_loopg [3, 4, 5] k (fun kq v3 v4 v5 w' => ∃ (x3_1 : Int) (x4_1 : Int) (x5_1 : Int), v3 = .int .i64 x3_1 ∧ v4 = .int .i64 x4_1 ∧ v5 = .int .i64 x5_1 ∧ Aside0 (spec_SumOf.l0 kq l0 x3_1 x4_1 x5_1 = some r) ∧ Aside0 (kq ≤ k) ∧ Drawn0 w w')
  case atStart => exact ⟨(1), (0), (0), (by first | rfl | (simp; done) | (simp [*]; done)), (by first | rfl | (simp; done) | (simp [*]; done)), (by first | rfl | (simp; done) | (simp [*]; done)), H', ⟨Nat.le_refl _⟩, by repeat (first | exact Drawn0.refl _ | apply Drawn0.step)⟩
  case round =>
    clear H'; obtain ⟨x3_1, x4_1, x5_1, rfl, rfl, rfl, HA, HK1, ⟨m1, rfl⟩⟩ := hrel
    cases gk with
    | zero => exact absurd HA.out (by simp [spec_SumOf.l0])
    | succ k1 =>
      have H := HA.out; clear HA
      simp only [spec_SumOf.l0] at H
      by_cases c2 : x5_1 < (l0.length : Int)
      · rw [if_pos c2] at H
        have c2b0 : decide (x5_1 < (l0.length : Int)) = true := decide_eq_true c2; clear c2
        by_cases c3 : 0 ≤ x5_1
        · rw [if_pos c3] at H
          replace c3 := decide_eq_true c3; have H' := Aside0.mk H; clear H; have p101 : 0 ≤ (x5_1 : Int) := of_decide_eq_true (by assumption); have q101 : x5_1 < (l0.length : Int) := of_decide_eq_true (by assumption); obtain ⟨ad101, e101, hx101_0⟩ := Kd.at_int HR0.out x5_1 p101 q101
          cases e101
          replace p101 := eq_true p101; replace q101 := eq_true q101
          go_wp2
          go_roundg k1
          case measure => have := HK1.out; omega
          case rel => exact ⟨(Int.tmod (wrap64 (x3_1 + (wrap64 (rd l0 x5_1)))) 65521), (Int.tmod (wrap64 (x4_1 + (Int.tmod (wrap64 (x3_1 + (wrap64 (rd l0 x5_1)))) 65521))) 65521), (wrap64 (x5_1 + 1)), (by first | rfl | (simp; done) | (simp [*]; done)), (by first | rfl | (simp; done) | (simp [*]; done)), (by first | rfl | (simp; done) | (simp [*]; done)), H', ⟨by have := HK1.out; omega⟩, by repeat (first | exact Drawn0.refl _ | apply Drawn0.step)⟩
        · rw [if_neg c3] at H
          exact absurd H (by simp)
      · rw [if_neg c2] at H
        have c2b0 : decide (x5_1 < (l0.length : Int)) = false := decide_eq_false c2; clear c2; obtain rfl := Option.some.inj H
        go_wp2
        go_ret
        exact ⟨by first | rfl | (simp; done) | (simp [*]; done), by repeat (first | exact Drawn0.refl _ | apply Drawn0.step)⟩
end
section
def spec_l5Sum.f (k : Nat) (l0 : List Int) : Option (List Int) := (spec_SumOf.f k l0).bind fun t101 => (some (([(wrap64 (Int.tdiv t101 16777216)) % 256, (Int.tmod (wrap64 (Int.tdiv t101 65536)) 256) % 256, (Int.tmod (wrap64 (Int.tdiv t101 256)) 256) % 256, (Int.tmod t101 256) % 256] : List Int)))
set_option maxHeartbeats 8000000 in
set_option maxRecDepth 100000 in
theorem spec_l5Sum.calls (k : Nat) (A0 : Option Addr) (c0 : Nat) (l0 : List Int) (r : List Int) (w : World) (hr0 : Kd.C (Kd.int .u8) w A0 l0.length l0) (hc0 : l0.length ≤ c0) (h : spec_l5Sum.f k l0 = some r) :
    Calls Try.prog 30 #[.slice A0 l0.length c0] w fun e w' => ∃ v0_ : Value, e = .returned (v0_) ∧ Kd.R (Kd.int .u8) 5 w' w.heap.size (fun _ => True) v0_ r ∧ Below w.heap.size w w' := by
  have HR0 := Aside0.mk hr0; have HC0 := Aside0.mk hc0; clear hr0 hc0; have HB := Aside0.mk (Below.refl w.heap.size w); have H : ((spec_SumOf.f k l0).bind fun t101 => (some (([(wrap64 (Int.tdiv t101 16777216)) % 256, (Int.tmod (wrap64 (Int.tdiv t101 65536)) 256) % 256, (Int.tmod (wrap64 (Int.tdiv t101 256)) 256) % 256, (Int.tmod t101 256) % 256] : List Int)))) = some r := h; clear h; obtain ⟨t101, A2, H⟩ := bindA H; (try dsimp only at H); obtain ⟨y102, hy102⟩ : ∃ y_ : List Int, y_ = (([(wrap64 (Int.tdiv t101 16777216)) % 256, (Int.tmod (wrap64 (Int.tdiv t101 65536)) 256) % 256, (Int.tmod (wrap64 (Int.tdiv t101 256)) 256) % 256, (Int.tmod t101 256) % 256] : List Int)) := ⟨_, rfl⟩
  replace H : (some y102) = some r := by first | (rw [hy102]; with_reducible exact H) | (have H2_ := (Option.bind_some _ _).symm.trans H; rw [hy102]; with_reducible exact H2_) | (have H2_ := (Option.bind_some _ _).symm.trans H; with_reducible exact H2_) | with_reducible exact H | (rw [hy102]; exact H) | exact H
  have Ny102 := Aside0.mk hy102; clear hy102; obtain rfl := Option.some.inj H
  go_enter Try.func30, Try.ntmps30
  go_wp2_with (first | ((with_reducible refine gc_ 38 rfl ?_); refine gl_ (some 5) rfl Try.func38 #[.slice A0 l0.length c0] ?_; (with_reducible refine (spec_SumOf.calls k _ _ l0 t101 _ ?side1 ?side2 A2.out).mono ?_); (case side1 => repeat (first | exact HR0.out | (with_reducible refine Kd.C_alloc ?_ _) | (with_reducible refine Kd.C_drewN ?_ _) | (with_reducible refine Kd.C_drew ?_))); (case side2 => exact HC0.out); rintro e w' ⟨rfl, ⟨nd, rfl⟩⟩; refine ⟨_, rfl, ?_⟩) | ((with_reducible refine gd_ 20 rfl ?_); refine Kd.R_lit (Kd.int .u8) _ 5 ?hg (N := 20) ?hd (xs := ([(wrap64 (Int.tdiv t101 16777216)) % 256, (Int.tmod (wrap64 (Int.tdiv t101 65536)) 256) % 256, (Int.tmod (wrap64 (Int.tdiv t101 256)) 256) % 256, (Int.tmod t101 256) % 256] : List Int)) (inner := [.int .u8 ((wrap64 (Int.tdiv t101 16777216)) % 256), .int .u8 ((Int.tmod (wrap64 (Int.tdiv t101 65536)) 256) % 256), .int .u8 ((Int.tmod (wrap64 (Int.tdiv t101 256)) 256) % 256), .int .u8 ((Int.tmod t101 256) % 256)]) (ok := fun _ => True) (okp := fun _ => True) ?hr ?hp (fun _ hk => hk) trivial (Below.refl _ _) (Nat.le_refl _) (by simp) ?_; (case hd => rfl); (case hg => rfl); (case hr => first | (go_simp; done) | (go_simp; rfl)); (case hp => exact (Reps.one (show Kd.M (Kd.int .u8) _ _ _ ((wrap64 (Int.tdiv t101 16777216)) % 256) [.int .u8 ((wrap64 (Int.tdiv t101 16777216)) % 256)] from rfl) (Reps.one (show Kd.M (Kd.int .u8) _ _ _ ((Int.tmod (wrap64 (Int.tdiv t101 65536)) 256) % 256) [.int .u8 ((Int.tmod (wrap64 (Int.tdiv t101 65536)) 256) % 256)] from rfl) (Reps.one (show Kd.M (Kd.int .u8) _ _ _ ((Int.tmod (wrap64 (Int.tdiv t101 256)) 256) % 256) [.int .u8 ((Int.tmod (wrap64 (Int.tdiv t101 256)) 256) % 256)] from rfl) (Reps.one (show Kd.M (Kd.int .u8) _ _ _ ((Int.tmod t101 256) % 256) [.int .u8 ((Int.tmod t101 256) % 256)] from rfl) (Reps.none _ _)))))); intro v103 w3 ho4 hb hg_ hnew_; clear hg_ hnew_; (first | rw [← Ny102.out] at ho4 | (simp only [Int.reduceToNat] at ho4; rw [← Ny102.out] at ho4)); have HO104 := Aside0.mk (Kd.R_lower ho4 (below_size (upH HB.out))); replace HB := Aside0.mk (below_step (upH HB.out) hb); clear hb ho4))
  go_ret
  exact ⟨_, by first | rfl | (simp [*, errW_none, errW_some] <;> rfl), by first | exact HO104.out | exact upR HO104.out, upH HB.out⟩
end
section
open Go.Proofs.YtljobjpldbdhoaaW.PrintWords.Aside0 renaming mk → yaa
open Go.Proofs.YtljobjpldbdhoaaW.PrintWords renaming pw_below_drewN → yab, below_alloc → yac, below_drew1 → yad

def spec_l5File.f (k : Nat) (a0 : Int) (l1 : List Int) (a2_0 : Int) (a2_1 : Int) (l2_2 : List (S53)) : Option (List Int) := (spec_l5Body.f k a0 a2_0 a2_1 l2_2).bind fun t102 => ((some (([a0, ((l1.length : Int)) % 256] : List Int) : List Int)).bind fun y105 => (if y105.length + l1.length < 140737488355328 then ((some (y105 ++ l1 : List Int)).bind fun y108 => (if y108.length + t102.length < 140737488355328 then ((some (y108 ++ t102 : List Int)).bind fun y111 => ((spec_l5Sum.f k t102).bind fun t114 => (if y111.length + t114.length < 140737488355328 then (some (y111 ++ t114)) else (none)))) else (none))) else (none)))
set_option maxHeartbeats 8000000 in
set_option maxRecDepth 100000 in
theorem spec_l5File.calls (k : Nat) (a0 : Int) (A1 : Option Addr) (c1 : Nat) (l1 : List Int) (a2_0 : Int) (a2_1 : Int) (A2_2 : Option Addr) (c2_2 : Nat) (l2_2 : List (S53)) (r : List Int) (w : World) (hr1 : Kd.C (Kd.int .u8) w A1 l1.length l1) (hc1 : l1.length ≤ c1) (hr2_2 : Kd.C k53 w A2_2 l2_2.length l2_2) (hc2_2 : l2_2.length ≤ c2_2) (h : spec_l5File.f k a0 l1 a2_0 a2_1 l2_2 = some r) :
  Calls Try.prog 21 #[.int .u8 a0, .slice A1 l1.length c1, .agg #[.int .i64 a2_0, .int .i64 a2_1, .slice A2_2 l2_2.length c2_2]] w fun e w' => ∃ v0_ : Value, e = .returned (v0_) ∧ Kd.R (Kd.int .u8) 5 w' w.heap.size (fun _ => True) v0_ r ∧ Below w.heap.size w w' := by
 have hu25 := Try.underlying25; have HR1 := yaa hr1; have HC1 := yaa hc1; clear hr1 hc1; have HR2_2 := yaa hr2_2; have HC2_2 := yaa hc2_2; clear hr2_2 hc2_2; have HB := yaa (Below.refl w.heap.size w); have H : ((spec_l5Body.f k a0 a2_0 a2_1 l2_2).bind fun a7 => ((some (([a0, ((l1.length : Int)) % 256] : List Int) : List Int)).bind fun y105 => (if y105.length + l1.length < 140737488355328 then ((some (y105 ++ l1 : List Int)).bind fun y108 => (if y108.length + a7.length < 140737488355328 then ((some (y108 ++ a7 : List Int)).bind fun y111 => ((spec_l5Sum.f k a7).bind fun a8 => (if y111.length + a8.length < 140737488355328 then (some (y111 ++ a8)) else (none)))) else (none))) else (none)))) = some r := h; clear h; obtain ⟨a7, A4, H⟩ := bindA H; (try dsimp only at H); obtain ⟨y105, hy105, H⟩ := bindY H; (try dsimp only at H); have Ny105 := yaa hy105; clear hy105
 by_cases c5 : y105.length + l1.length < 140737488355328
 ·
  rw [if_pos c5] at H
  have LMc5 := yaa c5; clear c5; obtain ⟨y108, hy108⟩ : ∃ y_ : List Int, y_ = (y105 ++ l1) := ⟨_, rfl⟩
  replace H : (if y108.length + a7.length < 140737488355328 then ((some (y108 ++ a7 : List Int)).bind fun y111 => ((spec_l5Sum.f k a7).bind fun a8 => (if y111.length + a8.length < 140737488355328 then (some (y111 ++ a8)) else (none)))) else (none)) = some r := by first | (rw [hy108]; with_reducible exact H) | (have H2_ := (Option.bind_some _ _).symm.trans H; rw [hy108]; with_reducible exact H2_) | (have H2_ := (Option.bind_some _ _).symm.trans H; with_reducible exact H2_) | with_reducible exact H | (rw [hy108]; exact H) | exact H
  have Ny108 := yaa hy108; clear hy108
  by_cases c6 : y108.length + a7.length < 140737488355328
  ·
   rw [if_pos c6] at H
   have LMc6 := yaa c6; clear c6; obtain ⟨y111, hy111⟩ : ∃ y_ : List Int, y_ = (y108 ++ a7) := ⟨_, rfl⟩
   replace H : ((spec_l5Sum.f k a7).bind fun a8 => (if y111.length + a8.length < 140737488355328 then (some (y111 ++ a8)) else (none))) = some r := by first | (rw [hy111]; with_reducible exact H) | (have H2_ := (Option.bind_some _ _).symm.trans H; rw [hy111]; with_reducible exact H2_) | (have H2_ := (Option.bind_some _ _).symm.trans H; with_reducible exact H2_) | with_reducible exact H | (rw [hy111]; exact H) | exact H
   have Ny111 := yaa hy111; clear hy111; obtain ⟨a8, A7, H⟩ := bindA H; (try dsimp only at H)
   by_cases c8 : y111.length + a8.length < 140737488355328
   ·
    rw [if_pos c8] at H
    have LMc8 := yaa c8; clear c8; obtain ⟨y117, hy117⟩ : ∃ y_ : List Int, y_ = (y111 ++ a8) := ⟨_, rfl⟩
    replace H : (some y117) = some r := by first | (rw [hy117]; with_reducible exact H) | (have H2_ := (Option.bind_some _ _).symm.trans H; rw [hy117]; with_reducible exact H2_) | (have H2_ := (Option.bind_some _ _).symm.trans H; with_reducible exact H2_) | with_reducible exact H | (rw [hy117]; exact H) | exact H
    have Ny117 := yaa hy117; clear hy117; obtain rfl := Option.some.inj H
    go_enter Try.func21, Try.ntmps21
    go_wp2_with (first | ((with_reducible refine gd_ 5 rfl ?_); refine bx_ 5 rfl #[.int .i64 a2_0, .int .i64 a2_1, .slice A2_2 l2_2.length c2_2] 25 ?_; intro b6 hg w9 hbox hb; have a6 := yaa (hbox); have b7 := yaa ((by rw [hg]; exact (below_size (upH HB.out)) : w.heap.size ≤ b6)); replace HB := yaa (below_step (upH HB.out) hb); have d7 := b7; clear hb hbox hg; obtain ⟨c2, c3, c4⟩ := cc3_ a6.out; obtain ⟨c7, c9⟩ := cf2_ a6.out; have d0 := blk_frozen a6.out 2) | ((with_reducible refine gc_ 29 rfl ?_); refine gl_ (some 11) rfl Try.func29 #[.int .u8 a0, .agg #[.int .i64 a2_0, .int .i64 a2_1, .slice A2_2 l2_2.length c2_2]] ?_; (with_reducible refine (spec_l5Body.calls k a0 a2_0 a2_1 _ _ l2_2 a7 _ ?side1 ?side2 A4.out).mono ?_); (case side1 => repeat (first | exact (Kd.C_below HR2_2.out HB.out) | (with_reducible refine Kd.C_alloc ?_ _) | (with_reducible refine Kd.C_drewN ?_ _) | (with_reducible refine Kd.C_drew ?_))); (case side2 => exact HC2_2.out); rintro e w11 ⟨d1, rfl, ho0, hb⟩; refine ⟨_, rfl, ?_⟩; have a5 := yaa (Kd.R_lower ho0 (below_size (by repeat (with_reducible first | exact HB.out | apply yac | apply yab | apply yad | refine below_set ?_ (Aside0.out ‹_›))))); replace a6 := yaa (blk_below (upB a6.out) hb); replace HB := yaa (below_step (by repeat (with_reducible first | exact HB.out | apply yac | apply yab | apply yad | refine below_set ?_ (Aside0.out ‹_›))) hb); (try clear hb ho0)) | ((with_reducible refine gd_ 16 rfl ?_); refine Kd.R_lit (Kd.int .u8) _ 5 ?hg (N := 16) ?hd (xs := ([a0, ((l1.length : Int)) % 256] : List Int)) (inner := [.int .u8 a0, .int .u8 (((l1.length : Int)) % 256)]) (ok := fun _ => True) (okp := fun _ => True) ?hr ?hp (fun _ hk => hk) trivial (Below.refl _ _) (Nat.le_refl _) (by simp) ?_; (case hd => rfl); (case hg => rfl); (case hr => first | (go_simp; done) | (go_simp; rfl)); (case hp => exact (Reps.one (show Kd.M (Kd.int .u8) _ _ _ a0 [.int .u8 a0] from rfl) (Reps.one (show Kd.M (Kd.int .u8) _ _ _ (((l1.length : Int)) % 256) [.int .u8 (((l1.length : Int)) % 256)] from rfl) (Reps.none _ _)))); intro d2 w12 b1 hb hg_ hnew_; clear hg_ hnew_; (first | rw [← Ny105.out] at b1 | (simp only [Int.reduceToNat] at b1; rw [← Ny105.out] at b1)); have b2 := yaa (Kd.R_lower (Kd.R_new' b1 (Kd.R_lt (upR a5.out))) (below_size (by repeat (with_reducible first | exact HB.out | apply yac | apply yab | apply yad | refine below_set ?_ (Aside0.out ‹_›))))); replace a5 := yaa (Kd.R_elder' (upR a5.out) (Kd.R_base b1) hb); replace a6 := yaa (blk_below (upB a6.out) hb); replace HB := yaa (below_step (by repeat (with_reducible first | exact HB.out | apply yac | apply yab | apply yad | refine below_set ?_ (Aside0.out ‹_›))) hb); clear hb b1) | ((with_reducible refine gate_builtin (b := .append) (xs := #[.tmp 16, .tmp 17]) rfl ?_); at_builtin; refine Kd.R_append_rows (Kd.int .u8) (w0 := w) w.heap.size rfl (.tmp 16) (.tmp 17) 22 5 (.int .u8 0) 1 rfl Try.underlying22 info5 rfl (by decide) (by omega) d2 y105 l1 _ _ _ (fun k_ => some k_ ≠ (d1 : Value).ownBlock) (fun _ => False) rfl rfl ?aO ?aR (fun _ _ h => h) (fun _ h => h.elim) ?aF ?aB ?aS ?aL ?_; (case aR => repeat (first | exact (Kd.C_below HR1.out HB.out) | (with_reducible refine Kd.C_alloc ?_ _) | (with_reducible refine Kd.C_drewN ?_ _) | (with_reducible refine Kd.C_drew ?_))); (case aB => exact (by repeat (with_reducible first | exact HB.out | apply yac | apply yab | apply yad | refine below_set ?_ (Aside0.out ‹_›)))); (case aF => exact (fun k_ hk => Kd.fresh' (Kd.R_lt (upR a5.out)) k_ hk)); (case aO => exact (by (with_reducible repeat (first | apply Kd.R_alloc | apply Kd.R_drewN | apply Kd.R_drew)); exact Kd.R_mono b2.out (fun _ hk => by first | exact hk.2 | exact True.intro))); (case aS => exact (below_size (by repeat (with_reducible first | exact HB.out | apply yac | apply yab | apply yad | refine below_set ?_ (Aside0.out ‹_›))))); (case aL => have := LMc5.out; omega); intro d3 w14 ho hb hg hat; rw [← Ny108.out] at ho; replace a6 := yaa (blk_grown (upB a6.out) hg (Kd.R_ne b2.out a6.out (by decide))); replace a5 := yaa (Kd.R_after (ok := (fun _ => True)) (upR a5.out) hg hat); replace HB := yaa (hb); have b3 := yaa (ho); clear b2; clear ho hb hg hat; obtain ⟨b4, b5, d4⟩ := Kd.R_slice a5.out; subst d4) | ((with_reducible refine gate_builtin (b := .append) (xs := #[.tmp 19, .tmp 20]) rfl ?_); at_builtin; refine Kd.R_append_rows (Kd.int .u8) (w0 := w) w.heap.size rfl (.tmp 19) (.tmp 20) 22 5 (.int .u8 0) 1 rfl Try.underlying22 info5 rfl (by decide) (by omega) d3 y108 a7 _ _ _ (fun k_ => some k_ ≠ (.slice b4 a7.length b5 : Value).ownBlock) (fun _ => False) rfl rfl ?aO ?aR (fun _ _ h => h) (fun _ h => h.elim) ?aF ?aB ?aS ?aL ?_; (case aR => repeat (first | exact (Kd.R_reads' a5.out).2.2 | (with_reducible refine Kd.C_alloc ?_ _) | (with_reducible refine Kd.C_drewN ?_ _) | (with_reducible refine Kd.C_drew ?_))); (case aB => exact (by repeat (with_reducible first | exact HB.out | apply yac | apply yab | apply yad | refine below_set ?_ (Aside0.out ‹_›)))); (case aF => exact (fun k_ hk => Kd.fresh' (Kd.R_lt (upR a5.out)) k_ hk)); (case aO => exact (upR b3.out)); (case aS => exact (below_size (by repeat (with_reducible first | exact HB.out | apply yac | apply yab | apply yad | refine below_set ?_ (Aside0.out ‹_›))))); (case aL => have := LMc6.out; omega); intro d5 w15 ho hb hg hat; rw [← Ny111.out] at ho; replace a6 := yaa (blk_grown (upB a6.out) hg (Kd.R_ne b3.out a6.out (by decide))); replace a5 := yaa (Kd.R_after (ok := (fun _ => True)) (upR a5.out) hg hat); replace HB := yaa (hb); have a9 := yaa (ho); clear b3; clear ho hb hg hat) | ((with_reducible refine gc_ 30 rfl ?_); refine gl_ (some 23) rfl Try.func30 #[.slice b4 a7.length b5] ?_; (with_reducible refine (spec_l5Sum.calls k _ _ a7 a8 _ ?side1 ?side2 A7.out).mono ?_); (case side1 => repeat (first | exact (Kd.R_reads' a5.out).2.2 | (with_reducible refine Kd.C_alloc ?_ _) | (with_reducible refine Kd.C_drewN ?_ _) | (with_reducible refine Kd.C_drew ?_))); (case side2 => exact (Kd.R_reads' a5.out).2.1); rintro e w17 ⟨e0, rfl, ho0, hb⟩; refine ⟨_, rfl, ?_⟩; have b0 := yaa (Kd.R_lower (Kd.R_new' (Kd.R_new' ho0 (Kd.R_lt (upR a5.out))) (Kd.R_lt (upR a9.out))) (below_size (by repeat (with_reducible first | exact HB.out | apply yac | apply yab | apply yad | refine below_set ?_ (Aside0.out ‹_›))))); replace a5 := yaa (Kd.R_elder' (upR a5.out) (Kd.R_base ho0) hb); replace a9 := yaa (Kd.R_elder' (upR a9.out) (Kd.R_base ho0) hb); replace a6 := yaa (blk_below (upB a6.out) hb); replace HB := yaa (below_step (by repeat (with_reducible first | exact HB.out | apply yac | apply yab | apply yad | refine below_set ?_ (Aside0.out ‹_›))) hb); (try clear hb ho0); obtain ⟨b8, b9, d6⟩ := Kd.R_slice b0.out; subst d6) | ((with_reducible refine gate_builtin (b := .append) (xs := #[.tmp 21, .tmp 23]) rfl ?_); at_builtin; refine Kd.R_append_rows (Kd.int .u8) (w0 := w) w.heap.size rfl (.tmp 21) (.tmp 23) 22 5 (.int .u8 0) 1 rfl Try.underlying22 info5 rfl (by decide) (by omega) d5 y111 a8 _ _ _ (fun k_ => some k_ ≠ (.slice b4 a7.length b5 : Value).ownBlock ∧ some k_ ≠ (.slice b8 a8.length b9 : Value).ownBlock) (fun _ => False) rfl rfl ?aO ?aR (fun _ _ h => h) (fun _ h => h.elim) ?aF ?aB ?aS ?aL ?_; (case aR => repeat (first | exact (Kd.R_reads' b0.out).2.2 | (with_reducible refine Kd.C_alloc ?_ _) | (with_reducible refine Kd.C_drewN ?_ _) | (with_reducible refine Kd.C_drew ?_))); (case aB => exact (by repeat (with_reducible first | exact HB.out | apply yac | apply yab | apply yad | refine below_set ?_ (Aside0.out ‹_›)))); (case aF => exact (fun k_ hk => ⟨Kd.fresh' (Kd.R_lt (upR a5.out)) k_ hk, Kd.fresh' (Kd.R_lt (upR b0.out)) k_ hk⟩)); (case aO => exact (upR a9.out)); (case aS => exact (below_size (by repeat (with_reducible first | exact HB.out | apply yac | apply yab | apply yad | refine below_set ?_ (Aside0.out ‹_›))))); (case aL => have := LMc8.out; omega); intro e1 w18 ho hb hg hat; rw [← Ny117.out] at ho; replace a6 := yaa (blk_grown (upB a6.out) hg (Kd.R_ne a9.out a6.out (by decide))); replace a5 := yaa (Kd.R_after (ok := (fun k_ => some k_ ≠ (.slice b8 a8.length b9 : Value).ownBlock)) (by (with_reducible repeat (first | apply Kd.R_alloc | apply Kd.R_drewN | apply Kd.R_drew)); exact Kd.R_mono a5.out (fun _ hk => ⟨hk.2, hk.1.2⟩)) hg hat); replace b0 := yaa (Kd.R_after (ok := (fun k_ => some k_ ≠ (.slice b4 a7.length b5 : Value).ownBlock)) (by (with_reducible repeat (first | apply Kd.R_alloc | apply Kd.R_drewN | apply Kd.R_drew)); exact Kd.R_mono b0.out (fun _ hk => ⟨hk.1.2, hk.2⟩)) hg hat); replace HB := yaa (hb); have c0 := yaa (ho); clear a9; clear ho hb hg hat))
    go_ret
    exact ⟨_, by first | rfl | (simp [*, errW_none, errW_some] <;> rfl), by (with_reducible repeat (first | apply Kd.R_alloc | apply Kd.R_drewN | apply Kd.R_drew)); exact Kd.R_mono c0.out (fun _ hk => trivial), by repeat (with_reducible first | exact HB.out | apply yac | apply yab | apply yad | refine below_set ?_ (Aside0.out ‹_›))⟩
   ·
    rw [if_neg c8] at H
    exact absurd H (by simp)
  ·
   rw [if_neg c6] at H
   exact absurd H (by simp)
 ·
  rw [if_neg c5] at H
  exact absurd H (by simp)
end
section
open Go.Proofs.YtljobjpldbdhoaaW.PrintWords.Aside0 renaming mk → yaa
open Go.Proofs.YtljobjpldbdhoaaW.PrintWords renaming pw_below_drewN → yab, below_alloc → yac, below_drew1 → yad

def spec_FormWrite.f (k : Nat) (a0 : Int) (l1 : List Int) (a2_0 : Int) (a2_1 : Int) (l2_2 : List (S53)) : Option (List Int) := (spec_l5Kind.f a0).bind fun t102 => (if t102 = true then (if (l1.length : Int) > 9 then (some (([] : List Int))) else ((spec_RasOk.f k a2_0 a2_1 l2_2).bind fun t106 => (if t106 = true then ((spec_l5File.f k a0 l1 a2_0 a2_1 l2_2).bind fun t107 => (some t107)) else (some (([] : List Int)))))) else (some (([] : List Int))))
set_option maxHeartbeats 8000000 in
set_option maxRecDepth 100000 in
theorem spec_FormWrite.calls (k : Nat) (a0 : Int) (A1 : Option Addr) (c1 : Nat) (l1 : List Int) (a2_0 : Int) (a2_1 : Int) (A2_2 : Option Addr) (c2_2 : Nat) (l2_2 : List (S53)) (r : List Int) (w : World) (hr1 : Kd.C (Kd.int .u8) w A1 l1.length l1) (hc1 : l1.length ≤ c1) (hr2_2 : Kd.C k53 w A2_2 l2_2.length l2_2) (hc2_2 : l2_2.length ≤ c2_2) (h : spec_FormWrite.f k a0 l1 a2_0 a2_1 l2_2 = some r) :
  Calls Try.prog 7 #[.int .u8 a0, .slice A1 l1.length c1, .agg #[.int .i64 a2_0, .int .i64 a2_1, .slice A2_2 l2_2.length c2_2]] w fun e w' => ∃ v0_ : Value, e = .returned (v0_) ∧ Kd.R (Kd.int .u8) 5 w' w.heap.size (fun _ => True) v0_ r ∧ Below w.heap.size w w' := by
 have hu25 := Try.underlying25; have HR1 := yaa hr1; have HC1 := yaa hc1; clear hr1 hc1; have HR2_2 := yaa hr2_2; have HC2_2 := yaa hc2_2; clear hr2_2 hc2_2; have HB := yaa (Below.refl w.heap.size w); have H : ((spec_l5Kind.f a0).bind fun b5 => (if b5 = true then (if (l1.length : Int) > 9 then (some (([] : List Int))) else ((spec_RasOk.f k a2_0 a2_1 l2_2).bind fun b6 => (if b6 = true then ((spec_l5File.f k a0 l1 a2_0 a2_1 l2_2).bind fun b7 => (some b7)) else (some (([] : List Int)))))) else (some (([] : List Int))))) = some r := h; clear h; obtain ⟨b5, A4, H⟩ := bindA H; (try dsimp only at H)
 by_cases c5 : b5 = true
 ·
  subst c5
  rw [if_pos rfl] at H
  by_cases c6 : (l1.length : Int) > 9
  ·
   rw [if_pos c6] at H
   have e1 : decide (9 < (l1.length : Int)) = true := decide_eq_true c6; have e2 : decide (9 < l1.length) = true := decide_eq_true (by omega); clear c6; obtain ⟨y103, hy103⟩ : ∃ y_ : List Int, y_ = (([] : List Int)) := ⟨_, rfl⟩
   replace H : (some y103) = some r := by first | (rw [hy103]; with_reducible exact H) | (have H2_ := (Option.bind_some _ _).symm.trans H; rw [hy103]; with_reducible exact H2_) | (have H2_ := (Option.bind_some _ _).symm.trans H; with_reducible exact H2_) | with_reducible exact H | (rw [hy103]; exact H) | exact H
   have Ny103 := yaa hy103; clear hy103; obtain rfl := Option.some.inj H
   go_enter Try.func7, Try.ntmps7
   go_wp2_with (first | ((with_reducible refine gd_ 5 rfl ?_); (try (refine gate_guard (by rfl) ?_; dsimp only)); refine bx_ 5 rfl #[.int .i64 a2_0, .int .i64 a2_1, .slice A2_2 l2_2.length c2_2] 25 ?_; intro a6 hg w7 hbox hb; have a5 := yaa (hbox); have a7 := yaa ((by rw [hg]; exact (below_size (upH HB.out)) : w.heap.size ≤ a6)); replace HB := yaa (below_step (upH HB.out) hb); have a8 := a7; clear hb hbox hg) | ((with_reducible refine gc_ 20 rfl ?_); refine gl_ (some 8) rfl Try.func20 #[.int .u8 a0] ?_; (with_reducible refine (spec_l5Kind.calls a0 true _ A4.out).mono ?_); rintro e w' ⟨rfl, ⟨nd, rfl⟩⟩; refine ⟨_, rfl, ?_⟩) | ((with_reducible refine gd_ 20 rfl ?_); (try (refine gate_guard (by rfl) ?_; dsimp only)); refine Kd.R_lit (Kd.int .u8) _ 5 ?hg (N := 20) ?hd (xs := ([] : List Int)) (inner := []) (ok := fun _ => True) (okp := fun _ => True) ?hr ?hp (fun _ hk => hk) trivial (Below.refl _ _) (Nat.le_refl _) (by simp) ?_; (case hd => rfl); (case hg => rfl); (case hr => first | (go_simp; done) | (go_simp; rfl)); (case hp => exact (Reps.none _ _)); intro e3 w8 ho9 hb hg_ hnew_; clear hg_ hnew_; (first | rw [← Ny103.out] at ho9 | (simp only [Int.reduceToNat] at ho9; rw [← Ny103.out] at ho9)); have b1 := yaa (Kd.R_lower ho9 (below_size (by repeat (with_reducible first | exact HB.out | apply yac | apply yab | apply yad | refine below_set ?_ (Aside0.out ‹_›))))); replace a5 := yaa (blk_below (upB a5.out) hb); replace HB := yaa (below_step (by repeat (with_reducible first | exact HB.out | apply yac | apply yab | apply yad | refine below_set ?_ (Aside0.out ‹_›))) hb); clear hb ho9))
   go_ret
   exact ⟨_, by first | rfl | (simp [*, errW_none, errW_some] <;> rfl), by first | exact b1.out | exact upR b1.out, by repeat (with_reducible first | exact HB.out | apply yac | apply yab | apply yad | refine below_set ?_ (Aside0.out ‹_›))⟩
  ·
   rw [if_neg c6] at H
   have e1 : decide (9 < (l1.length : Int)) = false := decide_eq_false c6; have e2 : decide (9 < l1.length) = false := decide_eq_false (by omega); clear c6; obtain ⟨b6, A10, H⟩ := bindA H; (try dsimp only at H)
   by_cases c11 : b6 = true
   ·
    subst c11
    rw [if_pos rfl] at H
    obtain ⟨b7, A12, H⟩ := bindA H; (try dsimp only at H); obtain rfl := Option.some.inj H
    go_enter Try.func7, Try.ntmps7
    go_wp2_with (first | ((with_reducible refine gd_ 5 rfl ?_); (try (refine gate_guard (by rfl) ?_; dsimp only)); refine bx_ 5 rfl #[.int .i64 a2_0, .int .i64 a2_1, .slice A2_2 l2_2.length c2_2] 25 ?_; intro a6 hg w13 hbox hb; have a5 := yaa (hbox); have a7 := yaa ((by rw [hg]; exact (below_size (upH HB.out)) : w.heap.size ≤ a6)); replace HB := yaa (below_step (upH HB.out) hb); have a8 := a7; clear hb hbox hg) | ((with_reducible refine gc_ 20 rfl ?_); refine gl_ (some 8) rfl Try.func20 #[.int .u8 a0] ?_; (with_reducible refine (spec_l5Kind.calls a0 true _ A4.out).mono ?_); rintro e w' ⟨rfl, ⟨nd, rfl⟩⟩; refine ⟨_, rfl, ?_⟩; obtain ⟨c0, c2, c3⟩ := cc3_ a5.out; obtain ⟨c4, c7⟩ := cf2_ a5.out; have c8 := blk_frozen a5.out 2) | (go_at_call 8; (with_reducible refine (spec_RasOk.calls k a2_0 a2_1 _ _ l2_2 true _ ?side1 ?side2 A10.out).mono ?_); (case side1 => repeat (first | exact (Kd.C_below HR2_2.out (by repeat (with_reducible first | exact HB.out | apply yac | apply yab | apply yad | refine below_set ?_ (Aside0.out ‹_›)))) | (with_reducible refine Kd.C_alloc ?_ _) | (with_reducible refine Kd.C_drewN ?_ _) | (with_reducible refine Kd.C_drew ?_))); (case side2 => exact HC2_2.out); rintro e w15 ⟨rfl, hb⟩; replace a5 := yaa (blk_below (upB a5.out) hb); replace HB := yaa (below_step (by repeat (with_reducible first | exact HB.out | apply yac | apply yab | apply yad | refine below_set ?_ (Aside0.out ‹_›))) hb); (try clear hb); obtain ⟨c9, d0, d1⟩ := cc3_ a5.out; obtain ⟨d2, d3⟩ := cf2_ a5.out; have d4 := blk_frozen a5.out 2) | ((with_reducible refine gc_ 21 rfl ?_); refine gl_ (some 24) rfl Try.func21 #[.int .u8 a0, .slice A1 l1.length c1, .agg #[.int .i64 a2_0, .int .i64 a2_1, .slice A2_2 l2_2.length c2_2]] ?_; (with_reducible refine (spec_l5File.calls k a0 _ _ l1 a2_0 a2_1 _ _ l2_2 b7 _ ?side1 ?side2 ?side3 ?side4 A12.out).mono ?_); (case side1 => repeat (first | exact (Kd.C_below HR1.out HB.out) | (with_reducible refine Kd.C_alloc ?_ _) | (with_reducible refine Kd.C_drewN ?_ _) | (with_reducible refine Kd.C_drew ?_))); (case side2 => exact HC1.out); (case side3 => repeat (first | exact (Kd.C_below HR2_2.out HB.out) | (with_reducible refine Kd.C_alloc ?_ _) | (with_reducible refine Kd.C_drewN ?_ _) | (with_reducible refine Kd.C_drew ?_))); (case side4 => exact HC2_2.out); rintro e w17 ⟨e4, rfl, ho0, hb⟩; refine ⟨_, rfl, ?_⟩; have b2 := yaa (Kd.R_lower ho0 (below_size (by repeat (with_reducible first | exact HB.out | apply yac | apply yab | apply yad | refine below_set ?_ (Aside0.out ‹_›))))); replace a5 := yaa (blk_below (upB a5.out) hb); replace HB := yaa (below_step (by repeat (with_reducible first | exact HB.out | apply yac | apply yab | apply yad | refine below_set ?_ (Aside0.out ‹_›))) hb); (try clear hb ho0)))
    go_ret
    exact ⟨_, by first | rfl | (simp [*, errW_none, errW_some] <;> rfl), by first | exact b2.out | exact upR b2.out, by repeat (with_reducible first | exact HB.out | apply yac | apply yab | apply yad | refine below_set ?_ (Aside0.out ‹_›))⟩
   ·
    replace c11 := Bool.eq_false_iff.mpr c11
    subst c11
    rw [if_neg (show ¬ (false = true) by decide)] at H
    obtain ⟨y110, hy110⟩ : ∃ y_ : List Int, y_ = (([] : List Int)) := ⟨_, rfl⟩
    replace H : (some y110) = some r := by first | (rw [hy110]; with_reducible exact H) | (have H2_ := (Option.bind_some _ _).symm.trans H; rw [hy110]; with_reducible exact H2_) | (have H2_ := (Option.bind_some _ _).symm.trans H; with_reducible exact H2_) | with_reducible exact H | (rw [hy110]; exact H) | exact H
    have Ny110 := yaa hy110; clear hy110; obtain rfl := Option.some.inj H
    go_enter Try.func7, Try.ntmps7
    go_wp2_with (first | ((with_reducible refine gd_ 5 rfl ?_); (try (refine gate_guard (by rfl) ?_; dsimp only)); refine bx_ 5 rfl #[.int .i64 a2_0, .int .i64 a2_1, .slice A2_2 l2_2.length c2_2] 25 ?_; intro a6 hg w18 hbox hb; have a5 := yaa (hbox); have a7 := yaa ((by rw [hg]; exact (below_size (upH HB.out)) : w.heap.size ≤ a6)); replace HB := yaa (below_step (upH HB.out) hb); have a8 := a7; clear hb hbox hg) | ((with_reducible refine gc_ 20 rfl ?_); refine gl_ (some 8) rfl Try.func20 #[.int .u8 a0] ?_; (with_reducible refine (spec_l5Kind.calls a0 true _ A4.out).mono ?_); rintro e w' ⟨rfl, ⟨nd, rfl⟩⟩; refine ⟨_, rfl, ?_⟩; obtain ⟨d5, d6, d7⟩ := cc3_ a5.out; obtain ⟨d8, d9⟩ := cf2_ a5.out; have e0 := blk_frozen a5.out 2) | (go_at_call 8; (with_reducible refine (spec_RasOk.calls k a2_0 a2_1 _ _ l2_2 false _ ?side1 ?side2 A10.out).mono ?_); (case side1 => repeat (first | exact (Kd.C_below HR2_2.out (by repeat (with_reducible first | exact HB.out | apply yac | apply yab | apply yad | refine below_set ?_ (Aside0.out ‹_›)))) | (with_reducible refine Kd.C_alloc ?_ _) | (with_reducible refine Kd.C_drewN ?_ _) | (with_reducible refine Kd.C_drew ?_))); (case side2 => exact HC2_2.out); rintro e w20 ⟨rfl, hb⟩; replace a5 := yaa (blk_below (upB a5.out) hb); replace HB := yaa (below_step (by repeat (with_reducible first | exact HB.out | apply yac | apply yab | apply yad | refine below_set ?_ (Aside0.out ‹_›))) hb); (try clear hb)) | ((with_reducible refine gd_ 20 rfl ?_); (try (refine gate_guard (by rfl) ?_; dsimp only)); refine Kd.R_lit (Kd.int .u8) _ 5 ?hg (N := 20) ?hd (xs := ([] : List Int)) (inner := []) (ok := fun _ => True) (okp := fun _ => True) ?hr ?hp (fun _ hk => hk) trivial (Below.refl _ _) (Nat.le_refl _) (by simp) ?_; (case hd => rfl); (case hg => rfl); (case hr => first | (go_simp; done) | (go_simp; rfl)); (case hp => exact (Reps.none _ _)); intro e5 w21 a9 hb hg_ hnew_; clear hg_ hnew_; (first | rw [← Ny110.out] at a9 | (simp only [Int.reduceToNat] at a9; rw [← Ny110.out] at a9)); have b3 := yaa (Kd.R_lower a9 (below_size (by repeat (with_reducible first | exact HB.out | apply yac | apply yab | apply yad | refine below_set ?_ (Aside0.out ‹_›))))); replace a5 := yaa (blk_below (upB a5.out) hb); replace HB := yaa (below_step (by repeat (with_reducible first | exact HB.out | apply yac | apply yab | apply yad | refine below_set ?_ (Aside0.out ‹_›))) hb); clear hb a9))
    go_ret
    exact ⟨_, by first | rfl | (simp [*, errW_none, errW_some] <;> rfl), by first | exact b3.out | exact upR b3.out, by repeat (with_reducible first | exact HB.out | apply yac | apply yab | apply yad | refine below_set ?_ (Aside0.out ‹_›))⟩
 ·
  replace c5 := Bool.eq_false_iff.mpr c5
  subst c5
  rw [if_neg (show ¬ (false = true) by decide)] at H
  obtain ⟨y113, hy113⟩ : ∃ y_ : List Int, y_ = (([] : List Int)) := ⟨_, rfl⟩
  replace H : (some y113) = some r := by first | (rw [hy113]; with_reducible exact H) | (have H2_ := (Option.bind_some _ _).symm.trans H; rw [hy113]; with_reducible exact H2_) | (have H2_ := (Option.bind_some _ _).symm.trans H; with_reducible exact H2_) | with_reducible exact H | (rw [hy113]; exact H) | exact H
  have Ny113 := yaa hy113; clear hy113; obtain rfl := Option.some.inj H
  go_enter Try.func7, Try.ntmps7
  go_wp2_with (first | ((with_reducible refine gd_ 5 rfl ?_); (try (refine gate_guard (by rfl) ?_; dsimp only)); refine bx_ 5 rfl #[.int .i64 a2_0, .int .i64 a2_1, .slice A2_2 l2_2.length c2_2] 25 ?_; intro a6 hg w23 hbox hb; have a5 := yaa (hbox); have a7 := yaa ((by rw [hg]; exact (below_size (upH HB.out)) : w.heap.size ≤ a6)); replace HB := yaa (below_step (upH HB.out) hb); have a8 := a7; clear hb hbox hg) | ((with_reducible refine gc_ 20 rfl ?_); refine gl_ (some 8) rfl Try.func20 #[.int .u8 a0] ?_; (with_reducible refine (spec_l5Kind.calls a0 false _ A4.out).mono ?_); rintro e w' ⟨rfl, ⟨nd, rfl⟩⟩; refine ⟨_, rfl, ?_⟩) | ((with_reducible refine gd_ 20 rfl ?_); (try (refine gate_guard (by rfl) ?_; dsimp only)); refine Kd.R_lit (Kd.int .u8) _ 5 ?hg (N := 20) ?hd (xs := ([] : List Int)) (inner := []) (ok := fun _ => True) (okp := fun _ => True) ?hr ?hp (fun _ hk => hk) trivial (Below.refl _ _) (Nat.le_refl _) (by simp) ?_; (case hd => rfl); (case hg => rfl); (case hr => first | (go_simp; done) | (go_simp; rfl)); (case hp => exact (Reps.none _ _)); intro e6 w24 b0 hb hg_ hnew_; clear hg_ hnew_; (first | rw [← Ny113.out] at b0 | (simp only [Int.reduceToNat] at b0; rw [← Ny113.out] at b0)); have b4 := yaa (Kd.R_lower b0 (below_size (by repeat (with_reducible first | exact HB.out | apply yac | apply yab | apply yad | refine below_set ?_ (Aside0.out ‹_›))))); replace a5 := yaa (blk_below (upB a5.out) hb); replace HB := yaa (below_step (by repeat (with_reducible first | exact HB.out | apply yac | apply yab | apply yad | refine below_set ?_ (Aside0.out ‹_›))) hb); clear hb b0))
  go_ret
  exact ⟨_, by first | rfl | (simp [*, errW_none, errW_some] <;> rfl), by first | exact b4.out | exact upR b4.out, by repeat (with_reducible first | exact HB.out | apply yac | apply yab | apply yad | refine below_set ?_ (Aside0.out ‹_›))⟩
end
section
def laws_eaOk.f  : Option (Bool) := (impl_PixOk.f 1 2 3 4).bind fun t101 => (some t101)
set_option maxHeartbeats 8000000 in
set_option maxRecDepth 100000 in
theorem laws_eaOk.calls  (r : Bool) (w : World) (h : laws_eaOk.f  = some r) :
    Calls Try.prog 9 #[] w fun e w' => e = .returned (.bool r) ∧ Below w.heap.size w w' := by
  have hu53 := Try.underlying53; have HB := Aside0.mk (Below.refl w.heap.size w); have H : ((impl_PixOk.f 1 2 3 4).bind fun t101 => (some t101)) = some r := h; clear h; obtain ⟨t101, A1, H⟩ := bindA H; (try dsimp only at H); obtain rfl := Option.some.inj H
  go_enter Try.func9, Try.ntmps9
  go_wp2_with (first | ((with_reducible refine gc_ 24 rfl ?_); refine gl_ (some 2) rfl Try.func24 #[.agg #[.int .i64 1, .int .i64 2, .int .i64 3, .int .i64 4]] ?_; (with_reducible refine (impl_PixOk.calls 1 2 3 4 t101 _ A1.out).mono ?_); rintro e w2 ⟨rfl, hb⟩; refine ⟨_, rfl, ?_⟩; replace HB := Aside0.mk (below_step (upH HB.out) hb); (try clear hb)))
  go_ret
  exact ⟨by first | rfl | (simp [*, errW_none, errW_some] <;> rfl), upH HB.out⟩
end
section
theorem eqA34 (d : Nat) (w : World) (x0 y0 : Int) (x1 y1 : Int) (x2 y2 : Int) (x3 y3 : Int) (x4 y4 : Int) :
    (Op.equalIn (d + 2) 34 (.agg #[.int .i64 x0, .int .i64 x1, .int .i64 x2, .int .i64 x3, .int .i64 x4]) (.agg #[.int .i64 y0, .int .i64 y1, .int .i64 y2, .int .i64 y3, .int .i64 y4])).run Try.prog w = .ok (x0 == y0 && (x1 == y1 && (x2 == y2 && (x3 == y3 && (x4 == y4))))) w := by
  refine eqA_of Try.underlying34 (by kernel_rfl) ?_
  refine eqf_cons (by rfl) (by go_simp; rfl) (by go_simp; rfl) (by go_simp) ?_
  refine eqf_cons (by rfl) (by go_simp; rfl) (by go_simp; rfl) (by go_simp) ?_
  refine eqf_cons (by rfl) (by go_simp; rfl) (by go_simp; rfl) (by go_simp) ?_
  refine eqf_cons (by rfl) (by go_simp; rfl) (by go_simp; rfl) (by go_simp) ?_
  exact eqf_last (by rfl) (by go_simp; rfl) (by go_simp; rfl) (by go_simp)
end
section
def impl_within.f (a0 : Int) (a1 : Int) (a2 : Int) : Option (Bool) := if a0 ≥ a1 then (some (decide (a0 ≤ a2))) else (some false)
set_option maxHeartbeats 8000000 in
set_option maxRecDepth 100000 in
theorem impl_within.calls (a0 : Int) (a1 : Int) (a2 : Int) (r : Bool) (w : World) (h : impl_within.f a0 a1 a2 = some r) :
    Calls Try.prog 39 #[.int .i64 a0, .int .i64 a1, .int .i64 a2] w fun e w' => e = .returned (.bool r) ∧ Drawn0 w w' := by
  have H : (if a0 ≥ a1 then (some (decide (a0 ≤ a2))) else (some false)) = some r := h; clear h
  by_cases c4 : a0 ≥ a1
  · rw [if_pos c4] at H
    have c4b0 : decide (a1 ≤ a0) = true := decide_eq_true c4; clear c4; obtain rfl := Option.some.inj H
    go_enter Try.func39, Try.ntmps39
    go_wp2
    go_ret
    exact ⟨by first | rfl | (simp; done) | (simp [*]; done), by repeat (first | exact Drawn0.refl _ | apply Drawn0.step)⟩
  · rw [if_neg c4] at H
    have c4b0 : decide (a1 ≤ a0) = false := decide_eq_false c4; clear c4; obtain rfl := Option.some.inj H
    go_enter Try.func39, Try.ntmps39
    go_wp2
    go_ret
    exact ⟨by first | rfl | (simp; done) | (simp [*]; done), by repeat (first | exact Drawn0.refl _ | apply Drawn0.step)⟩
end
section
attribute [local go_sem high] eqA34
open Go.Proofs.YtljobjpldbdhoaaW.PrintWords renaming pw_below_drewN → yaa, below_alloc → yab, below_drew1 → yac, below_set → yae
open Go.Proofs.YtljobjpldbdhoaaW.PrintWords.Aside0 renaming mk → yad

def impl_OpOk.j0 : Nat → Int → Bool → Int → Int → Int → Int → Int → Option (Bool)
 | 0, _, _, _, _, _, _, _ => none
 | k + 1, x4, x25, x102000, x102001, x102002, x102003, x102004 => if x25 = true then (some (x102001 == 0 && (x102002 == 0 && (x102003 == 0 && (x102004 == 0))))) else (if x4 = 7 then ((impl_sizeOk.f x102001).bind fun t106 => (if t106 = true then ((impl_sizeOk.f x102002).bind fun t107 => (if t107 = true then (if x102003 = 0 then (some (x102004 == 0)) else (some false)) else (some false))) else (some false))) else (if x4 = 8 then ((impl_partOk.f x102001).bind fun t108 => (if t108 = true then ((impl_partOk.f x102002).bind fun t109 => (if t109 = true then ((impl_partOk.f x102003).bind fun t110 => (if t110 = true then (some (x102004 == 0)) else (some false))) else (some false))) else (some false))) else (some false)))
def impl_OpOk.f (k : Nat) (a0_0 : Int) (a0_1 : Int) (a0_2 : Int) (a0_3 : Int) (a0_4 : Int) : Option (Bool) := if a0_0 = 1 then ((impl_within.f a0_1 0 5).bind fun t102 => (if t102 = true then ((impl_within.f a0_2 0 5).bind fun t103 => (if t103 = true then ((impl_sizeOk.f a0_3).bind fun t104 => (if t104 = true then ((impl_sizeOk.f a0_4).bind fun t105 => (some t105)) else (some false))) else (some false))) else (some false))) else (if a0_0 = 2 then (impl_OpOk.j0 k a0_0 (a0_0 == 2) a0_0 a0_1 a0_2 a0_3 a0_4) else (if a0_0 = 3 then (impl_OpOk.j0 k a0_0 (a0_0 == 3) a0_0 a0_1 a0_2 a0_3 a0_4) else (if a0_0 = 4 then (impl_OpOk.j0 k a0_0 (a0_0 == 4) a0_0 a0_1 a0_2 a0_3 a0_4) else (if a0_0 = 5 then (impl_OpOk.j0 k a0_0 (a0_0 == 5) a0_0 a0_1 a0_2 a0_3 a0_4) else (impl_OpOk.j0 k a0_0 (a0_0 == 6) a0_0 a0_1 a0_2 a0_3 a0_4)))))
theorem impl_OpOk.mono_l : ∀ k, (∀ y0 y1 y2 y3 y4 y5 y6, LeO (impl_OpOk.j0 k y0 y1 y2 y3 y4 y5 y6) (impl_OpOk.j0 (k + 1) y0 y1 y2 y3 y4 y5 y6))
 | 0 => fun _ _ _ _ _ _ _ r h => by simp [impl_OpOk.j0] at h
 | k + 1 => by
  have ih0 := impl_OpOk.mono_l k
  ·
   intro y0 y1 y2 y3 y4 y5 y6
   unfold impl_OpOk.j0
   repeat' first | (with_reducible first | exact ih0 .. | exact LeO.refl .. | exact LeO.none .. | refine LeO.ite ?_ ?_ | refine LeO.bind ?_ (fun _ => ?_)) | exact ih0 .. | exact LeO.none .. | refine LeO.ite ?_ ?_ | refine LeO.bind ?_ (fun _ => ?_)
theorem impl_OpOk.mono : ∀ a0 a1 a2 a3 a4 k, LeO (impl_OpOk.f k a0 a1 a2 a3 a4) (impl_OpOk.f (k + 1) a0 a1 a2 a3 a4) := by
 intro a0 a1 a2 a3 a4 k
 have ih0 := impl_OpOk.mono_l k
 unfold impl_OpOk.f
 repeat' first | (with_reducible first | exact ih0 .. | exact LeO.refl .. | exact LeO.none .. | refine LeO.ite ?_ ?_ | refine LeO.bind ?_ (fun _ => ?_)) | exact ih0 .. | exact LeO.none .. | refine LeO.ite ?_ ?_ | refine LeO.bind ?_ (fun _ => ?_)
set_option maxHeartbeats 8000000 in
set_option maxRecDepth 100000 in
theorem impl_OpOk.calls (k : Nat) (a0_0 : Int) (a0_1 : Int) (a0_2 : Int) (a0_3 : Int) (a0_4 : Int) (r : Bool) (w : World) (h : impl_OpOk.f k a0_0 a0_1 a0_2 a0_3 a0_4 = some r) :
  Calls Try.prog 32 #[.agg #[.int .i64 a0_0, .int .i64 a0_1, .int .i64 a0_2, .int .i64 a0_3, .int .i64 a0_4]] w fun e w' => e = .returned (.bool r) ∧ Below w.heap.size w w' := by
 have hu34 := Try.underlying34; have HB := yad (Below.refl w.heap.size w); have H : (if a0_0 = 1 then ((impl_within.f a0_1 0 5).bind fun h6 => (if h6 = true then ((impl_within.f a0_2 0 5).bind fun h7 => (if h7 = true then ((impl_sizeOk.f a0_3).bind fun h8 => (if h8 = true then ((impl_sizeOk.f a0_4).bind fun h9 => (some h9)) else (some false))) else (some false))) else (some false))) else (if a0_0 = 2 then (impl_OpOk.j0 k a0_0 (a0_0 == 2) a0_0 a0_1 a0_2 a0_3 a0_4) else (if a0_0 = 3 then (impl_OpOk.j0 k a0_0 (a0_0 == 3) a0_0 a0_1 a0_2 a0_3 a0_4) else (if a0_0 = 4 then (impl_OpOk.j0 k a0_0 (a0_0 == 4) a0_0 a0_1 a0_2 a0_3 a0_4) else (if a0_0 = 5 then (impl_OpOk.j0 k a0_0 (a0_0 == 5) a0_0 a0_1 a0_2 a0_3 a0_4) else (impl_OpOk.j0 k a0_0 (a0_0 == 6) a0_0 a0_1 a0_2 a0_3 a0_4)))))) = some r := h; clear h
 by_cases c2 : a0_0 = 1
 ·
  rw [if_pos c2] at H
  have i0 := beq_iff_eq.mpr c2; have i1 := bne_eq_false_iff_eq.mpr c2; clear c2; obtain ⟨h6, A3, H⟩ := bindA H; (try dsimp only at H)
  by_cases c4 : h6 = true
  ·
   subst c4
   rw [if_pos rfl] at H
   obtain ⟨h7, A5, H⟩ := bindA H; (try dsimp only at H)
   by_cases c6 : h7 = true
   ·
    subst c6
    rw [if_pos rfl] at H
    obtain ⟨h8, A7, H⟩ := bindA H; (try dsimp only at H)
    by_cases c8 : h8 = true
    ·
     subst c8
     rw [if_pos rfl] at H
     obtain ⟨h9, A9, H⟩ := bindA H; (try dsimp only at H); obtain rfl := Option.some.inj H
     go_enter Try.func32, Try.ntmps32
     go_wp2_with (first | ((with_reducible refine gd_ 1 rfl ?_); refine bx_ 1 rfl #[.int .i64 a0_0, .int .i64 a0_1, .int .i64 a0_2, .int .i64 a0_3, .int .i64 a0_4] 34 ?_; intro a6 hg w10 hbox hb; have a5 := yad (hbox); have a7 := yad ((by rw [hg]; exact (below_size (upH HB.out)) : w.heap.size ≤ a6)); replace HB := yad (below_step (upH HB.out) hb); have b2 := a7; clear hb hbox hg; obtain ⟨b3, b4, b5, b6, b7⟩ := cc5_ a5.out; obtain ⟨b8, b9, c0, c1⟩ := cf4_ a5.out; have c7 := blk_frozen a5.out 4) | ((with_reducible refine gc_ 39 rfl ?_); refine gl_ (some 9) rfl Try.func39 #[.int .i64 a0_1, .int .i64 0, .int .i64 5] ?_; (with_reducible refine (impl_within.calls a0_1 0 5 true _ A3.out).mono ?_); rintro e w' ⟨rfl, ⟨nd, rfl⟩⟩; refine ⟨_, rfl, ?_⟩) | (go_at_call 39; (with_reducible refine (impl_within.calls a0_2 0 5 true _ A5.out).mono ?_); rintro e w' ⟨rfl, ⟨nd, rfl⟩⟩) | (go_at_call 27; (with_reducible refine (impl_sizeOk.calls a0_3 true _ A7.out).mono ?_); rintro e w' ⟨rfl, ⟨nd, rfl⟩⟩) | (go_at_call 27; (with_reducible refine (impl_sizeOk.calls a0_4 h9 _ A9.out).mono ?_); rintro e w' ⟨rfl, ⟨nd, rfl⟩⟩))
     go_ret
     exact ⟨by first | rfl | (simp [*, errW_none, errW_some] <;> rfl), by repeat (with_reducible first | exact HB.out | apply yab | apply yaa | apply yac | refine yae ?_ (Aside0.out ‹_›))⟩
    ·
     replace c8 := Bool.eq_false_iff.mpr c8
     subst c8
     rw [if_neg (show ¬ (false = true) by decide)] at H
     obtain rfl := Option.some.inj H
     go_enter Try.func32, Try.ntmps32
     go_wp2_with (first | ((with_reducible refine gd_ 1 rfl ?_); refine bx_ 1 rfl #[.int .i64 a0_0, .int .i64 a0_1, .int .i64 a0_2, .int .i64 a0_3, .int .i64 a0_4] 34 ?_; intro a6 hg w12 hbox hb; have a5 := yad (hbox); have a7 := yad ((by rw [hg]; exact (below_size (upH HB.out)) : w.heap.size ≤ a6)); replace HB := yad (below_step (upH HB.out) hb); have b2 := a7; clear hb hbox hg; obtain ⟨c9, d0, d1, d2, d3⟩ := cc5_ a5.out; obtain ⟨d4, d5, d6, d7⟩ := cf4_ a5.out; have d8 := blk_frozen a5.out 4) | ((with_reducible refine gc_ 39 rfl ?_); refine gl_ (some 9) rfl Try.func39 #[.int .i64 a0_1, .int .i64 0, .int .i64 5] ?_; (with_reducible refine (impl_within.calls a0_1 0 5 true _ A3.out).mono ?_); rintro e w' ⟨rfl, ⟨nd, rfl⟩⟩; refine ⟨_, rfl, ?_⟩) | (go_at_call 39; (with_reducible refine (impl_within.calls a0_2 0 5 true _ A5.out).mono ?_); rintro e w' ⟨rfl, ⟨nd, rfl⟩⟩) | (go_at_call 27; (with_reducible refine (impl_sizeOk.calls a0_3 false _ A7.out).mono ?_); rintro e w' ⟨rfl, ⟨nd, rfl⟩⟩))
     go_ret
     exact ⟨by first | rfl | (simp [*, errW_none, errW_some] <;> rfl), by repeat (with_reducible first | exact HB.out | apply yab | apply yaa | apply yac | refine yae ?_ (Aside0.out ‹_›))⟩
   ·
    replace c6 := Bool.eq_false_iff.mpr c6
    subst c6
    rw [if_neg (show ¬ (false = true) by decide)] at H
    obtain rfl := Option.some.inj H
    go_enter Try.func32, Try.ntmps32
    go_wp2_with (first | ((with_reducible refine gd_ 1 rfl ?_); refine bx_ 1 rfl #[.int .i64 a0_0, .int .i64 a0_1, .int .i64 a0_2, .int .i64 a0_3, .int .i64 a0_4] 34 ?_; intro a6 hg w14 hbox hb; have a5 := yad (hbox); have a7 := yad ((by rw [hg]; exact (below_size (upH HB.out)) : w.heap.size ≤ a6)); replace HB := yad (below_step (upH HB.out) hb); have b2 := a7; clear hb hbox hg; obtain ⟨d9, e0, e1, e2, e3⟩ := cc5_ a5.out; obtain ⟨e4, e5, e6, e7⟩ := cf4_ a5.out; have e8 := blk_frozen a5.out 4) | ((with_reducible refine gc_ 39 rfl ?_); refine gl_ (some 9) rfl Try.func39 #[.int .i64 a0_1, .int .i64 0, .int .i64 5] ?_; (with_reducible refine (impl_within.calls a0_1 0 5 true _ A3.out).mono ?_); rintro e w' ⟨rfl, ⟨nd, rfl⟩⟩; refine ⟨_, rfl, ?_⟩) | (go_at_call 39; (with_reducible refine (impl_within.calls a0_2 0 5 false _ A5.out).mono ?_); rintro e w' ⟨rfl, ⟨nd, rfl⟩⟩))
    go_ret
    exact ⟨by first | rfl | (simp [*, errW_none, errW_some] <;> rfl), by repeat (with_reducible first | exact HB.out | apply yab | apply yaa | apply yac | refine yae ?_ (Aside0.out ‹_›))⟩
  ·
   replace c4 := Bool.eq_false_iff.mpr c4
   subst c4
   rw [if_neg (show ¬ (false = true) by decide)] at H
   obtain rfl := Option.some.inj H
   go_enter Try.func32, Try.ntmps32
   go_wp2_with (first | ((with_reducible refine gd_ 1 rfl ?_); refine bx_ 1 rfl #[.int .i64 a0_0, .int .i64 a0_1, .int .i64 a0_2, .int .i64 a0_3, .int .i64 a0_4] 34 ?_; intro a6 hg w16 hbox hb; have a5 := yad (hbox); have a7 := yad ((by rw [hg]; exact (below_size (upH HB.out)) : w.heap.size ≤ a6)); replace HB := yad (below_step (upH HB.out) hb); have b2 := a7; clear hb hbox hg; obtain ⟨e9, f0, f1, f2, f3⟩ := cc5_ a5.out; obtain ⟨f4, f5, f6, f7⟩ := cf4_ a5.out; have f8 := blk_frozen a5.out 4) | ((with_reducible refine gc_ 39 rfl ?_); refine gl_ (some 9) rfl Try.func39 #[.int .i64 a0_1, .int .i64 0, .int .i64 5] ?_; (with_reducible refine (impl_within.calls a0_1 0 5 false _ A3.out).mono ?_); rintro e w' ⟨rfl, ⟨nd, rfl⟩⟩; refine ⟨_, rfl, ?_⟩))
   go_ret
   exact ⟨by first | rfl | (simp [*, errW_none, errW_some] <;> rfl), by repeat (with_reducible first | exact HB.out | apply yab | apply yaa | apply yac | refine yae ?_ (Aside0.out ‹_›))⟩
 ·
  rw [if_neg c2] at H
  have i0 := beq_eq_false_iff_ne.mpr c2; have i1 := bne_iff_ne.mpr c2; have HC18 := yad H; clear H
  go_enter Try.func32, Try.ntmps32
  go_upto_if 25 with (first | ((with_reducible refine gd_ 1 rfl ?_); refine bx_ 1 rfl #[.int .i64 a0_0, .int .i64 a0_1, .int .i64 a0_2, .int .i64 a0_3, .int .i64 a0_4] 34 ?_; intro a6 hg w19 hbox hb; have a5 := yad (hbox); have a7 := yad ((by rw [hg]; exact (below_size (upH HB.out)) : w.heap.size ≤ a6)); replace HB := yad (below_step (upH HB.out) hb); have b2 := a7; clear hb hbox hg; obtain ⟨f9, g0, g1, g2, g3⟩ := cc5_ a5.out; obtain ⟨g4, g5, g6, g7⟩ := cf4_ a5.out; have g8 := blk_frozen a5.out 4))
  (try simp only [Act.put, List.setIfInBounds_toArray, List.set_cons_zero, List.set_cons_succ])
  go_cut [25] (fun v25 wc => ∃ (kq : Nat) (b0 : Bool), v25 = .bool b0 ∧ Aside0 (impl_OpOk.j0 kq a0_0 b0 a0_0 a0_1 a0_2 a0_3 a0_4 = some r) ∧ Aside0 (kq ≤ k) ∧ Aside0 (wc.heap[a6]? = some (.cells #[.int .i64 a0_0, .int .i64 a0_1, .int .i64 a0_2, .int .i64 a0_3, .int .i64 a0_4] 34 (0, 0))) ∧ Aside0 (Below w.heap.size w wc))
  case first =>
   have H := HC18.out; clear HC18
   by_cases c21 : a0_0 = 2
   ·
    rw [if_pos c21] at H
    have a9 := beq_iff_eq.mpr c21; have g9 := bne_eq_false_iff_eq.mpr c21; clear c21
    (first | rw [a9] | (simp only [i64_w, i32_w]; rw [a9]) | skip)
    have H' := yad H; clear H
    go_wp2
    go_meet
    case rel => exact ⟨_, ((a0_0 == 2)), (by first | rfl | (simp; done) | (simp [*]; done)), H', ⟨by first | omega | exact Nat.le_refl _⟩, ⟨by exact upB a5.out⟩, ⟨by repeat (with_reducible first | exact HB.out | apply yab | apply yaa | apply yac | refine yae ?_ (Aside0.out ‹_›))⟩⟩
   ·
    rw [if_neg c21] at H
    have a9 := beq_eq_false_iff_ne.mpr c21; have g9 := bne_iff_ne.mpr c21
    (first | rw [a9] | (simp only [i64_w, i32_w]; rw [a9]) | skip)
    by_cases c22 : a0_0 = 3
    ·
     rw [if_pos c22] at H
     have h0 := beq_iff_eq.mpr c22; have h1 := bne_eq_false_iff_eq.mpr c22; clear c22; have H' := yad H; clear H
     go_wp2
     go_meet
     case rel => exact ⟨_, ((a0_0 == 3)), (by first | rfl | (simp; done) | (simp [*]; done)), H', ⟨by first | omega | exact Nat.le_refl _⟩, ⟨by exact upB a5.out⟩, ⟨by repeat (with_reducible first | exact HB.out | apply yab | apply yaa | apply yac | refine yae ?_ (Aside0.out ‹_›))⟩⟩
    ·
     rw [if_neg c22] at H
     have h0 := beq_eq_false_iff_ne.mpr c22; have h1 := bne_iff_ne.mpr c22
     by_cases c23 : a0_0 = 4
     ·
      rw [if_pos c23] at H
      have h2 := beq_iff_eq.mpr c23; have h3 := bne_eq_false_iff_eq.mpr c23; clear c23; have H' := yad H; clear H
      go_wp2
      go_meet
      case rel => exact ⟨_, ((a0_0 == 4)), (by first | rfl | (simp; done) | (simp [*]; done)), H', ⟨by first | omega | exact Nat.le_refl _⟩, ⟨by exact upB a5.out⟩, ⟨by repeat (with_reducible first | exact HB.out | apply yab | apply yaa | apply yac | refine yae ?_ (Aside0.out ‹_›))⟩⟩
     ·
      rw [if_neg c23] at H
      have h2 := beq_eq_false_iff_ne.mpr c23; have h3 := bne_iff_ne.mpr c23
      by_cases c24 : a0_0 = 5
      ·
       rw [if_pos c24] at H
       have h4 := beq_iff_eq.mpr c24; have h5 := bne_eq_false_iff_eq.mpr c24; clear c24; have H' := yad H; clear H
       go_wp2
       go_meet
       case rel => exact ⟨_, ((a0_0 == 5)), (by first | rfl | (simp; done) | (simp [*]; done)), H', ⟨by first | omega | exact Nat.le_refl _⟩, ⟨by exact upB a5.out⟩, ⟨by repeat (with_reducible first | exact HB.out | apply yab | apply yaa | apply yac | refine yae ?_ (Aside0.out ‹_›))⟩⟩
      ·
       rw [if_neg c24] at H
       have h4 := beq_eq_false_iff_ne.mpr c24; have h5 := bne_iff_ne.mpr c24; have H' := yad H; clear H
       go_wp2
       go_meet
       case rel => exact ⟨_, ((a0_0 == 6)), (by first | rfl | (simp; done) | (simp [*]; done)), H', ⟨by first | omega | exact Nat.le_refl _⟩, ⟨by exact upB a5.out⟩, ⟨by repeat (with_reducible first | exact HB.out | apply yab | apply yaa | apply yac | refine yae ?_ (Aside0.out ‹_›))⟩⟩
  case rest =>
   clear HC18; (try clear c2); (try clear i0); (try clear i1); (try clear p2); (try clear c3); (try clear c4); (try clear c6); (try clear c8); (try clear c21); (try clear a9); (try clear g9); (try clear c22); (try clear h0); (try clear h1); (try clear c23); (try clear h2); (try clear h3); (try clear c24); (try clear h4); (try clear h5); (try clear b3); (try clear b4); (try clear b5); (try clear b6); (try clear b7); (try clear c9); (try clear d0); (try clear d1); (try clear d2); (try clear d3); (try clear d9); (try clear e0); (try clear e1); (try clear e2); (try clear e3); (try clear e9); (try clear f0); (try clear f1); (try clear f2); (try clear f3); (try clear f9); (try clear g0); (try clear g1); (try clear g2); (try clear g3); (try clear b8); (try clear b9); (try clear c0); (try clear c1); (try clear c7); (try clear d4); (try clear d5); (try clear d6); (try clear d7); (try clear d8); (try clear e4); (try clear e5); (try clear e6); (try clear e7); (try clear e8); (try clear f4); (try clear f5); (try clear f6); (try clear f7); (try clear f8); (try clear g4); (try clear g5); (try clear g6); (try clear g7); (try clear g8); obtain ⟨kq, b0, rfl, HA, HJ17, a5, HB⟩ := hcut
   cases kq with
   | zero => exact absurd HA.out (by simp [impl_OpOk.j0])
   | succ kj17 =>
    have H := HA.out; clear HA
    simp only [impl_OpOk.j0] at H
    by_cases c25 : b0 = true
    ·
     subst c25
     rw [if_pos rfl] at H
     obtain rfl := Option.some.inj H; obtain ⟨i8, i9, j1, j2, j3⟩ := cc5_ a5.out; obtain ⟨j4, j5, j6, j7, j8⟩ := cf5_ a5.out
     go_wp2
     go_ret
     exact ⟨by first | rfl | (simp [*, errW_none, errW_some] <;> rfl), by repeat (with_reducible first | exact HB.out | apply yab | apply yaa | apply yac | refine yae ?_ (Aside0.out ‹_›))⟩
    ·
     replace c25 := Bool.eq_false_iff.mpr c25
     subst c25
     rw [if_neg (show ¬ (false = true) by decide)] at H
     by_cases c27 : a0_0 = 7
     ·
      rw [if_pos c27] at H
      have i2 := beq_iff_eq.mpr c27; have i3 := bne_eq_false_iff_eq.mpr c27; clear c27; obtain ⟨s0, A28, H⟩ := bindA H; (try dsimp only at H)
      by_cases c29 : s0 = true
      ·
       subst c29
       rw [if_pos rfl] at H
       obtain ⟨s1, A30, H⟩ := bindA H; (try dsimp only at H)
       by_cases c31 : s1 = true
       ·
        subst c31
        rw [if_pos rfl] at H
        by_cases c32 : a0_3 = 0
        ·
         rw [if_pos c32] at H
         have i4 := beq_iff_eq.mpr c32; have i5 := bne_eq_false_iff_eq.mpr c32; clear c32; obtain rfl := Option.some.inj H; obtain ⟨j9, k0, k1, k2, k3⟩ := cc5_ a5.out; obtain ⟨k4, k5, k6, k7, k8⟩ := cf5_ a5.out
         go_wp2_with (first | ((with_reducible refine gc_ 27 rfl ?_); refine gl_ (some 40) rfl Try.func27 #[.int .i64 a0_1] ?_; (with_reducible refine (impl_sizeOk.calls a0_1 true _ A28.out).mono ?_); rintro e w' ⟨rfl, ⟨nd, rfl⟩⟩; refine ⟨_, rfl, ?_⟩) | (go_at_call 27; (with_reducible refine (impl_sizeOk.calls a0_2 true _ A30.out).mono ?_); rintro e w' ⟨rfl, ⟨nd, rfl⟩⟩))
         go_ret
         exact ⟨by first | rfl | (simp [*, errW_none, errW_some] <;> rfl), by repeat (with_reducible first | exact HB.out | apply yab | apply yaa | apply yac | refine yae ?_ (Aside0.out ‹_›))⟩
        ·
         rw [if_neg c32] at H
         have i4 := beq_eq_false_iff_ne.mpr c32; have i5 := bne_iff_ne.mpr c32; obtain rfl := Option.some.inj H; obtain ⟨k9, l0, l1, l2, l3⟩ := cc5_ a5.out; obtain ⟨l4, l5, l6, l7, l8⟩ := cf5_ a5.out
         go_wp2_with (first | ((with_reducible refine gc_ 27 rfl ?_); refine gl_ (some 40) rfl Try.func27 #[.int .i64 a0_1] ?_; (with_reducible refine (impl_sizeOk.calls a0_1 true _ A28.out).mono ?_); rintro e w' ⟨rfl, ⟨nd, rfl⟩⟩; refine ⟨_, rfl, ?_⟩) | (go_at_call 27; (with_reducible refine (impl_sizeOk.calls a0_2 true _ A30.out).mono ?_); rintro e w' ⟨rfl, ⟨nd, rfl⟩⟩))
         go_ret
         exact ⟨by first | rfl | (simp [*, errW_none, errW_some] <;> rfl), by repeat (with_reducible first | exact HB.out | apply yab | apply yaa | apply yac | refine yae ?_ (Aside0.out ‹_›))⟩
       ·
        replace c31 := Bool.eq_false_iff.mpr c31
        subst c31
        rw [if_neg (show ¬ (false = true) by decide)] at H
        obtain rfl := Option.some.inj H; obtain ⟨l9, m0, m1, m2, m3⟩ := cc5_ a5.out; obtain ⟨m4, m5, m6, m7, m8⟩ := cf5_ a5.out
        go_wp2_with (first | ((with_reducible refine gc_ 27 rfl ?_); refine gl_ (some 40) rfl Try.func27 #[.int .i64 a0_1] ?_; (with_reducible refine (impl_sizeOk.calls a0_1 true _ A28.out).mono ?_); rintro e w' ⟨rfl, ⟨nd, rfl⟩⟩; refine ⟨_, rfl, ?_⟩) | (go_at_call 27; (with_reducible refine (impl_sizeOk.calls a0_2 false _ A30.out).mono ?_); rintro e w' ⟨rfl, ⟨nd, rfl⟩⟩))
        go_ret
        exact ⟨by first | rfl | (simp [*, errW_none, errW_some] <;> rfl), by repeat (with_reducible first | exact HB.out | apply yab | apply yaa | apply yac | refine yae ?_ (Aside0.out ‹_›))⟩
      ·
       replace c29 := Bool.eq_false_iff.mpr c29
       subst c29
       rw [if_neg (show ¬ (false = true) by decide)] at H
       obtain rfl := Option.some.inj H; obtain ⟨m9, n0, n1, n2, n3⟩ := cc5_ a5.out; obtain ⟨n4, n5, n6, n7, n8⟩ := cf5_ a5.out
       go_wp2_with (first | ((with_reducible refine gc_ 27 rfl ?_); refine gl_ (some 40) rfl Try.func27 #[.int .i64 a0_1] ?_; (with_reducible refine (impl_sizeOk.calls a0_1 false _ A28.out).mono ?_); rintro e w' ⟨rfl, ⟨nd, rfl⟩⟩; refine ⟨_, rfl, ?_⟩))
       go_ret
       exact ⟨by first | rfl | (simp [*, errW_none, errW_some] <;> rfl), by repeat (with_reducible first | exact HB.out | apply yab | apply yaa | apply yac | refine yae ?_ (Aside0.out ‹_›))⟩
     ·
      rw [if_neg c27] at H
      have i2 := beq_eq_false_iff_ne.mpr c27; have i3 := bne_iff_ne.mpr c27
      by_cases c37 : a0_0 = 8
      ·
       rw [if_pos c37] at H
       have i6 := beq_iff_eq.mpr c37; have i7 := bne_eq_false_iff_eq.mpr c37; clear c37; obtain ⟨s2, A38, H⟩ := bindA H; (try dsimp only at H)
       by_cases c39 : s2 = true
       ·
        subst c39
        rw [if_pos rfl] at H
        obtain ⟨s3, A40, H⟩ := bindA H; (try dsimp only at H)
        by_cases c41 : s3 = true
        ·
         subst c41
         rw [if_pos rfl] at H
         obtain ⟨s4, A42, H⟩ := bindA H; (try dsimp only at H)
         by_cases c43 : s4 = true
         ·
          subst c43
          rw [if_pos rfl] at H
          obtain rfl := Option.some.inj H; obtain ⟨n9, o0, o1, o2, o3⟩ := cc5_ a5.out; obtain ⟨o4, o5, o6, o7, o8⟩ := cf5_ a5.out
          go_wp2_with (first | ((with_reducible refine gc_ 31 rfl ?_); refine gl_ (some 60) rfl Try.func31 #[.int .i64 a0_1] ?_; (with_reducible refine (impl_partOk.calls a0_1 true _ A38.out).mono ?_); rintro e w' ⟨rfl, ⟨nd, rfl⟩⟩; refine ⟨_, rfl, ?_⟩) | (go_at_call 31; (with_reducible refine (impl_partOk.calls a0_2 true _ A40.out).mono ?_); rintro e w' ⟨rfl, ⟨nd, rfl⟩⟩) | (go_at_call 31; (with_reducible refine (impl_partOk.calls a0_3 true _ A42.out).mono ?_); rintro e w' ⟨rfl, ⟨nd, rfl⟩⟩))
          go_ret
          exact ⟨by first | rfl | (simp [*, errW_none, errW_some] <;> rfl), by repeat (with_reducible first | exact HB.out | apply yab | apply yaa | apply yac | refine yae ?_ (Aside0.out ‹_›))⟩
         ·
          replace c43 := Bool.eq_false_iff.mpr c43
          subst c43
          rw [if_neg (show ¬ (false = true) by decide)] at H
          obtain rfl := Option.some.inj H; obtain ⟨o9, p0, p1, p3, p4⟩ := cc5_ a5.out; obtain ⟨p5, p6, p7, p8, p9⟩ := cf5_ a5.out
          go_wp2_with (first | ((with_reducible refine gc_ 31 rfl ?_); refine gl_ (some 60) rfl Try.func31 #[.int .i64 a0_1] ?_; (with_reducible refine (impl_partOk.calls a0_1 true _ A38.out).mono ?_); rintro e w' ⟨rfl, ⟨nd, rfl⟩⟩; refine ⟨_, rfl, ?_⟩) | (go_at_call 31; (with_reducible refine (impl_partOk.calls a0_2 true _ A40.out).mono ?_); rintro e w' ⟨rfl, ⟨nd, rfl⟩⟩) | (go_at_call 31; (with_reducible refine (impl_partOk.calls a0_3 false _ A42.out).mono ?_); rintro e w' ⟨rfl, ⟨nd, rfl⟩⟩))
          go_ret
          exact ⟨by first | rfl | (simp [*, errW_none, errW_some] <;> rfl), by repeat (with_reducible first | exact HB.out | apply yab | apply yaa | apply yac | refine yae ?_ (Aside0.out ‹_›))⟩
        ·
         replace c41 := Bool.eq_false_iff.mpr c41
         subst c41
         rw [if_neg (show ¬ (false = true) by decide)] at H
         obtain rfl := Option.some.inj H; obtain ⟨q0, q1, q2, q3, q4⟩ := cc5_ a5.out; obtain ⟨q5, q6, q7, q8, q9⟩ := cf5_ a5.out
         go_wp2_with (first | ((with_reducible refine gc_ 31 rfl ?_); refine gl_ (some 60) rfl Try.func31 #[.int .i64 a0_1] ?_; (with_reducible refine (impl_partOk.calls a0_1 true _ A38.out).mono ?_); rintro e w' ⟨rfl, ⟨nd, rfl⟩⟩; refine ⟨_, rfl, ?_⟩) | (go_at_call 31; (with_reducible refine (impl_partOk.calls a0_2 false _ A40.out).mono ?_); rintro e w' ⟨rfl, ⟨nd, rfl⟩⟩))
         go_ret
         exact ⟨by first | rfl | (simp [*, errW_none, errW_some] <;> rfl), by repeat (with_reducible first | exact HB.out | apply yab | apply yaa | apply yac | refine yae ?_ (Aside0.out ‹_›))⟩
       ·
        replace c39 := Bool.eq_false_iff.mpr c39
        subst c39
        rw [if_neg (show ¬ (false = true) by decide)] at H
        obtain rfl := Option.some.inj H; obtain ⟨r0, r1, r2, r3, r4⟩ := cc5_ a5.out; obtain ⟨r5, r6, r7, r8, r9⟩ := cf5_ a5.out
        go_wp2_with (first | ((with_reducible refine gc_ 31 rfl ?_); refine gl_ (some 60) rfl Try.func31 #[.int .i64 a0_1] ?_; (with_reducible refine (impl_partOk.calls a0_1 false _ A38.out).mono ?_); rintro e w' ⟨rfl, ⟨nd, rfl⟩⟩; refine ⟨_, rfl, ?_⟩))
        go_ret
        exact ⟨by first | rfl | (simp [*, errW_none, errW_some] <;> rfl), by repeat (with_reducible first | exact HB.out | apply yab | apply yaa | apply yac | refine yae ?_ (Aside0.out ‹_›))⟩
      ·
       rw [if_neg c37] at H
       have i6 := beq_eq_false_iff_ne.mpr c37; have i7 := bne_iff_ne.mpr c37; obtain rfl := Option.some.inj H
       go_wp2
       go_ret
       exact ⟨by first | rfl | (simp [*, errW_none, errW_some] <;> rfl), by repeat (with_reducible first | exact HB.out | apply yab | apply yaa | apply yac | refine yae ?_ (Aside0.out ‹_›))⟩
end
end Go.Proofs.Ytljobjpldbdhoaa.X
